/- The document's own device: its model. The document's own device: the power goes. The document's own device: the power goes (the walk). The document's own device: an act, Do. The document's own device: Do, Arm. The document's own device: New. -/
import Derived.Test.YtnhnpjokpelkbaaGreatPp17
import Derived.Test.YtnhnpjokpelkbaaGreatPp15
import Derived.Test.YtnhnpjokpelkbaaGreatPp16
set_option linter.unusedVariables false
set_option linter.unusedSimpArgs false
set_option linter.unusedSectionVars false
set_option maxHeartbeats 1600000
namespace Go.Proofs.YtnhnpjokpelkbaaGreat
open Go Go.Proofs.Tryz
section
attribute [local irreducible] SW SL SQ SH SA Pu Fin
def rl(ws:List Wd):List Value:=ws.flatMap fun w=>w.lasts.map bv
def rn(ws:List Wd):List Value:=ws.flatMap fun w=>w.now.map bv
def rp(ws:List Wd):List Value:=ws.map fun w=>.bool w.pend
def rm(ws:List Wd):List Value:=ws.map fun w=>.bool w.mark
theorem aEt{ws:List Wd}(h:∀ w∈ws,w.Ok):(rn ws).length=8*ws.length:=by
 rw [rn,mE _ 8 _ (fun w hw=>by simpa using (h w hw).1.2)];omega
theorem aEr{ws:List Wd}(h:∀ w∈ws,w.Ok):(rl ws).length=8*ws.length:=by
 rw [rl,mE _ 8 _ (fun w hw=>by simpa using (h w hw).1.1)];omega
def iA(p:Nat)(σ:Dv)(H:Hp):Prop:=
 σ.Ok∧∃ bl bn bp bm vp va Hq Ha,Sl 5 1 vp (σ.picks.map bv) Hq∧Sl 247 3 va (σ.acts.flatMap ac) Ha ∧
  H=(p,cl [.slice (some ⟨bl,0,none⟩) σ.len σ.len,.slice (some ⟨bn,0,none⟩) σ.len σ.len,.slice (some ⟨bp,0,none⟩) σ.ws.length σ.ws.length,.slice (some ⟨bm,0,none⟩) σ.ws.length σ.ws.length,.bool σ.down,.int .i64 σ.fuse,vp,va] 214) ::
   (bl,cl (rl σ.ws) 5)::(bn,cl (rn σ.ws) 5)::(bp,cl (rp σ.ws) 4)::(bm,cl (rm σ.ws) 4)::(Hq++Ha)
theorem aMS{p:Nat}{σ:Dv}{H:Hp}(hD:iA p σ H):Tri prog 81 [.pointer (some ⟨p,0,none⟩)] H (fun _=>True) (fun v H'=>v=.tuple #[]∧iA p σ.on H'):=by
 obtain⟨hO,bl,bn,bp,bm,vp,va,Hq,Ha,h1,h2,rfl⟩:=hD
 have hof:One vp:=h1.one
 have hoa:One va:=h2.one
 refine Tri.mk func81 rfl ntmps81 rfl fun w hw=>?_
 (refine W.o ?_;repeat intro b_)
 exact Fin.s0 (.inr rfl) rfl ⟨rfl,Dv.on_ok hO,bl,bn,bp,bm,vp,va,Hq,Ha,h1,h2,rfl⟩
theorem wU{p:Nat}{σ:Dv}{H:Hp}(hD:iA p σ H)(x n:Int):Tri prog 199 [.pointer (some ⟨p,0,none⟩),.int .i64 x,.int .i64 n] H (fun _=>True) (fun v H'=>v=.int .i64 (σ.rdy x n)∧H'=H):=by
 obtain⟨hO,bl,bn,bp,bm,vp,va,Hq,Ha,h1,h2,rfl⟩:=hD
 have hof:One vp:=h1.one
 have hoa:One va:=h2.one
 have hn:σ.len≤65536:=by have:=hO.n;simp only [Dv.len];omega
 refine Tri.mk func199 rfl ntmps199 rfl fun w hw=>?_
 repeat' (first|(refine W.ow ?_;try intro b_)  | refine dX (pH rfl rfl rfl) rfl rfl (fun h_=>?_) (fun h_=>?_)|refine dX (pG rfl rfl rfl) rfl rfl (fun h_=>?_) (fun h_=>?_)|refine dX (pF rfl rfl rfl) rfl rfl (fun h_=>?_) (fun h_=>?_)|refine dX (pE rfl rfl rfl) rfl rfl (fun h_=>?_) (fun h_=>?_)|refine dX (nE rfl rfl rfl) rfl rfl (fun h_=>?_) (fun h_=>?_)|refine dX (pI rfl rfl rfl) rfl rfl (fun h_=>?_) (fun h_=>?_)|refine jK rfl (fun h_=>?_) (fun h_=>?_))
 all_goals (refine Fin.r1 (.inl rfl) rfl rfl _ ⟨?_,rfl⟩;unfold Dv.rdy;congr 1)
 all_goals (repeat' split)
 all_goals first|rfl|(exfalso;simp_all;done)|(exfalso;omega)
end
section
variable {P:Program}{C:Ctx}{ρ:Fr}{H H':Hp}{o:Oper}
theorem mT{t e n len cap l h b j m c:Nat}{x y y2:Operand}{k k2:IntKind}{i i2:Int}(ho:o.op=.slice t x (some y) (some y2) none)(hx:ev ρ x=some (.slice (some ⟨b,j,none⟩) len cap)) [ht:cI P t e n]
  (hy:ev ρ y=some (.int k i)) (hy2:ev ρ y2=some (.int k2 i2)) (hl:i=(l:Int)) (hh:i2=(h:Int)) (hlt:l<cap) (h2:h≤cap) (hm:l+m=h) {j':Nat} (hj:j+l*n=j') (hc:l+c=cap):Pu P C ρ H o (.slice (some ⟨b,j',none⟩) m c):=by
 have:=oW (P:=P) (C:=C) (H:=H) (vl:=none) (vh:=none) ho hx (ht:=ht) (l:=l) (h:=h) (.inr ⟨y,k,i,rfl,hy,hl⟩) (.inr ⟨y2,k2,i2,rfl,hy2,hh⟩) oQ h2
 have e1:lR (some ⟨b,j,none⟩) cap l n=some ⟨b,j',none⟩:=by
  unfold lR
  rw [if_neg oQ]
  simp only [Option.map_some,cV]
  subst hj
  unfold Addr.add
  split
  ·rename_i h0;rw [h0];rfl
  ·rfl
 have e2:h-l=m:=oQ
 have e3:cap-l=c:=oQ
 rw [e1,e2,e3] at this
 exact this
end
section
attribute [local irreducible] SW SL SQ SH SA Pu Fin
theorem aAD{A B x y:List Value}{m:Nat}(hA:A.length=m)(hx:x.length=8)(hy:y.length=8):(A++(x++B)).take m++y++(A++(x++B)).drop (m+y.length)=A++(y++B):=by
 subst hA
 rw [cW rfl,← cJ,eW rfl,eW oQ,aM]
theorem aKz{A B x:List Value}{m:Nat}(hA:A.length=m)(hx:x.length=8):((A++(x++B)).drop m).take (8*1)=x:=by
 subst hA
 rw [eW rfl,cW oQ]
theorem aCD(d t:List Wd)(u:Wd):rl (d++u::t)=rl d++(u.lasts.map bv++rl t):=by simp [rl]
theorem aCF(d t:List Wd)(u:Wd):rn (d++u::t)=rn d++(u.now.map bv++rn t):=by simp [rn]
theorem aCH(d t:List Wd)(u:Wd):rp (d++u::t)=rp d++(.bool u.pend::rp t):=by simp [rp]
theorem aCE(d t:List Wd)(u:Wd):rm (d++u::t)=rm d++(.bool u.mark::rm t):=by simp [rm]
theorem vC(d:List Wd):(rp d).length=d.length:=by simp [rp]
theorem wQ(d:List Wd):(rm d).length=d.length:=by simp [rm]
theorem wY{A B:List Value}{m:Nat}{x y:Value}(hA:A.length=m):(A++(x::B)).set m y=A++(y::B):=by
 subst hA;simp
theorem aHb(b:UInt8):((b.toNat:Int).tmod 2=1)↔((b &&& 1) == 1)=true:=by
 have h1:((b &&& 1) == 1)=true↔b.toNat%2=1:=by
  rw [beq_iff_eq,← kL,UInt8.toNat_and,UInt8.toNat_one,rQ]
 rw [h1]
 have:((b.toNat:Int)).tmod 2=((b.toNat%2:Nat):Int):=by rw [vZ];rfl
 rw [this];omega
def aBz(bl bn bp bm n:Nat)(d:Bool)(f:Int)(vp va:Value):Obj:=
 cl [.slice (some ⟨bl,0,none⟩) (8*n) (8*n),.slice (some ⟨bn,0,none⟩) (8*n) (8*n),.slice (some ⟨bp,0,none⟩) n n,.slice (some ⟨bm,0,none⟩) n n,.bool d,.int .i64 f,vp,va] 214
theorem aBt{p bl bn bp bm:Nat}{σ:Dv}(hO:σ.Ok)(vp va q:Value)(qs:List UInt8) :
  Tri prog 76 [.pointer (some ⟨p,0,none⟩),q]
   [(p,aBz bl bn bp bm σ.ws.length σ.down σ.fuse vp va),(bl,cl (rl σ.ws) 5),(bn,cl (rn σ.ws) 5),(bp,cl (rp σ.ws) 4),(bm,cl (rm σ.ws) 4)] (fun w=>Rd [p,bl,bn,bp,bm] w 1 q (qs.map bv))
   (fun v H'=>v=.tuple #[]∧H'=[(p,aBz bl bn bp bm (σ.crash qs).ws.length (σ.crash qs).down (σ.crash qs).fuse vp va),(bl,cl (rl (σ.crash qs).ws) 5),(bn,cl (rn (σ.crash qs).ws) 5),(bp,cl (rp (σ.crash qs).ws) 4),(bm,cl (rm (σ.crash qs).ws) 4)]):=by
 unfold aBz
 obtain⟨ws,dn,fu,pk,ak⟩:=σ
 have hn:=hO.n
 have hok:=hO.ok
 simp only at hn hok
 refine Tri.mk func76 rfl ntmps76 rfl fun w hw=>?_
 obtain⟨a,len,cap,rfl,hlen,hcap,hrd⟩:=hw
 rw [aD,Nat.mul_one] at hlen
 cases dn
 ·dsimp only
  refine W.o ?_
  refine zT (fun x:List Wd×List Wd×Nat=>[(0,.pointer (some ⟨p,0,none⟩)),(1,.slice a len cap),(4,.int .i64 x.2.2),(14,.int .i64 ws.length),(15,.int .i64 x.1.length)])
   (fun x=>[(p,aBz bl bn bp bm ws.length false fu vp va),(bl,cl (rl (x.1++x.2.1)) 5),(bn,cl (rn (x.1++x.2.1)) 5),(bp,cl (rp (x.1++x.2.1)) 4),(bm,cl (rm (x.1++x.2.1)) 4)])
   (fun x=>x.2.1.length) (fun x=>kE qs 0 ws=x.1++kE qs x.2.2 x.2.1∧x.1.length+x.2.1.length=ws.length∧x.2.2≤x.1.length∧(∀ w∈x.1++x.2.1,w.Ok))
   ([],ws,0) ⟨rfl,rfl,rfl,rfl,rfl,trivial⟩ (by dsimp only [List.nil_append,aBz];infer_instance) ⟨rfl,by simp,Nat.le_refl _,hok⟩ ?_
  rintro⟨done,todo,j⟩ ⟨hc,hl,hj,hk⟩
  dsimp only [aBz] at hc hl hj hk ⊢
  cases todo with
  | nil=>
   have hl2:done.length=ws.length:=by simpa using hl
   refine W.o ?_
   refine Fin.s0 (.inr rfl) rfl ⟨rfl,?_⟩
   simp [Dv.crash,hc,kE,hl2]
  | cons u t=>
   have hl2:done.length+(t.length+1)=ws.length:=by simpa using hl
   have hu:u.Ok:=hk u (by simp)
   rw [aCD,aCF,aCH,aCE]
   have hpg:(rp done++(.bool u.pend::rp t))[done.length]?=some (.bool u.pend):=by
    rw [aY (by rw [vC];exact Nat.le_refl _),vC];simp
   refine W.o ?_
   refine bP (gY rfl rfl rfl oQ oQ (j':=done.length) oQ) rfl rfl ?_
   refine W.o ?_
   have hlp:done.length<(rp done++(Value.bool u.pend::rp t)).length:=by rw [aB,vC];simp
   have hlm:done.length<(rm done++(Value.bool u.mark::rm t)).length:=by rw [aB,wQ];simp
   have hdk:∀ w∈done,w.Ok:=fun w hw=>hk w (by simp [hw])
   have hA:=aEr hdk
   have hB:=aEt hdk
   obtain⟨la,no,pe,ma⟩:=u
   dsimp only at hpg hlp hlm
   cases pe
   ·have hma:ma=false:=by
     cases ma with
     | false=>rfl
     | true=>exact absurd (hu.2 rfl) (by simp)
    subst hma
    refine W.o ?_
    refine bP (gY rfl rfl rfl oQ oQ (j':=done.length) oQ) rfl rfl ?_
    refine W.o ?_
    refine bP (gY rfl rfl rfl oQ oQ (j':=done.length) oQ) rfl rfl ?_
    refine W.o ?_
    rw [wY (vC done),wY (wQ done)]
    refine sK.eq (done++[⟨la,no,false,false⟩],t,j) (by simp) ⟨rfl,rfl,rfl,rfl,?_,trivial⟩ ?_ ⟨?_,?_,?_,?_⟩
    ·simp [lk,pt]
    ·simp [aCD,aCF,aCH,aCE,aBz]
    ·rw [hc];simp [kE]
    ·simp;omega
    ·simp;omega
    ·simpa using hk
   ·have h8n:(no.map bv).length=8:=by simpa using hu.1.2
    have h8l:(la.map bv).length=8:=by simpa using hu.1.1
    rcases fW len with h0|h0
    ·subst h0
     have hq:qs=[]:=bJ hlen
     have hbt:yS qs j=false:=by subst hq;simp [yS]
     have hLL:=hu.1.1
     refine W.o ?_
     refine mO [p] 99 kQ ?_
     (refine SA.take 0 rfl kQ (fun _ _ _ h=>Fin.np h) rfl rfl (fB rfl rfl) ?_;refine SA.take 1 rfl kQ (fun _ _ _ h=>Fin.np h) rfl rfl (sA rfl rfl) ?_;refine SA.take 2 rfl kQ (fun _ _ _ h=>Fin.np h) rfl rfl (gM rfl rfl rfl) ?_;refine SA.take 3 rfl kQ (fun _ _ _ h=>Fin.np h) rfl rfl (jI rfl rfl rfl) ?_;refine SA.take 4 rfl kQ (fun _ _ _ h=>Fin.np h) rfl rfl (fB rfl rfl) ?_;refine SA.take 5 rfl kQ (fun _ _ _ h=>Fin.np h) rfl rfl (kR rfl rfl rfl (w64 oQ)) ?_;refine SA.take 6 rfl kQ (fun _ _ _ h=>Fin.np h) rfl rfl (fB rfl rfl) ?_;refine SA.take 7 rfl kQ (fun _ _ _ h=>Fin.np h) rfl rfl (kR rfl rfl rfl (w64 oQ)) ?_;refine SA.take 8 rfl kQ (fun _ _ _ h=>Fin.np h) rfl rfl (tV rfl rfl rfl (w64 oQ)) ?_)
     refine SA.take 9 rfl kQ (fun _ _ _ h=>Fin.np h) rfl rfl (mT (l:=8*done.length) (m:=8) (h:=8*done.length+8) (j':=8*done.length) (c:=8*ws.length-8*done.length) rfl rfl rfl rfl oQ oQ oQ oQ oQ oQ oQ) ?_
     (refine SA.take 10 rfl kQ (fun _ _ _ h=>Fin.np h) rfl rfl (fB rfl rfl) ?_;refine SA.take 11 rfl kQ (fun _ _ _ h=>Fin.np h) rfl rfl (sA rfl rfl) ?_;refine SA.take 12 rfl kQ (fun _ _ _ h=>Fin.np h) rfl rfl (gM rfl rfl rfl) ?_;refine SA.take 13 rfl kQ (fun _ _ _ h=>Fin.np h) rfl rfl (jI rfl rfl rfl) ?_;refine SA.take 14 rfl kQ (fun _ _ _ h=>Fin.np h) rfl rfl (fB rfl rfl) ?_;refine SA.take 15 rfl kQ (fun _ _ _ h=>Fin.np h) rfl rfl (kR rfl rfl rfl (w64 oQ)) ?_;refine SA.take 16 rfl kQ (fun _ _ _ h=>Fin.np h) rfl rfl (fB rfl rfl) ?_;refine SA.take 17 rfl kQ (fun _ _ _ h=>Fin.np h) rfl rfl (kR rfl rfl rfl (w64 oQ)) ?_;refine SA.take 18 rfl kQ (fun _ _ _ h=>Fin.np h) rfl rfl (tV rfl rfl rfl (w64 oQ)) ?_)
     refine SA.take 19 rfl kQ (fun _ _ _ h=>Fin.np h) rfl rfl (mT (l:=8*done.length) (m:=8) (h:=8*done.length+8) (j':=8*done.length) (c:=8*ws.length-8*done.length) rfl rfl rfl rfl oQ oQ oQ oQ oQ oQ oQ) ?_
     refine SA.one 20 rfl kQ ?_
     refine zQ (m:=8) (ys:=la.map bv) rfl rfl rfl rfl rfl (fun w2 hs=>(eU.block (m:=8) (size:=1) (hs.at (b:=bl)) (aKz hA h8l) (by simpa using h8l)) w2 rfl) (by rw [aB,aB];omega) (aAD hB h8n h8l) ?_
     refine jG ?_
     refine Beh.mk ?_
     refine SA.done kQ ?_
     refine W.o ?_
     refine bP (gY rfl rfl rfl oQ oQ (j':=done.length) oQ) rfl rfl ?_
     refine W.o ?_
     refine bP (gY rfl rfl rfl oQ oQ (j':=done.length) oQ) rfl rfl ?_
     refine W.o ?_
     rw [wY (vC done),wY (wQ done)]
     refine sK.eq (done++[⟨la,la,false,false⟩],t,j+1) (by simp) ⟨rfl,rfl,rfl,rfl,?_,trivial⟩ ?_ ⟨?_,?_,?_,?_⟩
     ·simp [lk,pt]
     ·simp [aCD,aCF,aCH,aCE,aBz]
     ·rw [hc];simp only [kE,cond_true,Wd.crash];rw [hbt];simp
     ·simp;omega
     ·simp;omega
     ·have hk2:∀ w∈t,w.Ok:=fun w hw=>hk w (by simp [hw])
      intro w hw
      simp only [bK,bZ,dN,or_false] at hw
      rcases hw with (hw|rfl)|hw
      ·exact hdk w hw
      ·exact⟨⟨hLL,hLL⟩,by simp⟩
      ·exact hk2 w hw
    ·obtain⟨b,o,l,T,fz,rfl,hb,hbk,hrow⟩:=hrd.resolve_left oQ
     obtain⟨x,hx⟩:∃ x,qs[j%qs.length]?=some x:=⟨_,aA (Nat.mod_lt _ oQ)⟩
     have hlx:l[o+(j%len)*1]?=some (bv x):=by
      have:=congrArg (fun z=>z[j%len]?) hrow
      rw [bE,if_pos (by have:=Nat.mod_lt j h0;omega),bI,aJ,← hlen,hx] at this
      rw [Nat.mul_one,← hlen];exact this
     refine W.o ?_
     refine bP (aCw rfl rfl rfl oQ (r:=((j%len:Nat):Int)) (by rw [vZ])) rfl rfl ?_
     refine bP (gY rfl rfl rfl oQ (by have:=Nat.mod_lt j h0;omega) (j':=o+(j%len)*1) (by rw [aP])) rfl rfl ?_
     refine bP (uA rfl rfl hb hbk hlx) rfl rfl ?_
     refine bP (aCw rfl rfl rfl dQ rfl) rfl rfl ?_
     by_cases hbit:((x &&& 1) == 1)=true
     ·have hbt:yS qs j=true:=by simp only [yS,hx,hbit]
      have hLL:=hu.1.2
      refine bP (Pu.t (nE rfl rfl rfl) ((aHb x).2 hbit)) rfl rfl ?_
      refine W.o ?_
      refine mO [p] 99 kQ ?_
      (refine SA.take 0 rfl kQ (fun _ _ _ h=>Fin.np h) rfl rfl (fB rfl rfl) ?_;refine SA.take 1 rfl kQ (fun _ _ _ h=>Fin.np h) rfl rfl (sA rfl rfl) ?_;refine SA.take 2 rfl kQ (fun _ _ _ h=>Fin.np h) rfl rfl (gM rfl rfl rfl) ?_;refine SA.take 3 rfl kQ (fun _ _ _ h=>Fin.np h) rfl rfl (jI rfl rfl rfl) ?_;refine SA.take 4 rfl kQ (fun _ _ _ h=>Fin.np h) rfl rfl (fB rfl rfl) ?_;refine SA.take 5 rfl kQ (fun _ _ _ h=>Fin.np h) rfl rfl (kR rfl rfl rfl (w64 oQ)) ?_;refine SA.take 6 rfl kQ (fun _ _ _ h=>Fin.np h) rfl rfl (fB rfl rfl) ?_;refine SA.take 7 rfl kQ (fun _ _ _ h=>Fin.np h) rfl rfl (kR rfl rfl rfl (w64 oQ)) ?_;refine SA.take 8 rfl kQ (fun _ _ _ h=>Fin.np h) rfl rfl (tV rfl rfl rfl (w64 oQ)) ?_)
      refine SA.take 9 rfl kQ (fun _ _ _ h=>Fin.np h) rfl rfl (mT (l:=8*done.length) (m:=8) (h:=8*done.length+8) (j':=8*done.length) (c:=8*ws.length-8*done.length) rfl rfl rfl rfl oQ oQ oQ oQ oQ oQ oQ) ?_
      (refine SA.take 10 rfl kQ (fun _ _ _ h=>Fin.np h) rfl rfl (fB rfl rfl) ?_;refine SA.take 11 rfl kQ (fun _ _ _ h=>Fin.np h) rfl rfl (sA rfl rfl) ?_;refine SA.take 12 rfl kQ (fun _ _ _ h=>Fin.np h) rfl rfl (gM rfl rfl rfl) ?_;refine SA.take 13 rfl kQ (fun _ _ _ h=>Fin.np h) rfl rfl (jI rfl rfl rfl) ?_;refine SA.take 14 rfl kQ (fun _ _ _ h=>Fin.np h) rfl rfl (fB rfl rfl) ?_;refine SA.take 15 rfl kQ (fun _ _ _ h=>Fin.np h) rfl rfl (kR rfl rfl rfl (w64 oQ)) ?_;refine SA.take 16 rfl kQ (fun _ _ _ h=>Fin.np h) rfl rfl (fB rfl rfl) ?_;refine SA.take 17 rfl kQ (fun _ _ _ h=>Fin.np h) rfl rfl (kR rfl rfl rfl (w64 oQ)) ?_;refine SA.take 18 rfl kQ (fun _ _ _ h=>Fin.np h) rfl rfl (tV rfl rfl rfl (w64 oQ)) ?_)
      refine SA.take 19 rfl kQ (fun _ _ _ h=>Fin.np h) rfl rfl (mT (l:=8*done.length) (m:=8) (h:=8*done.length+8) (j':=8*done.length) (c:=8*ws.length-8*done.length) rfl rfl rfl rfl oQ oQ oQ oQ oQ oQ oQ) ?_
      refine SA.one 20 rfl kQ ?_
      refine zQ (m:=8) (ys:=no.map bv) rfl rfl rfl rfl rfl (fun w2 hs=>(eU.block (m:=8) (size:=1) (hs.at (b:=bn)) (aKz hB h8n) (by simpa using h8n)) w2 rfl) (by rw [aB,aB];omega) (aAD hA h8l h8n) ?_
      refine jG ?_
      refine Beh.mk ?_
      refine SA.done kQ ?_
      refine W.o ?_
      refine mO [p] 99 kQ ?_
      (refine SA.take 0 rfl kQ (fun _ _ _ h=>Fin.np h) rfl rfl (fB rfl rfl) ?_;refine SA.take 1 rfl kQ (fun _ _ _ h=>Fin.np h) rfl rfl (sA rfl rfl) ?_;refine SA.take 2 rfl kQ (fun _ _ _ h=>Fin.np h) rfl rfl (gM rfl rfl rfl) ?_;refine SA.take 3 rfl kQ (fun _ _ _ h=>Fin.np h) rfl rfl (jI rfl rfl rfl) ?_;refine SA.take 4 rfl kQ (fun _ _ _ h=>Fin.np h) rfl rfl (fB rfl rfl) ?_;refine SA.take 5 rfl kQ (fun _ _ _ h=>Fin.np h) rfl rfl (kR rfl rfl rfl (w64 oQ)) ?_;refine SA.take 6 rfl kQ (fun _ _ _ h=>Fin.np h) rfl rfl (fB rfl rfl) ?_;refine SA.take 7 rfl kQ (fun _ _ _ h=>Fin.np h) rfl rfl (kR rfl rfl rfl (w64 oQ)) ?_;refine SA.take 8 rfl kQ (fun _ _ _ h=>Fin.np h) rfl rfl (tV rfl rfl rfl (w64 oQ)) ?_)
      refine SA.take 9 rfl kQ (fun _ _ _ h=>Fin.np h) rfl rfl (mT (l:=8*done.length) (m:=8) (h:=8*done.length+8) (j':=8*done.length) (c:=8*ws.length-8*done.length) rfl rfl rfl rfl oQ oQ oQ oQ oQ oQ oQ) ?_
      (refine SA.take 10 rfl kQ (fun _ _ _ h=>Fin.np h) rfl rfl (fB rfl rfl) ?_;refine SA.take 11 rfl kQ (fun _ _ _ h=>Fin.np h) rfl rfl (sA rfl rfl) ?_;refine SA.take 12 rfl kQ (fun _ _ _ h=>Fin.np h) rfl rfl (gM rfl rfl rfl) ?_;refine SA.take 13 rfl kQ (fun _ _ _ h=>Fin.np h) rfl rfl (jI rfl rfl rfl) ?_;refine SA.take 14 rfl kQ (fun _ _ _ h=>Fin.np h) rfl rfl (fB rfl rfl) ?_;refine SA.take 15 rfl kQ (fun _ _ _ h=>Fin.np h) rfl rfl (kR rfl rfl rfl (w64 oQ)) ?_;refine SA.take 16 rfl kQ (fun _ _ _ h=>Fin.np h) rfl rfl (fB rfl rfl) ?_;refine SA.take 17 rfl kQ (fun _ _ _ h=>Fin.np h) rfl rfl (kR rfl rfl rfl (w64 oQ)) ?_;refine SA.take 18 rfl kQ (fun _ _ _ h=>Fin.np h) rfl rfl (tV rfl rfl rfl (w64 oQ)) ?_)
      refine SA.take 19 rfl kQ (fun _ _ _ h=>Fin.np h) rfl rfl (mT (l:=8*done.length) (m:=8) (h:=8*done.length+8) (j':=8*done.length) (c:=8*ws.length-8*done.length) rfl rfl rfl rfl oQ oQ oQ oQ oQ oQ oQ) ?_
      refine SA.one 20 rfl kQ ?_
      refine zQ (m:=8) (ys:=no.map bv) rfl rfl rfl rfl rfl (fun w2 hs=>(eU.block (m:=8) (size:=1) (hs.at (b:=bl)) (aKz hA h8n) (by simpa using h8n)) w2 rfl) (by rw [aB,aB];omega) (aAD hB h8n h8n) ?_
      refine jG ?_
      refine Beh.mk ?_
      refine SA.done kQ ?_
      refine W.o ?_
      refine bP (gY rfl rfl rfl oQ oQ (j':=done.length) oQ) rfl rfl ?_
      refine W.o ?_
      refine bP (gY rfl rfl rfl oQ oQ (j':=done.length) oQ) rfl rfl ?_
      refine W.o ?_
      rw [wY (vC done),wY (wQ done)]
      refine sK.eq (done++[⟨no,no,false,false⟩],t,j+1) (by simp) ⟨rfl,rfl,rfl,rfl,?_,trivial⟩ ?_ ⟨?_,?_,?_,?_⟩
      ·simp [lk,pt]
      ·simp [aCD,aCF,aCH,aCE,aBz]
      ·rw [hc];simp only [kE,cond_true,Wd.crash];rw [hbt];simp
      ·simp;omega
      ·simp;omega
      ·have hk2:∀ w∈t,w.Ok:=fun w hw=>hk w (by simp [hw])
       intro w hw
       simp only [bK,bZ,dN,or_false] at hw
       rcases hw with (hw|rfl)|hw
       ·exact hdk w hw
       ·exact⟨⟨hLL,hLL⟩,by simp⟩
       ·exact hk2 w hw
     ·have hbt:yS qs j=false:=by simp only [Bool.not_eq_true] at hbit;simp only [yS,hx,hbit]
      have hLL:=hu.1.1
      refine bP (Pu.f (nE rfl rfl rfl) (fun h=>hbit ((aHb x).1 h))) rfl rfl ?_
      refine W.o ?_
      refine mO [p] 99 kQ ?_
      (refine SA.take 0 rfl kQ (fun _ _ _ h=>Fin.np h) rfl rfl (fB rfl rfl) ?_;refine SA.take 1 rfl kQ (fun _ _ _ h=>Fin.np h) rfl rfl (sA rfl rfl) ?_;refine SA.take 2 rfl kQ (fun _ _ _ h=>Fin.np h) rfl rfl (gM rfl rfl rfl) ?_;refine SA.take 3 rfl kQ (fun _ _ _ h=>Fin.np h) rfl rfl (jI rfl rfl rfl) ?_;refine SA.take 4 rfl kQ (fun _ _ _ h=>Fin.np h) rfl rfl (fB rfl rfl) ?_;refine SA.take 5 rfl kQ (fun _ _ _ h=>Fin.np h) rfl rfl (kR rfl rfl rfl (w64 oQ)) ?_;refine SA.take 6 rfl kQ (fun _ _ _ h=>Fin.np h) rfl rfl (fB rfl rfl) ?_;refine SA.take 7 rfl kQ (fun _ _ _ h=>Fin.np h) rfl rfl (kR rfl rfl rfl (w64 oQ)) ?_;refine SA.take 8 rfl kQ (fun _ _ _ h=>Fin.np h) rfl rfl (tV rfl rfl rfl (w64 oQ)) ?_)
      refine SA.take 9 rfl kQ (fun _ _ _ h=>Fin.np h) rfl rfl (mT (l:=8*done.length) (m:=8) (h:=8*done.length+8) (j':=8*done.length) (c:=8*ws.length-8*done.length) rfl rfl rfl rfl oQ oQ oQ oQ oQ oQ oQ) ?_
      (refine SA.take 10 rfl kQ (fun _ _ _ h=>Fin.np h) rfl rfl (fB rfl rfl) ?_;refine SA.take 11 rfl kQ (fun _ _ _ h=>Fin.np h) rfl rfl (sA rfl rfl) ?_;refine SA.take 12 rfl kQ (fun _ _ _ h=>Fin.np h) rfl rfl (gM rfl rfl rfl) ?_;refine SA.take 13 rfl kQ (fun _ _ _ h=>Fin.np h) rfl rfl (jI rfl rfl rfl) ?_;refine SA.take 14 rfl kQ (fun _ _ _ h=>Fin.np h) rfl rfl (fB rfl rfl) ?_;refine SA.take 15 rfl kQ (fun _ _ _ h=>Fin.np h) rfl rfl (kR rfl rfl rfl (w64 oQ)) ?_;refine SA.take 16 rfl kQ (fun _ _ _ h=>Fin.np h) rfl rfl (fB rfl rfl) ?_;refine SA.take 17 rfl kQ (fun _ _ _ h=>Fin.np h) rfl rfl (kR rfl rfl rfl (w64 oQ)) ?_;refine SA.take 18 rfl kQ (fun _ _ _ h=>Fin.np h) rfl rfl (tV rfl rfl rfl (w64 oQ)) ?_)
      refine SA.take 19 rfl kQ (fun _ _ _ h=>Fin.np h) rfl rfl (mT (l:=8*done.length) (m:=8) (h:=8*done.length+8) (j':=8*done.length) (c:=8*ws.length-8*done.length) rfl rfl rfl rfl oQ oQ oQ oQ oQ oQ oQ) ?_
      refine SA.one 20 rfl kQ ?_
      refine zQ (m:=8) (ys:=la.map bv) rfl rfl rfl rfl rfl (fun w2 hs=>(eU.block (m:=8) (size:=1) (hs.at (b:=bl)) (aKz hA h8l) (by simpa using h8l)) w2 rfl) (by rw [aB,aB];omega) (aAD hB h8n h8l) ?_
      refine jG ?_
      refine Beh.mk ?_
      refine SA.done kQ ?_
      refine W.o ?_
      refine bP (gY rfl rfl rfl oQ oQ (j':=done.length) oQ) rfl rfl ?_
      refine W.o ?_
      refine bP (gY rfl rfl rfl oQ oQ (j':=done.length) oQ) rfl rfl ?_
      refine W.o ?_
      rw [wY (vC done),wY (wQ done)]
      refine sK.eq (done++[⟨la,la,false,false⟩],t,j+1) (by simp) ⟨rfl,rfl,rfl,rfl,?_,trivial⟩ ?_ ⟨?_,?_,?_,?_⟩
      ·simp [lk,pt]
      ·simp [aCD,aCF,aCH,aCE,aBz]
      ·rw [hc];simp only [kE,cond_true,Wd.crash];rw [hbt];simp
      ·simp;omega
      ·simp;omega
      ·have hk2:∀ w∈t,w.Ok:=fun w hw=>hk w (by simp [hw])
       intro w hw
       simp only [bK,bZ,dN,or_false] at hw
       rcases hw with (hw|rfl)|hw
       ·exact hdk w hw
       ·exact⟨⟨hLL,hLL⟩,by simp⟩
       ·exact hk2 w hw
 ·dsimp only
  refine W.o ?_
  refine Fin.s0 (.inl rfl) rfl ⟨rfl,rfl⟩
theorem aEo{p:Nat}{σ:Dv}{H:Hp}(hD:iA p σ H)(hnd:σ.down=false)(k x n:Int):Tri prog 233 [.pointer (some ⟨p,0,none⟩),.int .i64 k,.int .i64 x,.int .i64 n] H (fun _=>True)
  (fun v H'=>v=.int .i64 σ.actE∧iA p (σ.act (k,x,n)) H'):=by
 obtain⟨hO,bl,bn,bp,bm,vp,va,Hq,Ha,h1,h2,rfl⟩:=hD
 have hf0:=hO.f0
 have hf1:=hO.f1
 have ha:=hO.a
 have hof:One vp:=h1.one
 obtain⟨aa,la,ca,rfl,hla⟩:=h2.form
 have hla2:la=σ.acts.length:=by rw [mE ac 3 _ (fun x _=>rfl)] at hla;omega
 subst hla2
 refine Tri.mk func233 rfl ntmps233 rfl fun w hw=>?_
 by_cases c1:σ.fuse=1
 ·have hc:=aBt (p:=p) (bl:=bl) (bn:=bn) (bp:=bp) (bm:=bm) hO vp (.slice aa σ.acts.length ca) vp σ.picks
  unfold aBz at hc
  refine W.o ?_
  refine aEX [p,bl,bn,bp,bm] rfl rfl rfl rfl hc (fun w hs=>Rd.ownB [p,bl,bn,bp,bm] h1 hs) ?_
  rintro _ _ ⟨rfl,rfl⟩
  refine W.o ?_
  have he:σ.act (k,x,n)=σ.crash σ.picks:=by simp [Dv.act,c1,Dv.crash,hnd]
  rw [he]
  exact Fin.s1 (.inl rfl) rfl rfl ⟨by simp [Dv.actE,c1],Dv.crash_ok _ hO,bl,bn,bp,bm,vp,_,Hq,Ha,by unfold Dv.crash;rw [hnd];exact h1,by unfold Dv.crash;rw [hnd];exact h2,rfl⟩
 ·by_cases c0:1<σ.fuse
  ·refine W.o ?_
   by_cases c2:σ.acts.length<16384
   ·refine W.o ?_
    refine iK (n:=3) rfl rfl rfl rfl (by rfl) dQ (by rfl) dQ (fun b2=>?_)
    refine SL.append (n:=3) (m:=1) (ys:=ac (k,x,n)) Ha rfl rfl rfl rfl rfl h2 (fun w hs=>eU.block (hs.at (b:=b2)) rfl rfl) rfl rfl dQ dQ ?_ (fun v2 Ha2 h3=>?_)
    ·rw [hla];simp [ac];omega
    have hov:One v2:=h3.one
    refine W.o ?_
    refine Fin.rm b2 ?_
    have hl2:(σ.acts++[(k,x,n)]).flatMap ac=σ.acts.flatMap ac++ac (k,x,n):=by simp
    rw [← hl2] at h3
    have c3:0<σ.fuse:=oQ
    have he:σ.act (k,x,n)=({ σ with fuse:=(σ.fuse-1),acts:=σ.acts++[(k,x,n)] }:Dv):=by simp [Dv.act,Dv.push,c1,c2,c3]
    rw [he]
    exact Fin.perm cD (Fin.s1 (.inl rfl) rfl rfl ⟨by simp [Dv.actE,c1],⟨hO.n,hO.ok,by dsimp only;omega,by dsimp only;omega,by simp;omega⟩,bl,bn,bp,bm,vp,v2,Hq,Ha2,h1,h3,by rw [aH];rfl⟩)
   ·refine W.o ?_
    have c3:0<σ.fuse:=oQ
    have he:σ.act (k,x,n)=({ σ with fuse:=(σ.fuse-1) }:Dv):=by simp [Dv.act,Dv.push,c1,c2,c3]
    rw [he]
    exact Fin.s1 (.inl rfl) rfl rfl ⟨by simp [Dv.actE,c1],Dv.fuse_ok _ hO oQ oQ,bl,bn,bp,bm,vp,_,Hq,Ha,h1,h2,rfl⟩
  ·refine W.o ?_
   by_cases c2:σ.acts.length<16384
   ·refine W.o ?_
    refine iK (n:=3) rfl rfl rfl rfl (by rfl) dQ (by rfl) dQ (fun b2=>?_)
    refine SL.append (n:=3) (m:=1) (ys:=ac (k,x,n)) Ha rfl rfl rfl rfl rfl h2 (fun w hs=>eU.block (hs.at (b:=b2)) rfl rfl) rfl rfl dQ dQ ?_ (fun v2 Ha2 h3=>?_)
    ·rw [hla];simp [ac];omega
    have hov:One v2:=h3.one
    refine W.o ?_
    refine Fin.rm b2 ?_
    have hl2:(σ.acts++[(k,x,n)]).flatMap ac=σ.acts.flatMap ac++ac (k,x,n):=by simp
    rw [← hl2] at h3
    have c3:¬ 0<σ.fuse:=oQ
    have he:σ.act (k,x,n)=({ σ with fuse:=σ.fuse,acts:=σ.acts++[(k,x,n)] }:Dv):=by simp [Dv.act,Dv.push,c2,c3]
    rw [he]
    exact Fin.perm cD (Fin.s1 (.inl rfl) rfl rfl ⟨by simp [Dv.actE,c1],⟨hO.n,hO.ok,by dsimp only;omega,by dsimp only;omega,by simp;omega⟩,bl,bn,bp,bm,vp,v2,Hq,Ha2,h1,h3,by rw [aH];rfl⟩)
   ·refine W.o ?_
    have c3:¬ 0<σ.fuse:=oQ
    have he:σ.act (k,x,n)=({ σ with fuse:=σ.fuse }:Dv):=by simp [Dv.act,Dv.push,c2,c3]
    rw [he]
    exact Fin.s1 (.inl rfl) rfl rfl ⟨by simp [Dv.actE,c1],Dv.fuse_ok _ hO oQ oQ,bl,bn,bp,bm,vp,_,Hq,Ha,h1,h2,rfl⟩
theorem aDv(l r:Hp)(a b c d e:Nat×Obj):(l++a::b::c::d::e::r).Perm (a::b::c::d::e::(l++r)):=
 gR.trans ((gR.trans ((gR.trans ((gR.trans (List.perm_middle.cons d)).cons c)).cons b)).cons a)
theorem aOb{p:Nat}{σ:Dv}{H:Hp}(hD:iA p σ H):Tri prog 234 [.pointer (some ⟨p,0,none⟩)] H (fun _=>True) (fun v H'=>v=.int .i64 σ.dooE∧iA p σ.doo H'):=by
 have hr:=wU hD 0 0
 rw [Dv.rdy00] at hr
 refine Tri.mk func234 rfl ntmps234 rfl fun w hw=>?_
 by_cases hd:σ.down=true
 ·rw [if_pos hd] at hr
  repeat' (first|(refine sP ?_;refine zR rfl rfl ?_)|(refine pK ?_;((refine oM _ rfl rfl rfl rfl hr (fun _ _=>trivial) ?_;rintro _ _ ⟨rfl,rfl⟩)))|(refine W.ow ?_;try intro b_)  | refine dX (pH rfl rfl rfl) rfl rfl (fun h_=>?_) (fun h_=>?_)|refine dX (pG rfl rfl rfl) rfl rfl (fun h_=>?_) (fun h_=>?_)|refine dX (pF rfl rfl rfl) rfl rfl (fun h_=>?_) (fun h_=>?_)|refine dX (pE rfl rfl rfl) rfl rfl (fun h_=>?_) (fun h_=>?_)|refine dX (nE rfl rfl rfl) rfl rfl (fun h_=>?_) (fun h_=>?_)|refine dX (pI rfl rfl rfl) rfl rfl (fun h_=>?_) (fun h_=>?_)|refine jK rfl (fun h_=>?_) (fun h_=>?_))
  rw [aH]
  exact Fin.s1 (.inl rfl) rfl rfl ⟨by simp [Dv.dooE,hd],by simpa [Dv.doo,hd] using hD⟩
 ·rw [if_neg hd] at hr
  have ha:=aEo hD (by simpa using hd) 4 0 0
  refine W.o ?_
  refine oM _ rfl rfl rfl rfl hr (fun _ _=>trivial) ?_
  rintro _ _ ⟨rfl,rfl⟩
  refine W.o ?_
  refine oM _ rfl rfl rfl rfl ha (fun _ _=>trivial) ?_
  rintro _ _ ⟨rfl,hD2⟩
  refine W.o ?_
  rw [aH]
  exact Fin.s1 (.inl rfl) rfl rfl ⟨by simp [Dv.dooE,hd],by simpa [Dv.doo,hd] using hD2⟩
theorem aN7{p:Nat}{σ:Dv}{H:Hp}(hD:iA p σ H)(n:Int)(hn:n≤9223372036854775807)(v:Value)(qs:List UInt8)(hq:qs.length≤1048576):Tri prog 78 [.pointer (some ⟨p,0,none⟩),.int .i64 n,v] H (fun w=>Rd (H.map Prod.fst) w 1 v (qs.map bv))
  (fun v H'=>v=.tuple #[]∧iA p (σ.arm n qs) H'):=by
 obtain⟨hO,bl,bn,bp,bm,vp,va,Hq,Ha,h1,h2,rfl⟩:=hD
 have hof:One vp:=h1.one
 have hoa:One va:=h2.one
 refine Tri.mk func78 rfl ntmps78 rfl fun w hw=>?_
 obtain⟨a,len,cap,rfl,hlen,hcap,hrd⟩:=id hw
 have hlen2:qs.length=len:=by simpa using hlen
 by_cases c:n<0
 ·(refine W.o ?_;repeat intro b_)
  refine iK (n:=1) (r:=[]) rfl rfl rfl rfl (by rfl) dQ (by rfl) dQ (fun b2=>?_)
  (refine W.o ?_;repeat intro b_)
  refine SL.append (n:=1) (m:=len) (ys:=qs.map bv) (xs:=[]) [(b2,cl [] 5)] rfl rfl rfl rfl rfl (.inr ⟨b2,0,0,[],rfl,rfl,rfl,Nat.le_refl _,rfl⟩) (fun w2 hs=>Rd.srcAt hw (hs.tail (List.Perm.refl _))) hlen (by rfl) dQ dQ ?_ (fun v2 Ha2 h3=>?_)
  ·dsimp only [List.length_nil];rw [aD];omega
  have hov:One v2:=h3.one
  (refine W.o ?_;repeat intro b_)
  have he:σ.arm n qs=({ σ with fuse:=0,picks:=qs }:Dv):=by simp only [Dv.arm];congr 1;omega
  rw [he]
  exact Fin.drop Hq (Fin.perm (aDv _ _ _ _ _ _ _) (Fin.s0 (.inr rfl) rfl ⟨rfl,⟨hO.n,hO.ok,by dsimp only;omega,by dsimp only;omega,hO.a⟩,bl,bn,bp,bm,v2,va,Ha2,Ha,h3,h2,rfl⟩))
 ·(refine W.o ?_;repeat intro b_)
  refine iK (n:=1) (r:=[]) rfl rfl rfl rfl (by rfl) dQ (by rfl) dQ (fun b2=>?_)
  (refine W.o ?_;repeat intro b_)
  refine SL.append (n:=1) (m:=len) (ys:=qs.map bv) (xs:=[]) [(b2,cl [] 5)] rfl rfl rfl rfl rfl (.inr ⟨b2,0,0,[],rfl,rfl,rfl,Nat.le_refl _,rfl⟩) (fun w2 hs=>Rd.srcAt hw (hs.tail (List.Perm.refl _))) hlen (by rfl) dQ dQ ?_ (fun v2 Ha2 h3=>?_)
  ·dsimp only [List.length_nil];rw [aD];omega
  have hov:One v2:=h3.one
  (refine W.o ?_;repeat intro b_)
  have he:σ.arm n qs=({ σ with fuse:=n,picks:=qs }:Dv):=by simp only [Dv.arm];congr 1;omega
  rw [he]
  exact Fin.drop Hq (Fin.perm (aDv _ _ _ _ _ _ _) (Fin.s0 (.inr rfl) rfl ⟨rfl,⟨hO.n,hO.ok,by dsimp only;omega,by dsimp only;omega,hO.a⟩,bl,bn,bp,bm,v2,va,Ha2,Ha,h3,h2,rfl⟩))
theorem aOi(n:Int)(m:Nat)(hnm:n=m∨n<0∧m=0)(hm:m≤1024):Tri prog 46 [.int .i64 n] [] (fun _=>True) (fun v H'=>∃ p,v=.pointer (some ⟨p,0,none⟩)∧iA p (Dv.new m) H'):=by
 refine Tri.mk func46 rfl ntmps46 rfl fun w hw=>?_
 rcases hnm with rfl|⟨hneg,rfl⟩
 ·refine W.o ?_
  refine mO [] 99 kQ ?_
  (refine SA.take 0 rfl kQ (fun _ _ _ h=>Fin.np h) rfl rfl (fB rfl rfl) ?_;refine SA.take 1 rfl kQ (fun _ _ _ h=>Fin.np h) rfl rfl (kR rfl rfl rfl (w64 oQ)) ?_;refine SA.take 3 rfl kQ (fun _ _ _ h=>Fin.np h) rfl rfl (fB rfl rfl) ?_;refine SA.take 4 rfl kQ (fun _ _ _ h=>Fin.np h) rfl rfl (kR rfl rfl rfl (w64 oQ)) ?_;refine SA.take 6 rfl kQ (fun _ _ _ h=>Fin.np h) rfl rfl (fB rfl rfl) ?_;refine SA.take 7 rfl kQ (fun _ _ _ h=>Fin.np h) rfl rfl (kR rfl rfl rfl (w64 oQ)) ?_;refine SA.take 9 rfl kQ (fun _ _ _ h=>Fin.np h) rfl rfl (fB rfl rfl) ?_;refine SA.take 10 rfl kQ (fun _ _ _ h=>Fin.np h) rfl rfl (kR rfl rfl rfl (w64 oQ)) ?_)
  refine aAK (fuel:=3) [(8,.int .i64 (64*m)),(11,.int .i64 (64*m)),(14,.int .i64 (8*m)),(17,.int .i64 (8*m))] 4
   [⟨2,9,fun b=>.slice (some ⟨b,0,none⟩) (64*m) (64*m),cl (zs [.int .u8 0] (64*m)) 5⟩,⟨5,12,fun b=>.slice (some ⟨b,0,none⟩) (64*m) (64*m),cl (zs [.int .u8 0] (64*m)) 5⟩,
    ⟨8,15,fun b=>.slice (some ⟨b,0,none⟩) (8*m) (8*m),cl (zs [.bool false] (8*m)) 4⟩,⟨11,18,fun b=>.slice (some ⟨b,0,none⟩) (8*m) (8*m),cl (zs [.bool false] (8*m)) 4⟩] [] _ _ _ rfl (by simp) (by simp) (by simp) (by simp) kQ trivial ⟨rfl,rfl,rfl,rfl,trivial⟩ ⟨_,List.Perm.refl _⟩ ?_ ?_
  ·intro x hx
   simp only [bZ,dN,or_false] at hx
   rcases hx with rfl|rfl|rfl|rfl
   ·exact⟨_,rfl,fun K ρ H hs hk=>SL.make (n:=1) (l:=64*m) (c:=64*m) rfl rfl rfl hs.1 hs.1 oQ oQ (by rfl) dQ (Nat.le_refl _) oQ dQ fun b=>jG (hk b)⟩
   ·exact⟨_,rfl,fun K ρ H hs hk=>SL.make (n:=1) (l:=64*m) (c:=64*m) rfl rfl rfl hs.2.1 hs.2.1 oQ oQ (by rfl) dQ (Nat.le_refl _) oQ dQ fun b=>jG (hk b)⟩
   ·exact⟨_,rfl,fun K ρ H hs hk=>SL.make (n:=1) (l:=8*m) (c:=8*m) rfl rfl rfl hs.2.2.1 hs.2.2.1 oQ oQ (by rfl) dQ (Nat.le_refl _) oQ dQ fun b=>jG (hk b)⟩
   ·exact⟨_,rfl,fun K ρ H hs hk=>SL.make (n:=1) (l:=8*m) (c:=8*m) rfl rfl rfl hs.2.2.2.1 hs.2.2.2.1 oQ oQ (by rfl) dQ (Nat.le_refl _) oQ dQ fun b=>jG (hk b)⟩
  ·intro f ρ' H' _ hf hp
   simp only [bZ,dN,or_false,forall_eq_or_imp,forall_eq] at hf
   obtain⟨f1,f2,f3,f4⟩:=hf
   simp only [dP,mX,eE,List.nil_append] at hp
   refine aC9 [(9,.slice (some ⟨f 2,0,none⟩) (64*m) (64*m)),(12,.slice (some ⟨f 5,0,none⟩) (64*m) (64*m)),(15,.slice (some ⟨f 8,0,none⟩) (8*m) (8*m)),(18,.slice (some ⟨f 11,0,none⟩) (8*m) (8*m))] _ ⟨f1,f2,f3,f4,trivial⟩ hp ?_
   refine SA.one 12 rfl kQ ?_
   refine W.o ?_
   refine Beh.mk ?_
   refine SA.one 13 rfl kQ ?_
   refine W.o fun b_=>?_
   refine Beh.mk ?_
   refine SA.one 14 rfl kQ ?_
   refine W.o ?_
   refine Beh.mk ?_
   refine SA.done kQ ?_
   refine W.o ?_
   refine Fin.s1 (.inl rfl) rfl rfl ⟨b_,rfl,Dv.new_ok m,f 2,f 5,f 8,f 11,_,_,[],[],Sl.nil _ _,Sl.nil _ _,?_⟩
   have hz:(Dv.new m).ws.length=8*m:=by simp [Dv.new];omega
   have hz2:(Dv.new m).len=64*m:=by rw [Dv.len,hz];omega
   have hws:(Dv.new m).ws=List.replicate (8*m) Wd.zero:=by simp only [Dv.new];congr 1;omega
   have e8:∀ (n:Nat) (v:Value),(List.replicate n (List.replicate 8 v)).flatten=List.replicate (8*n) v:=fun n v=>by rw [List.flatten_replicate_replicate];congr 1;omega
   have h1:rl (Dv.new m).ws=zs [.int .u8 0] (64*m):=by
    rw [hws,lH,rl,gP,eL]
    show (List.replicate (8*m) (List.replicate 8 (Value.int .u8 0))).flatten=_
    rw [e8];congr 1;omega
   have h2:rn (Dv.new m).ws=zs [.int .u8 0] (64*m):=by
    rw [hws,lH,rn,gP,eL]
    show (List.replicate (8*m) (List.replicate 8 (Value.int .u8 0))).flatten=_
    rw [e8];congr 1;omega
   have h3:rp (Dv.new m).ws=zs [.bool false] (8*m):=by rw [hws,lH,rp,eL];rfl
   have h4:rm (Dv.new m).ws=zs [.bool false] (8*m):=by rw [hws,lH,rm,eL];rfl
   rw [hz2,hz,h1,h2,h3,h4]
   rfl
 ·obtain⟨m,hm0⟩:∃ m:Nat,m=0:=⟨0,rfl⟩
  rw [show (Dv.new ((0:Nat):Int))=Dv.new (m:Int) by rw [hm0]]
  have hm:m≤1024:=oQ
  refine W.o ?_
  refine aAP (r:=[(0,.int .i64 m)]) ⟨by rw [hm0];rfl,trivial⟩ (fA.nil _) ?_
  refine mO [] 99 kQ ?_
  (refine SA.take 0 rfl kQ (fun _ _ _ h=>Fin.np h) rfl rfl (fB rfl rfl) ?_;refine SA.take 1 rfl kQ (fun _ _ _ h=>Fin.np h) rfl rfl (kR rfl rfl rfl (w64 oQ)) ?_;refine SA.take 3 rfl kQ (fun _ _ _ h=>Fin.np h) rfl rfl (fB rfl rfl) ?_;refine SA.take 4 rfl kQ (fun _ _ _ h=>Fin.np h) rfl rfl (kR rfl rfl rfl (w64 oQ)) ?_;refine SA.take 6 rfl kQ (fun _ _ _ h=>Fin.np h) rfl rfl (fB rfl rfl) ?_;refine SA.take 7 rfl kQ (fun _ _ _ h=>Fin.np h) rfl rfl (kR rfl rfl rfl (w64 oQ)) ?_;refine SA.take 9 rfl kQ (fun _ _ _ h=>Fin.np h) rfl rfl (fB rfl rfl) ?_;refine SA.take 10 rfl kQ (fun _ _ _ h=>Fin.np h) rfl rfl (kR rfl rfl rfl (w64 oQ)) ?_)
  refine aAK (fuel:=3) [(8,.int .i64 (64*m)),(11,.int .i64 (64*m)),(14,.int .i64 (8*m)),(17,.int .i64 (8*m))] 4
   [⟨2,9,fun b=>.slice (some ⟨b,0,none⟩) (64*m) (64*m),cl (zs [.int .u8 0] (64*m)) 5⟩,⟨5,12,fun b=>.slice (some ⟨b,0,none⟩) (64*m) (64*m),cl (zs [.int .u8 0] (64*m)) 5⟩,
    ⟨8,15,fun b=>.slice (some ⟨b,0,none⟩) (8*m) (8*m),cl (zs [.bool false] (8*m)) 4⟩,⟨11,18,fun b=>.slice (some ⟨b,0,none⟩) (8*m) (8*m),cl (zs [.bool false] (8*m)) 4⟩] [] _ _ _ rfl (by simp) (by simp) (by simp) (by simp) kQ trivial ⟨rfl,rfl,rfl,rfl,trivial⟩ ⟨_,List.Perm.refl _⟩ ?_ ?_
  ·intro x hx
   simp only [bZ,dN,or_false] at hx
   rcases hx with rfl|rfl|rfl|rfl
   ·exact⟨_,rfl,fun K ρ H hs hk=>SL.make (n:=1) (l:=64*m) (c:=64*m) rfl rfl rfl hs.1 hs.1 oQ oQ (by rfl) dQ (Nat.le_refl _) oQ dQ fun b=>jG (hk b)⟩
   ·exact⟨_,rfl,fun K ρ H hs hk=>SL.make (n:=1) (l:=64*m) (c:=64*m) rfl rfl rfl hs.2.1 hs.2.1 oQ oQ (by rfl) dQ (Nat.le_refl _) oQ dQ fun b=>jG (hk b)⟩
   ·exact⟨_,rfl,fun K ρ H hs hk=>SL.make (n:=1) (l:=8*m) (c:=8*m) rfl rfl rfl hs.2.2.1 hs.2.2.1 oQ oQ (by rfl) dQ (Nat.le_refl _) oQ dQ fun b=>jG (hk b)⟩
   ·exact⟨_,rfl,fun K ρ H hs hk=>SL.make (n:=1) (l:=8*m) (c:=8*m) rfl rfl rfl hs.2.2.2.1 hs.2.2.2.1 oQ oQ (by rfl) dQ (Nat.le_refl _) oQ dQ fun b=>jG (hk b)⟩
  ·intro f ρ' H' _ hf hp
   simp only [bZ,dN,or_false,forall_eq_or_imp,forall_eq] at hf
   obtain⟨f1,f2,f3,f4⟩:=hf
   simp only [dP,mX,eE,List.nil_append] at hp
   refine aC9 [(9,.slice (some ⟨f 2,0,none⟩) (64*m) (64*m)),(12,.slice (some ⟨f 5,0,none⟩) (64*m) (64*m)),(15,.slice (some ⟨f 8,0,none⟩) (8*m) (8*m)),(18,.slice (some ⟨f 11,0,none⟩) (8*m) (8*m))] _ ⟨f1,f2,f3,f4,trivial⟩ hp ?_
   refine SA.one 12 rfl kQ ?_
   refine W.o ?_
   refine Beh.mk ?_
   refine SA.one 13 rfl kQ ?_
   refine W.o fun b_=>?_
   refine Beh.mk ?_
   refine SA.one 14 rfl kQ ?_
   refine W.o ?_
   refine Beh.mk ?_
   refine SA.done kQ ?_
   refine W.o ?_
   refine Fin.s1 (.inl rfl) rfl rfl ⟨b_,rfl,Dv.new_ok m,f 2,f 5,f 8,f 11,_,_,[],[],Sl.nil _ _,Sl.nil _ _,?_⟩
   have hz:(Dv.new m).ws.length=8*m:=by simp [Dv.new];omega
   have hz2:(Dv.new m).len=64*m:=by rw [Dv.len,hz];omega
   have hws:(Dv.new m).ws=List.replicate (8*m) Wd.zero:=by simp only [Dv.new];congr 1;omega
   have e8:∀ (n:Nat) (v:Value),(List.replicate n (List.replicate 8 v)).flatten=List.replicate (8*n) v:=fun n v=>by rw [List.flatten_replicate_replicate];congr 1;omega
   have h1:rl (Dv.new m).ws=zs [.int .u8 0] (64*m):=by
    rw [hws,lH,rl,gP,eL]
    show (List.replicate (8*m) (List.replicate 8 (Value.int .u8 0))).flatten=_
    rw [e8];congr 1;omega
   have h2:rn (Dv.new m).ws=zs [.int .u8 0] (64*m):=by
    rw [hws,lH,rn,gP,eL]
    show (List.replicate (8*m) (List.replicate 8 (Value.int .u8 0))).flatten=_
    rw [e8];congr 1;omega
   have h3:rp (Dv.new m).ws=zs [.bool false] (8*m):=by rw [hws,lH,rp,eL];rfl
   have h4:rm (Dv.new m).ws=zs [.bool false] (8*m):=by rw [hws,lH,rm,eL];rfl
   rw [hz2,hz,h1,h2,h3,h4]
   rfl
theorem aOj(m:Nat)(hm:m≤1024):Tri prog 46 [.int .i64 m] [] (fun _=>True) (fun v H'=>∃ p,v=.pointer (some ⟨p,0,none⟩)∧iA p (Dv.new m) H'):=aOi m m (.inl rfl) hm
theorem aKu{p:Nat}{σ:Dv}{H:Hp}(hD:iA p σ H)(q:Value)(qs:List UInt8):Tri prog 76 [.pointer (some ⟨p,0,none⟩),q] H (fun w=>Rd (H.map Prod.fst) w 1 q (qs.map bv))
  (fun v H'=>v=.tuple #[]∧iA p (σ.crash qs) H'):=by
 obtain⟨hO,bl,bn,bp,bm,vp,va,Hq,Ha,h1,h2,rfl⟩:=hD
 have hlen:(σ.crash qs).ws.length=σ.ws.length:=by unfold Dv.crash;cases σ.down <;> simp [uP]
 have hk:=aBt (p:=p) (bl:=bl) (bn:=bn) (bp:=bp) (bm:=bm) hO vp va q qs
 unfold aBz at hk
 refine (hk.frame (r:=Hq++Ha) (List.Perm.refl _) (fun w ho hr=>?_)).mono ?_
 ·obtain⟨a,len,cap,rfl,hl,hc,hb⟩:=hr
  refine⟨a,len,cap,rfl,hl,hc,hb.imp id fun⟨b,o,l,T,fz,ha,hb,hk,hy⟩=>⟨b,o,l,T,fz,ha,hb,fun hm=>hk ?_,hy⟩⟩
  simp only [bZ,dN,or_false] at hm
  rcases hm with rfl|rfl|rfl|rfl|rfl <;> simp
 ·rintro v H' ⟨H1,rfl,rfl,rfl⟩
  refine⟨rfl,Dv.crash_ok qs hO,bl,bn,bp,bm,vp,va,Hq,Ha,?_,?_,rfl⟩
  ·unfold Dv.crash;cases σ.down <;> exact h1
  ·unfold Dv.crash;cases σ.down <;> exact h2
end
section
attribute [local irreducible] SW SL SQ SH SA SS Pu Fin bT aQ
theorem aOx(c:Nat):Tri prog 43 [.pointer (some ⟨c,0,none⟩)] [] (fun _=>True) (fun v H=>∃ s m,v=.pointer (some ⟨s,0,none⟩)∧H=[(s,cl [.pointer (some ⟨c,0,none⟩),.map (some m),.slice none 0 0] 170),(m,mo [])]):=by
 refine Tri.mk func43 rfl ntmps43 rfl fun w hw=>?_
 have hb:∀ m:Nat,bX (fun i=>[(0,1),(1,1),(2,1)][i]?) [.pointer none,.map none,.slice none 0 0] [(0,.pointer (some ⟨c,0,none⟩)),(1,.map (some m))]=some [.pointer (some ⟨c,0,none⟩),.map (some m),.slice none 0 0]:=fun m=>rfl
 refine W.k ?_
 refine aMC fun m=>?_
 have hbm:=hb m
 refine W.k fun b_=>?_
 refine Fin.to [(b_,cl [.pointer (some ⟨c,0,none⟩),.map (some m),.slice none 0 0] 170),(m,mo [])] ?_
 exact F.f1 ⟨b_,m,rfl,rfl⟩
def rg0(cnt:Int):Rg:=⟨cnt,List.replicate 32 0⟩
theorem aGM{cnt:Int}(h0:0≤cnt)(h1:cnt≤18446744073709551615):(rg0 cnt).Ok:=⟨rfl,h0,h1⟩
def aMv(pp p t:Nat)(k:List UInt8)(cnt:Int)(H:Hp):Prop:=
 ∃ d tr s m bk tb c b rd rtr rs rc Hd Hb Hc HD HR,fD d (Dv.new (4*Gm.total p t:Nat)) Hd∧eV bk tb Bk.new Hb∧aDO c b (k.length/4+6) (Aes.sched k) Hc∧iA rd (Dv.new (4*Gm.total p t:Nat)) HD∧aEK rc (k.length/4+6) (Rg.sched k) HR ∧
  H=(pp,cl [ptv d,ptv tr,ptv s,ptv bk,.int .i64 (p:Int),.int .i64 (t:Int),.pointer none,ptv rd,ptv rtr,ptv rs,.int .i64 (p:Int),.int .i64 (t:Int),.pointer none] 47) ::
   (tr,cl (trc d (rg0 cnt)) 201)::(s,cl [ptv c,.map (some m),.slice none 0 0] 170)::(m,mo [])::(b,gU) ::
   (rtr,cl (rgc (rg0 cnt)++[ptv rd]) 120)::(rs,cl [ptv rc,.slice none 0 0,.bool false,.int .u64 0,.int .i64 0,.slice none 0 0] 127) ::
   (Hd++(Hb++(Hc++(HD++HR))))
theorem aLo{p t:Nat}(h:Gm.Ok p t)(k:List UInt8)(hk:k.length=16){cnt:Int}(h0:0≤cnt)(h1:cnt≤18446744073709551615):Tri prog 10 [kF p t,.agg (cbs k).toArray,.int .u64 cnt] [] (fun _=>True)
  (fun v H=>∃ pp,v=ptv pp∧aMv pp p t k cnt H):=by
 refine Tri.mk func10 rfl ntmps10 rfl fun w hw=>?_
 have hall:=aAv h
 have htot:=Gm.total_le2 h
 have hpl:=pV (Gm.all p t)
 rw [Gm.all_len] at hpl
 unfold aMv
 generalize Gm.total p t=n at *
 refine W.k fun _ b_=>?_
 refine aF hall ?_
 rintro v1 H1 ⟨Hs,hS,rfl⟩
 obtain⟨a,len,cap,rfl,hl1⟩:=hS.form
 have hl2:len=n:=oQ
 subst hl2
 refine W.k ?_
 rw [show (4:Int)*(len:Int)=((4*len:Nat):Int) by omega]
 (refine aMx [] [] ?_;refine dZ 1 rfl (yJ rfl rfl) ?_;refine bA 0 ?_)
 refine aF aJX ?_
 rintro _ _ ⟨b,rfl,rfl⟩
 (refine bC [] ?_;refine bA 2 ?_)
 rename_i bg
 refine aF (aNi (b:=b) (len:=16) (cap:=16) k (.inl hk)) ?_ (hpre:=fun w2 hs=>Rd.atB (Hc:=[(b,gU)]) (T:=32) (fz:=(0,0)) k hs hk (Nat.le_refl _))
 rintro _ _ ⟨c,Hc,rfl,hC,rfl⟩
 (refine SL.l [3,4,5,6,7,8] ?_)
 refine W.k ?_
 refine aF (aNN ((4*len:Nat):Int)) ?_
 rintro _ Hd ⟨d,rfl,hD⟩
 refine W.k ?_
 (refine SW.l [12] [0,1,2,3,5,9] ?_;refine bA 4 ?_)
 refine aF (aPJ d (rg0 cnt) (aGM h0 h1)) ?_
 rintro _ _ ⟨tr,rfl,rfl⟩
 (refine bC [] ?_;refine bA 6 ?_)
 refine aF (aOx c) ?_
 rintro _ _ ⟨s,m,rfl,rfl⟩
 (refine bC [] ?_;refine bA 7 ?_)
 refine aF aNI ?_
 rintro _ _ ⟨tb,rfl,rfl⟩
 (refine bC [] ?_;refine bA 8 ?_)
 refine aF (aMV tb) ?_
 rintro _ Hb ⟨bk,rfl,hB⟩
 have hb41:bX (fun i=>[(0,1),(1,1),(2,1),(3,1),(4,2)][i]?) [.pointer none,.pointer none,.pointer none,.pointer none,.int .i64 0,.int .i64 0] [(0,ptv d),(1,ptv tr),(2,ptv s),(3,ptv bk),(4,kF p t)]=some [ptv d,ptv tr,ptv s,ptv bk,.int .i64 (p:Int),.int .i64 (t:Int)]:=rfl
 have hb56:bX (fun i=>[(0,6),(6,1),(7,5),(12,1)][i]?) (List.replicate 4 (.pointer none)++[.int .i64 0,.int .i64 0]++List.replicate 4 (.pointer none)++[.int .i64 0,.int .i64 0]++[.pointer none]) [(0,.agg [ptv d,ptv tr,ptv s,ptv bk,.int .i64 (p:Int),.int .i64 (t:Int)].toArray)]=some [ptv d,ptv tr,ptv s,ptv bk,.int .i64 (p:Int),.int .i64 (t:Int),.pointer none,.pointer none,.pointer none,.pointer none,.int .i64 0,.int .i64 0,.pointer none]:=rfl
 (refine SL.l [10,11] ?_;refine bO 12 ?_;refine W.i fun b_=>?_;refine SG.l [13,14] ?_)
 rename_i bk4
 clear hb41 hb56
 refine aG7 [2,3,4,7,11] ?_
 refine W.k ?_
 refine aF (aOj (4*len) oQ) ?_
 rintro _ HD ⟨rd,rfl,hDR⟩
 have hb97:bX (fun i=>[(0,1),(1,32)][i]?) ([.int .u64 0]++List.replicate 32 (.int .u8 0)) [(0,.int .u64 cnt)]=some (rgc (rg0 cnt)):=rfl
 have hb101:bX (fun i=>[(0,33),(33,1)][i]?) ([.int .u64 0]++List.replicate 32 (.int .u8 0)++[.pointer none]) [(0,.agg (rgc (rg0 cnt)).toArray),(1,ptv rd)]=some (rgc (rg0 cnt)++[ptv rd]):=rfl
 have hb108:∀ rc,bX (fun i=>[(0,1),(1,1),(2,1),(3,3)][i]?) [.pointer none,.slice none 0 0,.bool false,.int .u64 0,.int .i64 0,.slice none 0 0] [(0,ptv rc)]=some [ptv rc,.slice none 0 0,.bool false,.int .u64 0,.int .i64 0,.slice none 0 0]:=fun rc=>rfl
 have hb53:∀ rtr rs,bX (fun i=>[(0,1),(1,1),(2,1),(3,2)][i]?) [.pointer none,.pointer none,.pointer none,.int .i64 0,.int .i64 0] [(0,ptv rd),(1,ptv rtr),(2,ptv rs),(3,kF p t)]=some [ptv rd,ptv rtr,ptv rs,.int .i64 (p:Int),.int .i64 (t:Int)]:=fun _ _=>rfl
 refine W.k ?_
 (refine SW.l [15] [0,1,2,3,4,5] ?_;refine dZ 7 rfl (yJ rfl rfl) ?_;refine SG.l [11] ?_;skip )
 refine jA 6 8 ?a ?b rfl rfl
 case' a=>
  refine aBl fun rtr=>?_
  refine eB ?_
  refine bA 8 ?_
  refine aF (aHH (len:=16) (cap:=16) k (.inl hk)) ?_ (hpre:=fun w2 hs=>Rd.atB (Hc:=[]) (T:=32) (fz:=(0,0)) k hs hk (Nat.le_refl _))
  rintro _ HR ⟨rc,rfl,hR⟩
  have hbrc:=hb108 rc
  refine eB ?_
  refine dZ 9 rfl (pU rfl rfl hbrc) ?_
  refine bA 10 ?_
  refine aBl fun rs=>?_
 case' b=>
  refine aF (aHH (len:=16) (cap:=16) k (.inl hk)) ?_ (hpre:=fun w2 hs=>Rd.atB (Hc:=[]) (T:=32) (fz:=(0,0)) k hs hk (Nat.le_refl _))
  rintro _ HR ⟨rc,rfl,hR⟩
  have hbrc:=hb108 rc
  refine eB ?_
  refine dZ 9 rfl (pU rfl rfl hbrc) ?_
  refine jA 6 10 ?c ?d rfl rfl
  case' c=>
   refine aBl fun rtr=>?_
   refine eB ?_
   refine bA 10 ?_
   refine aBl fun rs=>?_
  case' d=>
   refine aBl fun rs=>?_
   refine eB ?_
   refine bA 6 ?_
   refine aBl fun rtr=>?_
 all_goals
  (refine bC [] ?_;refine dZ 12 rfl (pU rfl rfl (hb53 rtr rs)) ?_;refine SG.l [13,14] ?_;refine bO 15 ?_;refine W.i ?_;refine SS.dn ?_)
  rw [show List.take 7 ([ptv d,ptv tr,ptv s,ptv bk,.int .i64 (p:Int),.int .i64 (t:Int),.pointer none,.pointer none,.pointer none,.pointer none,.int .i64 0,.int .i64 0,.pointer none]:List Value)++[ptv rd,ptv rtr,ptv rs,.int .i64 (p:Int),.int .i64 (t:Int)]++List.drop (7+5) ([ptv d,ptv tr,ptv s,ptv bk,.int .i64 (p:Int),.int .i64 (t:Int),.pointer none,.pointer none,.pointer none,.pointer none,.int .i64 0,.int .i64 0,.pointer none]:List Value)=[ptv d,ptv tr,ptv s,ptv bk,.int .i64 (p:Int),.int .i64 (t:Int),.pointer none,ptv rd,ptv rtr,ptv rs,.int .i64 (p:Int),.int .i64 (t:Int),.pointer none] from rfl]
  refine W.k ?_
  refine Fin.to ((b_,cl [ptv d,ptv tr,ptv s,ptv bk,.int .i64 (p:Int),.int .i64 (t:Int),.pointer none,ptv rd,ptv rtr,ptv rs,.int .i64 (p:Int),.int .i64 (t:Int),.pointer none] 47) ::
   (tr,cl (trc d (rg0 cnt)) 201)::(s,cl [ptv c,.map (some m),.slice none 0 0] 170)::(m,mo [])::(b,gU) ::
   (rtr,cl (rgc (rg0 cnt)++[ptv rd]) 120)::(rs,cl [ptv rc,.slice none 0 0,.bool false,.int .u64 0,.int .i64 0,.slice none 0 0] 127) ::
   (Hd++(Hb++(Hc++(HD++HR))))) ?_
  refine F.f1 ⟨b_,rfl,?_⟩
  exact⟨d,tr,s,m,bk,tb,c,b,rd,rtr,rs,rc,Hd,Hb,Hc,HD,HR,hD,hB,hC,hDR,hR,rfl⟩
abbrev yD(d tr s bk p t:Nat):Value:=.agg #[ptv d,ptv tr,ptv s,ptv bk,.int .i64 (p:Int),.int .i64 (t:Int)]
def Dv.blk(σ:Dv)(k:Nat):List UInt8:=σ.loadB (256*k:Nat) 256
end
section
attribute [local irreducible] SW SL SQ SH SA Pu Fin
def sE(σ:Dv)(r r':Rg):Dv:=if σ.down=true then σ else if r'.c≤r.c then σ else σ.doo
def oI(σ:Dv)(r r':Rg):Rg:=if σ.down=true then r else if r'.c≤r.c then r else if σ.dooE=0 then r' else r
def qO(σ:Dv)(r r':Rg):Int:=if σ.down=true then 8 else if r'.c≤r.c then 3 else σ.dooE
theorem aKK(tp p:Nat)(r r':Rg)(h:r.Ok)(h':r'.Ok){σ:Dv}{H:Hp}(hD:fD p σ H):Tri prog 123 [.pointer (some ⟨tp,0,none⟩),.agg (rgc r').toArray] ((tp,cl (trc p r) 201)::H) (fun _=>True)
  (fun v H'=>v=.int .i64 (qO σ r r')∧∃ H2,H'=(tp,cl (trc p (oI σ r r')) 201)::H2∧fD p (sE σ r r') H2):=by
 obtain⟨f1,f2,f3,f4,f5,f6⟩:=aBh p h
 have hl':=nQ h'
 have hr':((rgc r').drop 0).take 33=rgc r':=by rw [bR,aK oQ]
 have fp:=aMn p h h'
 have hdn:=aHv hD
 have hdo:=aO4 hD
 have b1:0+0+33≤(trc p r).length:=oQ
 refine Tri.mk func123 rfl ntmps123 rfl fun w hw=>?_
 refine W.o fun b_=>?_
 refine dV H rfl rfl rfl rfl rfl rfl hdn (fun _ _=>trivial) ?_
 rintro _ Hx ⟨rfl,rfl⟩
 cases hd:σ.down
 ·repeat' (first|(refine sP ?_;refine zR rfl rfl ?_)|(refine aDd ?_;refine bP (fB rfl rfl) rfl rfl ?_)|(refine aBk ?_;refine bP (rY rfl rfl) rfl rfl ?_)|(refine aE0 ?_;refine bP (sA rfl rfl) rfl rfl ?_)|(refine aDa ?_;refine bP (gM rfl rfl rfl) rfl rfl ?_)|(refine aDb ?_;(first|refine bP (jI rfl rfl rfl) rfl rfl ?_|refine bP (jI rfl rfl (by assumption)) rfl rfl ?_|refine bP (mS rfl rfl rfl rfl) rfl rfl ?_|refine bP (mS rfl rfl (by assumption) (by assumption)) rfl rfl ?_))|(refine aBY ?_;(first|refine bP (qJ rfl rfl) rfl rfl ?_|refine bP (tZ rfl rfl) rfl rfl ?_|refine bP (tY rfl rfl) rfl rfl ?_|refine bP (qI rfl rfl) rfl rfl ?_|refine bP (aFL rfl rfl rfl rfl) rfl rfl ?_|refine bP (aFM rfl rfl rfl rfl) rfl rfl ?_))|(refine aDe ?_;(first|refine bP (wO rfl rfl rfl) rfl rfl ?_|refine bP (wN rfl rfl rfl) rfl rfl ?_))|(refine aDc ?_;refine bP (rZ rfl rfl rfl) rfl rfl ?_)|(refine aG5 ?_;refine bP (aFN rfl rfl) rfl rfl ?_)|(refine aBX ?_;(first|refine bP (pU rfl rfl (by rfl)) rfl rfl ?_|refine bP (oC rfl rfl (by rfl)) rfl rfl ?_))|(refine aEZ ?_;(first|refine bP (sV rfl rfl rfl) rfl rfl ?_|refine bP (sV rfl rfl (by assumption)) rfl rfl ?_|refine bP (tX rfl rfl rfl) rfl rfl ?_))|(refine aEM ?_;refine bP (tV rfl rfl rfl (w64 oQ)) rfl rfl ?_)|(refine aEW ?_;refine bP (aDt rfl rfl rfl (w64 oQ)) rfl rfl ?_)|(refine aES ?_;refine bP (kR rfl rfl rfl (w64 oQ)) rfl rfl ?_)|(refine aEU ?_;refine bP (aCv rfl rfl rfl dQ (w64 oQ)) rfl rfl ?_)|(refine aEV ?_;refine bP (aCw rfl rfl rfl dQ rfl) rfl rfl ?_)|(refine aER ?_;(first|refine bP (Pu.t (pH rfl rfl rfl) oQ) rfl rfl ?_|refine bP (Pu.f (pH rfl rfl rfl) oQ) rfl rfl ?_|refine dX (pH rfl rfl rfl) rfl rfl (fun h_=>?_) (fun h_=>?_)))|(refine aEQ ?_;(first|refine bP (Pu.t (pG rfl rfl rfl) oQ) rfl rfl ?_|refine bP (Pu.f (pG rfl rfl rfl) oQ) rfl rfl ?_|refine dX (pG rfl rfl rfl) rfl rfl (fun h_=>?_) (fun h_=>?_)))|(refine aEP ?_;(first|refine bP (Pu.t (pF rfl rfl rfl) oQ) rfl rfl ?_|refine bP (Pu.f (pF rfl rfl rfl) oQ) rfl rfl ?_|refine dX (pF rfl rfl rfl) rfl rfl (fun h_=>?_) (fun h_=>?_)))|(refine aEO ?_;(first|refine bP (Pu.t (pE rfl rfl rfl) oQ) rfl rfl ?_|refine bP (Pu.f (pE rfl rfl rfl) oQ) rfl rfl ?_|refine dX (pE rfl rfl rfl) rfl rfl (fun h_=>?_) (fun h_=>?_)))|(refine aEN ?_;(first|refine bP (aAl rfl rfl rfl) rfl rfl ?_|refine bP (tW rfl rfl rfl) rfl rfl ?_|refine bP (Pu.t (nE rfl rfl rfl) oQ) rfl rfl ?_|refine bP (Pu.f (nE rfl rfl rfl) oQ) rfl rfl ?_|refine dX (nE rfl rfl rfl) rfl rfl (fun h_=>?_) (fun h_=>?_)))|(refine aET ?_;(first|refine bP (aAn rfl rfl rfl) rfl rfl ?_|refine bP (uB rfl rfl rfl) rfl rfl ?_|refine bP (Pu.t (pI rfl rfl rfl) oQ) rfl rfl ?_|refine bP (Pu.f (pI rfl rfl rfl) oQ) rfl rfl ?_|refine dX (pI rfl rfl rfl) rfl rfl (fun h_=>?_) (fun h_=>?_)))|(refine aEY ?_;(first|refine aGb rfl rfl rfl rfl (fun b_=>?_)|refine aBV rfl rfl rfl rfl (fun b_=>?_)))|(refine aBW ?_;refine SL.alloc rfl rfl rfl (fun b_=>?_))|(refine aBZ ?_;(first|refine SL.store rfl rfl rfl rfl rfl (by first|assumption|exact fK rfl) ?_|refine yQ rfl rfl rfl rfl rfl (by first|assumption|rfl) (by rfl) ?_|refine uN rfl rfl rfl rfl rfl (by first|rfl|assumption) (by first|assumption|exact fK rfl) (by first|assumption|rfl) ?_))|refine jG ?_|refine pL ?_|refine mZ ?_|refine SW.block ?_|refine aAO rfl ?_|refine aAN rfl ?_|refine aGi ?_|refine SW.skip ?_|refine aDV ?_|refine jK rfl (fun h_=>?_) (fun h_=>?_)|refine aGg aPb kQ ?_|(refine SQ.isGd ?_;refine SQ.sk rfl rfl ?_)|(refine aH4 ?_;refine gN (fB rfl rfl) rfl rfl ?_)|(refine aE1 ?_;refine gN (rY rfl rfl) rfl rfl ?_)|(refine aJd ?_;refine gN (sA rfl rfl) rfl rfl ?_)|(refine aH2 ?_;refine gN (gM rfl rfl rfl) rfl rfl ?_)|(refine aH3 ?_;(first|refine gN (jI rfl rfl rfl) rfl rfl ?_|refine gN (jI rfl rfl (by assumption)) rfl rfl ?_|refine gN (mS rfl rfl rfl rfl) rfl rfl ?_|refine gN (mS rfl rfl (by assumption) (by assumption)) rfl rfl ?_))|(refine SQ.isCallB ?_;(first|refine gN (qJ rfl rfl) rfl rfl ?_|refine gN (tZ rfl rfl) rfl rfl ?_|refine gN (tY rfl rfl) rfl rfl ?_|refine gN (qI rfl rfl) rfl rfl ?_|refine gN (aFL rfl rfl rfl rfl) rfl rfl ?_|refine gN (aFM rfl rfl rfl rfl) rfl rfl ?_))|(refine SQ.isPick ?_;(first|refine gN (wO rfl rfl rfl) rfl rfl ?_|refine gN (wN rfl rfl rfl) rfl rfl ?_))|(refine SQ.isMkFn ?_;refine gN (rZ rfl rfl rfl) rfl rfl ?_)|(refine SQ.isUn ?_;refine gN (aFN rfl rfl) rfl rfl ?_)|(refine SQ.isBuild ?_;(first|refine gN (pU rfl rfl (by rfl)) rfl rfl ?_|refine gN (oC rfl rfl (by rfl)) rfl rfl ?_))|(refine SQ.isFld ?_;(first|refine gN (sV rfl rfl rfl) rfl rfl ?_|refine gN (sV rfl rfl (by assumption)) rfl rfl ?_|refine gN (tX rfl rfl rfl) rfl rfl ?_))|(refine SQ.b_add ?_;refine gN (tV rfl rfl rfl (w64 oQ)) rfl rfl ?_)|(refine SQ.b_sub ?_;refine gN (aDt rfl rfl rfl (w64 oQ)) rfl rfl ?_)|(refine SQ.b_mul ?_;refine gN (kR rfl rfl rfl (w64 oQ)) rfl rfl ?_)|(refine SQ.b_quo ?_;refine gN (aCv rfl rfl rfl dQ (w64 oQ)) rfl rfl ?_)|(refine SQ.b_rem ?_;refine gN (aCw rfl rfl rfl dQ rfl) rfl rfl ?_)|(refine SQ.b_lss ?_;(first|refine gN (Pu.t (pH rfl rfl rfl) oQ) rfl rfl ?_|refine gN (Pu.f (pH rfl rfl rfl) oQ) rfl rfl ?_|refine aAL (pH rfl rfl rfl) rfl rfl (fun h_=>?_) (fun h_=>?_)))|(refine aJc ?_;(first|refine gN (Pu.t (pG rfl rfl rfl) oQ) rfl rfl ?_|refine gN (Pu.f (pG rfl rfl rfl) oQ) rfl rfl ?_|refine aAL (pG rfl rfl rfl) rfl rfl (fun h_=>?_) (fun h_=>?_)))|(refine SQ.b_gtr ?_;(first|refine gN (Pu.t (pF rfl rfl rfl) oQ) rfl rfl ?_|refine gN (Pu.f (pF rfl rfl rfl) oQ) rfl rfl ?_|refine aAL (pF rfl rfl rfl) rfl rfl (fun h_=>?_) (fun h_=>?_)))|(refine SQ.b_geq ?_;(first|refine gN (Pu.t (pE rfl rfl rfl) oQ) rfl rfl ?_|refine gN (Pu.f (pE rfl rfl rfl) oQ) rfl rfl ?_|refine aAL (pE rfl rfl rfl) rfl rfl (fun h_=>?_) (fun h_=>?_)))|(refine SQ.b_eql ?_;(first|refine gN (aAl rfl rfl rfl) rfl rfl ?_|refine gN (tW rfl rfl rfl) rfl rfl ?_|refine gN (Pu.t (nE rfl rfl rfl) oQ) rfl rfl ?_|refine gN (Pu.f (nE rfl rfl rfl) oQ) rfl rfl ?_|refine aAL (nE rfl rfl rfl) rfl rfl (fun h_=>?_) (fun h_=>?_)))|(refine SQ.b_neq ?_;(first|refine gN (aAn rfl rfl rfl) rfl rfl ?_|refine gN (uB rfl rfl rfl) rfl rfl ?_|refine gN (Pu.t (pI rfl rfl rfl) oQ) rfl rfl ?_|refine gN (Pu.f (pI rfl rfl rfl) oQ) rfl rfl ?_|refine aAL (pI rfl rfl rfl) rfl rfl (fun h_=>?_) (fun h_=>?_)))|refine aM8 ?_)
  ·exact Fin.rm b_ (Fin.perm cD (Fin.s1 (.inl rfl) rfl rfl ⟨by simp [qO,hd,h_],Hx,by simp [oI,hd,h_],by simpa [sE,hd,h_] using hD⟩))
  ·refine W.o ?_
   refine dV Hx rfl rfl rfl rfl rfl rfl hdo (fun _ _=>trivial) ?_
   rintro _ H2 ⟨rfl,hD2⟩
   have hD3:fD p (sE σ r r') H2:=by simpa [sE,hd,h_] using hD2
   by_cases he:σ.dooE=0
   ·refine W.o ?_
    refine Fin.rm b_ (Fin.perm cD (Fin.s1 (.inl rfl) rfl rfl ⟨by simp [qO,hd,h_,he],H2,by simp [oI,hd,h_,he],hD3⟩))
   ·refine W.o ?_
    refine Fin.rm b_ (Fin.perm cD (Fin.s1 (.inl rfl) rfl rfl ⟨by simp [qO,hd,h_],H2,by simp [oI,hd,h_,he],hD3⟩))
 ·refine W.o ?_
  exact Fin.rm b_ (Fin.perm cD (Fin.s1 (.inl rfl) rfl rfl ⟨by simp [qO,hd],Hx,by simp [oI,hd],by simpa [sE,hd] using hD⟩))
def rgQ(l:List Value):Prop:=
 (∃ n,(l.drop 0).take 1=[.int .u64 n])∧(((l.drop (0+1)).take 32).length=32∧∀ i,(i+1)*1≤((l.drop (0+1)).take 32).length→∃ n,((((l.drop (0+1)).take 32).drop (i*1)).take 1)=[.int .u8 n])∧l.length=33
instance regEq:EqS prog 113 rgQ where
 under:=by kernel_rfl
 held:=by kernel_rfl
 guard:=by kernel_rfl
 cov:=by
  refine⟨_,2,33,underlying113,by decide,?_⟩
  unfold rgQ
  refine Cov.cons (n:=1) (D':=1) (agg:=false) (p:=fun l=>∃ n,l=[.int .u64 n]) ?_ rfl ?_ ?_ ?_
  ·decide
  ·exact xV.int (t:=33) underlying33
  ·decide
  refine Cov.cons (n:=32) (D':=2) (agg:=true) (p:=fun l=>l.length=32∧∀ i,(i+1)*1≤l.length→∃ n,(l.drop (i*1)).take 1=[.int .u8 n]) ?_ rfl ?_ ?_ ?_
  ·decide
  ·exact xV.array (t:=55) (m:=32) (n:=1) underlying55 kQ rfl (xV.int (t:=5) underlying5)
  ·decide
  exact .nil 33
theorem aL8{r:Rg}(h:r.Ok):rgQ (rgc r):=by
 have hl:=h.len
 refine⟨⟨r.c,rfl⟩,⟨by simp [rgc,hl],fun i hi=>?_⟩,nQ h⟩
 have h1:((rgc r).drop (0+1)).take 32=r.root.map bv:=by
  show (r.root.map bv).take 32=_
  rw [aK (by simp [hl])]
 rw [h1] at hi ⊢
 simp only [aD,hl] at hi
 have hi2:i<r.root.length:=oQ
 refine⟨(r.root[i].toNat:Int),?_⟩
 rw [Nat.mul_one,bL (by simpa using hi2)]
 simp [bv]
end
section
attribute [local irreducible] SW SL SQ SH SA SS Pu Fin
def rtc(e:Nat)(r:Rg):List Value:=rgc r++[.pointer (some ⟨e,0,none⟩)]
theorem aDD(e:Nat){r:Rg}(h:r.Ok):((rtc e r).drop 0).take 33=rgc r∧(rgc r).length=33∧(rtc e r)[33]?=some (.pointer (some ⟨e,0,none⟩))∧(rtc e r)[0]?=some (.int .u64 r.c)∧(rtc e r).length=34∧((rtc e r).drop 1).take 32=r.root.map bv:=by
 have hl:=nQ h
 refine⟨?_,hl,?_,rfl,by simp [rtc,hl],?_⟩
 ·rw [rtc,bR,cW hl]
 ·rw [rtc,aY oQ,hl];rfl
 ·show ((r.root.map bv++_).take 32)=_
  rw [cW (by simpa using h.len)]
theorem aMd(e:Nat){r r':Rg}(h:r.Ok)(h':r'.Ok):(rtc e r).take 0++rgc r'++(rtc e r).drop (0+33)=rtc e r':=by
 rw [rtc,cT,List.nil_append,eW (by rw [nQ h])];rfl
theorem aGP(tp p:Nat)(r r':Rg)(h:r.Ok)(h':r'.Ok){σ:Dv}{H:Hp}(hD:iA p σ H):Tri prog 194 [.pointer (some ⟨tp,0,none⟩),.agg (rgc r').toArray] ((tp,cl (rtc p r) 120)::H) (fun _=>True)
  (fun v H'=>v=.int .i64 (qO σ r r')∧∃ H2,H'=(tp,cl (rtc p (oI σ r r')) 120)::H2∧iA p (sE σ r r') H2):=by
 obtain⟨f1,f2,f3,f4,f5,f6⟩:=aDD p h
 have hl':=nQ h'
 have hr':((rgc r').drop 0).take 33=rgc r':=by rw [bR,aK oQ]
 have fp:=aMd p h h'
 have hdo:=aOb hD
 have hD2:=hD
 have b1:0+33≤(rtc p r).length:=oQ
 obtain⟨hO,bl,bn,bp,bm,vp,va,Hq,Ha,h1,h2,rfl⟩:=hD2
 refine Tri.mk func194 rfl ntmps194 rfl fun w hw=>?_
 refine W.k fun b_=>?_
 cases hd:σ.down
 ·rw [hd] at hdo
  refine W.k ?_
  (refine SW.l [] [0,1,2,3,4,5,6] ?_;(first|refine dZ 7 rfl (Pu.t (yH rfl rfl rfl rfl) (by dsimp only [xX];first|done|omega)) ?_|refine dZ 7 rfl (Pu.f (yH rfl rfl rfl rfl) (by dsimp only [xX];first|done|omega)) ?_|refine dZ 7 rfl (yH rfl rfl rfl rfl) ?_|refine dZ 7 rfl (aKb rfl rfl rfl) ?_);refine SS.dn ?_)
  repeat' (first|(refine W.go ?_;try intro b_)  | (refine W.cs (fun h_=>?_) (fun h_=>?_) <;> dsimp only [xX] at h_)|(refine aAM rfl (fun h_=>?_) (fun h_=>?_) <;> (try dsimp only [xX] at h_))|refine jK rfl (fun h_=>?_) (fun h_=>?_))
  ·refine Fin.rm b_ ?_
   refine F.f1 ?_
   exact⟨by simp [qO,hd,h_],_,by simp [oI,hd,h_];rfl,by simpa [sE,hd,h_] using hD⟩
  ·refine aF hdo ?_
   rintro _ H2 ⟨rfl,hD2⟩
   have hD3:iA p (sE σ r r') H2:=by simpa [sE,hd,h_] using hD2
   by_cases he:σ.dooE=0
   ·refine W.k ?_
    refine Fin.rm b_ ?_;rw [fp];refine Fin.perm cD ?_;refine F.f1 ?_;exact⟨by simp [qO,hd,h_,he],H2,by simp [oI,hd,h_,he],hD3⟩
   ·refine W.k ?_
    refine Fin.rm b_ ?_;refine Fin.perm cD ?_;refine F.f1 ?_;exact⟨by simp [qO,hd,h_],H2,by simp [oI,hd,h_,he],hD3⟩
 ·rw [hd] at hdo
  refine W.k ?_
  refine Fin.rm b_ ?_;refine F.f1 ?_;exact⟨by simp [qO,hd],_,by simp [oI,hd];rfl,by simpa [sE,hd] using hD⟩
end
end Go.Proofs.YtnhnpjokpelkbaaGreat
