/- The document's own device: its model. The document's own device: the power goes. The document's own device: the power goes (the walk). The document's own device: an act, Do. The document's own device: Do, Arm. The document's own device: New. -/
import Derived.Test.YtnhnpjokpelkbaaGreatPs16
import Derived.Test.YtnhnpjokpelkbaaGreatPs1
import Derived.Test.YtnhnpjokpelkbaaGreatPs13
import Derived.Test.YtnhnpjokpelkbaaGreatPs14
import Derived.Test.YtnhnpjokpelkbaaGreatPs15
import Derived.Test.YtnhnpjokpelkbaaGreatPs10
import Derived.Test.YtnhnpjokpelkbaaGreatPs6
import Derived.Test.YtnhnpjokpelkbaaGreatPs2
set_option linter.unusedVariables false
set_option linter.unusedSimpArgs false
set_option linter.unusedSectionVars false
set_option maxHeartbeats 1600000
namespace Go.Proofs.YtnhnpjokpelkbaaGreat
open Go Go.Proofs.Tryz
section
attribute [local irreducible] SW SL SQ SH SA Pu Fin
def rl(ws:List Wd):List Value:=ws.flatMap fun w=>w.lasts.map bv
def rn(ws:List Wd):List Value:=ws.flatMap fun w=>w.now.map bv
def rp(ws:List Wd):List Value:=ws.map fun w=>.bool w.pend
def rm(ws:List Wd):List Value:=ws.map fun w=>.bool w.mark
theorem aGP{ws:List Wd}(h:∀ w∈ws,w.Ok):(rn ws).length=8*ws.length:=by
 rw [rn,nE _ 8 _ (fun w hw=>by simpa using (h w hw).1.2)];omega
theorem aGN{ws:List Wd}(h:∀ w∈ws,w.Ok):(rl ws).length=8*ws.length:=by
 rw [rl,nE _ 8 _ (fun w hw=>by simpa using (h w hw).1.1)];omega
def lS(p:Nat)(σ:Dv)(H:Hp):Prop:=
 σ.Ok∧∃ bl bn bp bm vp va Hq Ha,Sl 5 1 vp (σ.picks.map bv) Hq∧Sl 247 3 va (σ.acts.flatMap ac) Ha ∧
  H=(p,cl [.slice (some ⟨bl,0,none⟩) σ.len σ.len,.slice (some ⟨bn,0,none⟩) σ.len σ.len,.slice (some ⟨bp,0,none⟩) σ.ws.length σ.ws.length,.slice (some ⟨bm,0,none⟩) σ.ws.length σ.ws.length,.bool σ.down,.int .i64 σ.fuse,vp,va] 214) ::
   (bl,cl (rl σ.ws) 5)::(bn,cl (rn σ.ws) 5)::(bp,cl (rp σ.ws) 4)::(bm,cl (rm σ.ws) 4)::(Hq++Ha)
theorem xH{p:Nat}{σ:Dv}{H:Hp}(hD:lS p σ H)(x n:Int):Tri prog 199 [.pointer (some ⟨p,0,none⟩),.int .i64 x,.int .i64 n] H (fun _=>True) (fun v H'=>v=.int .i64 (σ.rdy x n)∧H'=H):=by
 obtain⟨hO,bl,bn,bp,bm,vp,va,Hq,Ha,h1,h2,rfl⟩:=hD
 have hof:One vp:=h1.one
 have hoa:One va:=h2.one
 have hn:σ.len≤65536:=by have:=hO.n;simp only [Dv.len];omega
 refine Tri.mk func199 rfl ntmps199 rfl fun w hw=>?_
 repeat' (first|(refine W.ow ?_;try intro b_)  | refine eD (qS rfl rfl rfl) rfl rfl (fun h_=>?_) (fun h_=>?_)|refine eD (qR rfl rfl rfl) rfl rfl (fun h_=>?_) (fun h_=>?_)|refine eD (qP rfl rfl rfl) rfl rfl (fun h_=>?_) (fun h_=>?_)|refine eD (qO rfl rfl rfl) rfl rfl (fun h_=>?_) (fun h_=>?_)|refine eD (nJ rfl rfl rfl) rfl rfl (fun h_=>?_) (fun h_=>?_)|refine eD (qT rfl rfl rfl) rfl rfl (fun h_=>?_) (fun h_=>?_)|refine kF rfl (fun h_=>?_) (fun h_=>?_))
 all_goals (refine Fin.r1 (.inl rfl) rfl rfl _ ⟨?_,rfl⟩;unfold Dv.rdy;congr 1)
 all_goals (repeat' split)
 all_goals first|rfl|(exfalso;simp_all;done)|(exfalso;omega)
end
section
variable {P:Program}{C:Ctx}{ρ:Fr}{H H':Hp}{o:Oper}
theorem mS{t e n len cap l h b j m c:Nat}{x y y2:Operand}{k k2:IntKind}{i i2:Int}(ho:o.op=.slice t x (some y) (some y2) none)(hx:ev ρ x=some (.slice (some ⟨b,j,none⟩) len cap)) [ht:cE P t e n]
  (hy:ev ρ y=some (.int k i)) (hy2:ev ρ y2=some (.int k2 i2)) (hl:i=(l:Int)) (hh:i2=(h:Int)) (hlt:l<cap) (h2:h≤cap) (hm:l+m=h) {j':Nat} (hj:j+l*n=j') (hc:l+c=cap):Pu P C ρ H o (.slice (some ⟨b,j',none⟩) m c):=by
 have:=pA (P:=P) (C:=C) (H:=H) (vl:=none) (vh:=none) ho hx (ht:=ht) (l:=l) (h:=h) (.inr ⟨y,k,i,rfl,hy,hl⟩) (.inr ⟨y2,k2,i2,rfl,hy2,hh⟩) oQ h2
 have e1:lO (some ⟨b,j,none⟩) cap l n=some ⟨b,j',none⟩:=by
  unfold lO
  rw [if_neg oQ]
  simp only [Option.map_some,dF]
  subst hj
  unfold Addr.add
  split
  ·rename_i h0;rw [h0];rfl
  ·rfl
 have e2:h-l=m:=oQ
 have e3:cap-l=c:=oQ
 rw [e1,e2,e3] at this
 exact this
end
section
attribute [local irreducible] SW SL SQ SH SA Pu Fin
theorem aAR{A B x y:List Value}{m:Nat}(hA:A.length=m)(hx:x.length=8)(hy:y.length=8):(A++(x++B)).take m++y++(A++(x++B)).drop (m+y.length)=A++(y++B):=by
 subst hA
 rw [dI rfl,← cM,fQ rfl,fQ oQ,aV]
theorem aKH{A B x:List Value}{m:Nat}(hA:A.length=m)(hx:x.length=8):((A++(x++B)).drop m).take (8*1)=x:=by
 subst hA
 rw [fQ rfl,dI oQ]
theorem aCK(d t:List Wd)(u:Wd):rl (d++u::t)=rl d++(u.lasts.map bv++rl t):=by simp [rl]
theorem aCM(d t:List Wd)(u:Wd):rn (d++u::t)=rn d++(u.now.map bv++rn t):=by simp [rn]
theorem aCO(d t:List Wd)(u:Wd):rp (d++u::t)=rp d++(.bool u.pend::rp t):=by simp [rp]
theorem aCL(d t:List Wd)(u:Wd):rm (d++u::t)=rm d++(.bool u.mark::rm t):=by simp [rm]
theorem vN(d:List Wd):(rp d).length=d.length:=by simp [rp]
theorem xD(d:List Wd):(rm d).length=d.length:=by simp [rm]
theorem xL{A B:List Value}{m:Nat}{x y:Value}(hA:A.length=m):(A++(x::B)).set m y=A++(y::B):=by
 subst hA;simp
theorem aHh(b:UInt8):((b.toNat:Int).tmod 2=1)↔((b &&& 1) == 1)=true:=by
 have h1:((b &&& 1) == 1)=true↔b.toNat%2=1:=by
  rw [beq_iff_eq,← jL,UInt8.toNat_and,UInt8.toNat_one,rU]
 rw [h1]
 have:((b.toNat:Int)).tmod 2=((b.toNat%2:Nat):Int):=by rw [wK];rfl
 rw [this];omega
def aCJ(bl bn bp bm n:Nat)(d:Bool)(f:Int)(vp va:Value):Obj:=
 cl [.slice (some ⟨bl,0,none⟩) (8*n) (8*n),.slice (some ⟨bn,0,none⟩) (8*n) (8*n),.slice (some ⟨bp,0,none⟩) n n,.slice (some ⟨bm,0,none⟩) n n,.bool d,.int .i64 f,vp,va] 214
theorem aFH{p bl bn bp bm:Nat}{σ:Dv}(hO:σ.Ok)(vp va q:Value)(qs:List UInt8) :
  Tri prog 76 [.pointer (some ⟨p,0,none⟩),q]
   [(p,aCJ bl bn bp bm σ.ws.length σ.down σ.fuse vp va),(bl,cl (rl σ.ws) 5),(bn,cl (rn σ.ws) 5),(bp,cl (rp σ.ws) 4),(bm,cl (rm σ.ws) 4)] (fun w=>Rd [p,bl,bn,bp,bm] w 1 q (qs.map bv))
   (fun v H'=>v=.tuple #[]∧H'=[(p,aCJ bl bn bp bm (σ.crash qs).ws.length (σ.crash qs).down (σ.crash qs).fuse vp va),(bl,cl (rl (σ.crash qs).ws) 5),(bn,cl (rn (σ.crash qs).ws) 5),(bp,cl (rp (σ.crash qs).ws) 4),(bm,cl (rm (σ.crash qs).ws) 4)]):=by
 unfold aCJ
 obtain⟨ws,dn,fu,pk,ak⟩:=σ
 have hn:=hO.n
 have hok:=hO.ok
 simp only at hn hok
 refine Tri.mk func76 rfl ntmps76 rfl fun w hw=>?_
 obtain⟨a,len,cap,rfl,hlen,hcap,hrd⟩:=hw
 rw [aD,Nat.mul_one] at hlen
 cases dn
 ·dsimp only
  refine W.o ?_
  refine aAi (fun x:List Wd×List Wd×Nat=>[(0,.pointer (some ⟨p,0,none⟩)),(1,.slice a len cap),(4,.int .i64 x.2.2),(14,.int .i64 ws.length),(15,.int .i64 x.1.length)])
   (fun x=>[(p,aCJ bl bn bp bm ws.length false fu vp va),(bl,cl (rl (x.1++x.2.1)) 5),(bn,cl (rn (x.1++x.2.1)) 5),(bp,cl (rp (x.1++x.2.1)) 4),(bm,cl (rm (x.1++x.2.1)) 4)])
   (fun x=>x.2.1.length) (fun x=>kB qs 0 ws=x.1++kB qs x.2.2 x.2.1∧x.1.length+x.2.1.length=ws.length∧x.2.2≤x.1.length∧(∀ w∈x.1++x.2.1,w.Ok))
   ([],ws,0) ⟨rfl,rfl,rfl,rfl,rfl,trivial⟩ (by dsimp only [List.nil_append,aCJ];infer_instance) ⟨rfl,by simp,Nat.le_refl _,hok⟩ ?_
  rintro⟨done,todo,j⟩ ⟨hc,hl,hj,hk⟩
  dsimp only [aCJ] at hc hl hj hk ⊢
  cases todo with
  | nil=>
   have hl2:done.length=ws.length:=by simpa using hl
   refine W.o ?_
   refine Fin.s0 (.inr rfl) rfl ⟨rfl,?_⟩
   simp [Dv.crash,hc,kB,hl2]
  | cons u t=>
   have hl2:done.length+(t.length+1)=ws.length:=by simpa using hl
   have hu:u.Ok:=hk u (by simp)
   rw [aCK,aCM,aCO,aCL]
   have hpg:(rp done++(.bool u.pend::rp t))[done.length]?=some (.bool u.pend):=by
    rw [bB (by rw [vN];exact Nat.le_refl _),vN];simp
   refine W.o ?_
   refine bN (gZ rfl rfl rfl oQ oQ (j':=done.length) oQ) rfl rfl ?_
   refine W.o ?_
   have hlp:done.length<(rp done++(Value.bool u.pend::rp t)).length:=by rw [aB,vN];simp
   have hlm:done.length<(rm done++(Value.bool u.mark::rm t)).length:=by rw [aB,xD];simp
   have hdk:∀ w∈done,w.Ok:=fun w hw=>hk w (by simp [hw])
   have hA:=aGN hdk
   have hB:=aGP hdk
   obtain⟨la,no,pe,ma⟩:=u
   dsimp only at hpg hlp hlm
   cases pe
   ·have hma:ma=false:=by
     cases ma with
     | false=>rfl
     | true=>exact absurd (hu.2 rfl) (by simp)
    subst hma
    refine W.o ?_
    refine bN (gZ rfl rfl rfl oQ oQ (j':=done.length) oQ) rfl rfl ?_
    refine W.o ?_
    refine bN (gZ rfl rfl rfl oQ oQ (j':=done.length) oQ) rfl rfl ?_
    refine W.o ?_
    rw [xL (vN done),xL (xD done)]
    refine sV.eq (done++[⟨la,no,false,false⟩],t,j) (by simp) ⟨rfl,rfl,rfl,rfl,?_,trivial⟩ ?_ ⟨?_,?_,?_,?_⟩
    ·simp [lk,pt]
    ·simp [aCK,aCM,aCO,aCL,aCJ]
    ·rw [hc];simp [kB]
    ·simp;omega
    ·simp;omega
    ·simpa using hk
   ·have h8n:(no.map bv).length=8:=by simpa using hu.1.2
    have h8l:(la.map bv).length=8:=by simpa using hu.1.1
    rcases fY len with h0|h0
    ·subst h0
     have hq:qs=[]:=bL hlen
     have hbt:zD qs j=false:=by subst hq;simp [zD]
     have hLL:=hu.1.1
     refine W.o ?_
     refine mM [p] 99 kQ ?_
     (refine SA.take 0 rfl kQ (fun _ _ _ h=>Fin.np h) rfl rfl (fE rfl rfl) ?_;refine SA.take 1 rfl kQ (fun _ _ _ h=>Fin.np h) rfl rfl (sI rfl rfl) ?_;refine SA.take 2 rfl kQ (fun _ _ _ h=>Fin.np h) rfl rfl (gO rfl rfl rfl) ?_;refine SA.take 3 rfl kQ (fun _ _ _ h=>Fin.np h) rfl rfl (jK rfl rfl rfl) ?_;refine SA.take 4 rfl kQ (fun _ _ _ h=>Fin.np h) rfl rfl (fE rfl rfl) ?_;refine SA.take 5 rfl kQ (fun _ _ _ h=>Fin.np h) rfl rfl (kK rfl rfl rfl (w64 oQ)) ?_;refine SA.take 6 rfl kQ (fun _ _ _ h=>Fin.np h) rfl rfl (fE rfl rfl) ?_;refine SA.take 7 rfl kQ (fun _ _ _ h=>Fin.np h) rfl rfl (kK rfl rfl rfl (w64 oQ)) ?_;refine SA.take 8 rfl kQ (fun _ _ _ h=>Fin.np h) rfl rfl (uH rfl rfl rfl (w64 oQ)) ?_)
     refine SA.take 9 rfl kQ (fun _ _ _ h=>Fin.np h) rfl rfl (mS (l:=8*done.length) (m:=8) (h:=8*done.length+8) (j':=8*done.length) (c:=8*ws.length-8*done.length) rfl rfl rfl rfl oQ oQ oQ oQ oQ oQ oQ) ?_
     (refine SA.take 10 rfl kQ (fun _ _ _ h=>Fin.np h) rfl rfl (fE rfl rfl) ?_;refine SA.take 11 rfl kQ (fun _ _ _ h=>Fin.np h) rfl rfl (sI rfl rfl) ?_;refine SA.take 12 rfl kQ (fun _ _ _ h=>Fin.np h) rfl rfl (gO rfl rfl rfl) ?_;refine SA.take 13 rfl kQ (fun _ _ _ h=>Fin.np h) rfl rfl (jK rfl rfl rfl) ?_;refine SA.take 14 rfl kQ (fun _ _ _ h=>Fin.np h) rfl rfl (fE rfl rfl) ?_;refine SA.take 15 rfl kQ (fun _ _ _ h=>Fin.np h) rfl rfl (kK rfl rfl rfl (w64 oQ)) ?_;refine SA.take 16 rfl kQ (fun _ _ _ h=>Fin.np h) rfl rfl (fE rfl rfl) ?_;refine SA.take 17 rfl kQ (fun _ _ _ h=>Fin.np h) rfl rfl (kK rfl rfl rfl (w64 oQ)) ?_;refine SA.take 18 rfl kQ (fun _ _ _ h=>Fin.np h) rfl rfl (uH rfl rfl rfl (w64 oQ)) ?_)
     refine SA.take 19 rfl kQ (fun _ _ _ h=>Fin.np h) rfl rfl (mS (l:=8*done.length) (m:=8) (h:=8*done.length+8) (j':=8*done.length) (c:=8*ws.length-8*done.length) rfl rfl rfl rfl oQ oQ oQ oQ oQ oQ oQ) ?_
     refine SA.one 20 rfl kQ ?_
     refine aAg (m:=8) (ys:=la.map bv) rfl rfl rfl rfl rfl (fun w2 hs=>(fB.block (m:=8) (size:=1) (hs.at (b:=bl)) (aKH hA h8l) (by simpa using h8l)) w2 rfl) (by rw [aB,aB];omega) (aAR hB h8n h8l) ?_
     refine jH ?_
     refine Beh.mk ?_
     refine SA.done kQ ?_
     refine W.o ?_
     refine bN (gZ rfl rfl rfl oQ oQ (j':=done.length) oQ) rfl rfl ?_
     refine W.o ?_
     refine bN (gZ rfl rfl rfl oQ oQ (j':=done.length) oQ) rfl rfl ?_
     refine W.o ?_
     rw [xL (vN done),xL (xD done)]
     refine sV.eq (done++[⟨la,la,false,false⟩],t,j+1) (by simp) ⟨rfl,rfl,rfl,rfl,?_,trivial⟩ ?_ ⟨?_,?_,?_,?_⟩
     ·simp [lk,pt]
     ·simp [aCK,aCM,aCO,aCL,aCJ]
     ·rw [hc];simp only [kB,cond_true,Wd.crash];rw [hbt];simp
     ·simp;omega
     ·simp;omega
     ·have hk2:∀ w∈t,w.Ok:=fun w hw=>hk w (by simp [hw])
      intro w hw
      simp only [bG,cI,dV,or_false] at hw
      rcases hw with (hw|rfl)|hw
      ·exact hdk w hw
      ·exact⟨⟨hLL,hLL⟩,by simp⟩
      ·exact hk2 w hw
    ·obtain⟨b,o,l,T,fz,rfl,hb,hbk,hrow⟩:=hrd.resolve_left oQ
     obtain⟨x,hx⟩:∃ x,qs[j%qs.length]?=some x:=⟨_,aA (Nat.mod_lt _ oQ)⟩
     have hlx:l[o+(j%len)*1]?=some (bv x):=by
      have:=congrArg (fun z=>z[j%len]?) hrow
      rw [bI,if_pos (by have:=Nat.mod_lt j h0;omega),bH,aH,← hlen,hx] at this
      rw [Nat.mul_one,← hlen];exact this
     refine W.o ?_
     refine bN (aCE rfl rfl rfl oQ (r:=((j%len:Nat):Int)) (by rw [wK])) rfl rfl ?_
     refine bN (gZ rfl rfl rfl oQ (by have:=Nat.mod_lt j h0;omega) (j':=o+(j%len)*1) (by rw [aU])) rfl rfl ?_
     refine bN (uM rfl rfl hb hbk hlx) rfl rfl ?_
     refine bN (aCE rfl rfl rfl dQ rfl) rfl rfl ?_
     by_cases hbit:((x &&& 1) == 1)=true
     ·have hbt:zD qs j=true:=by simp only [zD,hx,hbit]
      have hLL:=hu.1.2
      refine bN (Pu.t (nJ rfl rfl rfl) ((aHh x).2 hbit)) rfl rfl ?_
      refine W.o ?_
      refine mM [p] 99 kQ ?_
      (refine SA.take 0 rfl kQ (fun _ _ _ h=>Fin.np h) rfl rfl (fE rfl rfl) ?_;refine SA.take 1 rfl kQ (fun _ _ _ h=>Fin.np h) rfl rfl (sI rfl rfl) ?_;refine SA.take 2 rfl kQ (fun _ _ _ h=>Fin.np h) rfl rfl (gO rfl rfl rfl) ?_;refine SA.take 3 rfl kQ (fun _ _ _ h=>Fin.np h) rfl rfl (jK rfl rfl rfl) ?_;refine SA.take 4 rfl kQ (fun _ _ _ h=>Fin.np h) rfl rfl (fE rfl rfl) ?_;refine SA.take 5 rfl kQ (fun _ _ _ h=>Fin.np h) rfl rfl (kK rfl rfl rfl (w64 oQ)) ?_;refine SA.take 6 rfl kQ (fun _ _ _ h=>Fin.np h) rfl rfl (fE rfl rfl) ?_;refine SA.take 7 rfl kQ (fun _ _ _ h=>Fin.np h) rfl rfl (kK rfl rfl rfl (w64 oQ)) ?_;refine SA.take 8 rfl kQ (fun _ _ _ h=>Fin.np h) rfl rfl (uH rfl rfl rfl (w64 oQ)) ?_)
      refine SA.take 9 rfl kQ (fun _ _ _ h=>Fin.np h) rfl rfl (mS (l:=8*done.length) (m:=8) (h:=8*done.length+8) (j':=8*done.length) (c:=8*ws.length-8*done.length) rfl rfl rfl rfl oQ oQ oQ oQ oQ oQ oQ) ?_
      (refine SA.take 10 rfl kQ (fun _ _ _ h=>Fin.np h) rfl rfl (fE rfl rfl) ?_;refine SA.take 11 rfl kQ (fun _ _ _ h=>Fin.np h) rfl rfl (sI rfl rfl) ?_;refine SA.take 12 rfl kQ (fun _ _ _ h=>Fin.np h) rfl rfl (gO rfl rfl rfl) ?_;refine SA.take 13 rfl kQ (fun _ _ _ h=>Fin.np h) rfl rfl (jK rfl rfl rfl) ?_;refine SA.take 14 rfl kQ (fun _ _ _ h=>Fin.np h) rfl rfl (fE rfl rfl) ?_;refine SA.take 15 rfl kQ (fun _ _ _ h=>Fin.np h) rfl rfl (kK rfl rfl rfl (w64 oQ)) ?_;refine SA.take 16 rfl kQ (fun _ _ _ h=>Fin.np h) rfl rfl (fE rfl rfl) ?_;refine SA.take 17 rfl kQ (fun _ _ _ h=>Fin.np h) rfl rfl (kK rfl rfl rfl (w64 oQ)) ?_;refine SA.take 18 rfl kQ (fun _ _ _ h=>Fin.np h) rfl rfl (uH rfl rfl rfl (w64 oQ)) ?_)
      refine SA.take 19 rfl kQ (fun _ _ _ h=>Fin.np h) rfl rfl (mS (l:=8*done.length) (m:=8) (h:=8*done.length+8) (j':=8*done.length) (c:=8*ws.length-8*done.length) rfl rfl rfl rfl oQ oQ oQ oQ oQ oQ oQ) ?_
      refine SA.one 20 rfl kQ ?_
      refine aAg (m:=8) (ys:=no.map bv) rfl rfl rfl rfl rfl (fun w2 hs=>(fB.block (m:=8) (size:=1) (hs.at (b:=bn)) (aKH hB h8n) (by simpa using h8n)) w2 rfl) (by rw [aB,aB];omega) (aAR hA h8l h8n) ?_
      refine jH ?_
      refine Beh.mk ?_
      refine SA.done kQ ?_
      refine W.o ?_
      refine mM [p] 99 kQ ?_
      (refine SA.take 0 rfl kQ (fun _ _ _ h=>Fin.np h) rfl rfl (fE rfl rfl) ?_;refine SA.take 1 rfl kQ (fun _ _ _ h=>Fin.np h) rfl rfl (sI rfl rfl) ?_;refine SA.take 2 rfl kQ (fun _ _ _ h=>Fin.np h) rfl rfl (gO rfl rfl rfl) ?_;refine SA.take 3 rfl kQ (fun _ _ _ h=>Fin.np h) rfl rfl (jK rfl rfl rfl) ?_;refine SA.take 4 rfl kQ (fun _ _ _ h=>Fin.np h) rfl rfl (fE rfl rfl) ?_;refine SA.take 5 rfl kQ (fun _ _ _ h=>Fin.np h) rfl rfl (kK rfl rfl rfl (w64 oQ)) ?_;refine SA.take 6 rfl kQ (fun _ _ _ h=>Fin.np h) rfl rfl (fE rfl rfl) ?_;refine SA.take 7 rfl kQ (fun _ _ _ h=>Fin.np h) rfl rfl (kK rfl rfl rfl (w64 oQ)) ?_;refine SA.take 8 rfl kQ (fun _ _ _ h=>Fin.np h) rfl rfl (uH rfl rfl rfl (w64 oQ)) ?_)
      refine SA.take 9 rfl kQ (fun _ _ _ h=>Fin.np h) rfl rfl (mS (l:=8*done.length) (m:=8) (h:=8*done.length+8) (j':=8*done.length) (c:=8*ws.length-8*done.length) rfl rfl rfl rfl oQ oQ oQ oQ oQ oQ oQ) ?_
      (refine SA.take 10 rfl kQ (fun _ _ _ h=>Fin.np h) rfl rfl (fE rfl rfl) ?_;refine SA.take 11 rfl kQ (fun _ _ _ h=>Fin.np h) rfl rfl (sI rfl rfl) ?_;refine SA.take 12 rfl kQ (fun _ _ _ h=>Fin.np h) rfl rfl (gO rfl rfl rfl) ?_;refine SA.take 13 rfl kQ (fun _ _ _ h=>Fin.np h) rfl rfl (jK rfl rfl rfl) ?_;refine SA.take 14 rfl kQ (fun _ _ _ h=>Fin.np h) rfl rfl (fE rfl rfl) ?_;refine SA.take 15 rfl kQ (fun _ _ _ h=>Fin.np h) rfl rfl (kK rfl rfl rfl (w64 oQ)) ?_;refine SA.take 16 rfl kQ (fun _ _ _ h=>Fin.np h) rfl rfl (fE rfl rfl) ?_;refine SA.take 17 rfl kQ (fun _ _ _ h=>Fin.np h) rfl rfl (kK rfl rfl rfl (w64 oQ)) ?_;refine SA.take 18 rfl kQ (fun _ _ _ h=>Fin.np h) rfl rfl (uH rfl rfl rfl (w64 oQ)) ?_)
      refine SA.take 19 rfl kQ (fun _ _ _ h=>Fin.np h) rfl rfl (mS (l:=8*done.length) (m:=8) (h:=8*done.length+8) (j':=8*done.length) (c:=8*ws.length-8*done.length) rfl rfl rfl rfl oQ oQ oQ oQ oQ oQ oQ) ?_
      refine SA.one 20 rfl kQ ?_
      refine aAg (m:=8) (ys:=no.map bv) rfl rfl rfl rfl rfl (fun w2 hs=>(fB.block (m:=8) (size:=1) (hs.at (b:=bl)) (aKH hA h8n) (by simpa using h8n)) w2 rfl) (by rw [aB,aB];omega) (aAR hB h8n h8n) ?_
      refine jH ?_
      refine Beh.mk ?_
      refine SA.done kQ ?_
      refine W.o ?_
      refine bN (gZ rfl rfl rfl oQ oQ (j':=done.length) oQ) rfl rfl ?_
      refine W.o ?_
      refine bN (gZ rfl rfl rfl oQ oQ (j':=done.length) oQ) rfl rfl ?_
      refine W.o ?_
      rw [xL (vN done),xL (xD done)]
      refine sV.eq (done++[⟨no,no,false,false⟩],t,j+1) (by simp) ⟨rfl,rfl,rfl,rfl,?_,trivial⟩ ?_ ⟨?_,?_,?_,?_⟩
      ·simp [lk,pt]
      ·simp [aCK,aCM,aCO,aCL,aCJ]
      ·rw [hc];simp only [kB,cond_true,Wd.crash];rw [hbt];simp
      ·simp;omega
      ·simp;omega
      ·have hk2:∀ w∈t,w.Ok:=fun w hw=>hk w (by simp [hw])
       intro w hw
       simp only [bG,cI,dV,or_false] at hw
       rcases hw with (hw|rfl)|hw
       ·exact hdk w hw
       ·exact⟨⟨hLL,hLL⟩,by simp⟩
       ·exact hk2 w hw
     ·have hbt:zD qs j=false:=by simp only [Bool.not_eq_true] at hbit;simp only [zD,hx,hbit]
      have hLL:=hu.1.1
      refine bN (Pu.f (nJ rfl rfl rfl) (fun h=>hbit ((aHh x).1 h))) rfl rfl ?_
      refine W.o ?_
      refine mM [p] 99 kQ ?_
      (refine SA.take 0 rfl kQ (fun _ _ _ h=>Fin.np h) rfl rfl (fE rfl rfl) ?_;refine SA.take 1 rfl kQ (fun _ _ _ h=>Fin.np h) rfl rfl (sI rfl rfl) ?_;refine SA.take 2 rfl kQ (fun _ _ _ h=>Fin.np h) rfl rfl (gO rfl rfl rfl) ?_;refine SA.take 3 rfl kQ (fun _ _ _ h=>Fin.np h) rfl rfl (jK rfl rfl rfl) ?_;refine SA.take 4 rfl kQ (fun _ _ _ h=>Fin.np h) rfl rfl (fE rfl rfl) ?_;refine SA.take 5 rfl kQ (fun _ _ _ h=>Fin.np h) rfl rfl (kK rfl rfl rfl (w64 oQ)) ?_;refine SA.take 6 rfl kQ (fun _ _ _ h=>Fin.np h) rfl rfl (fE rfl rfl) ?_;refine SA.take 7 rfl kQ (fun _ _ _ h=>Fin.np h) rfl rfl (kK rfl rfl rfl (w64 oQ)) ?_;refine SA.take 8 rfl kQ (fun _ _ _ h=>Fin.np h) rfl rfl (uH rfl rfl rfl (w64 oQ)) ?_)
      refine SA.take 9 rfl kQ (fun _ _ _ h=>Fin.np h) rfl rfl (mS (l:=8*done.length) (m:=8) (h:=8*done.length+8) (j':=8*done.length) (c:=8*ws.length-8*done.length) rfl rfl rfl rfl oQ oQ oQ oQ oQ oQ oQ) ?_
      (refine SA.take 10 rfl kQ (fun _ _ _ h=>Fin.np h) rfl rfl (fE rfl rfl) ?_;refine SA.take 11 rfl kQ (fun _ _ _ h=>Fin.np h) rfl rfl (sI rfl rfl) ?_;refine SA.take 12 rfl kQ (fun _ _ _ h=>Fin.np h) rfl rfl (gO rfl rfl rfl) ?_;refine SA.take 13 rfl kQ (fun _ _ _ h=>Fin.np h) rfl rfl (jK rfl rfl rfl) ?_;refine SA.take 14 rfl kQ (fun _ _ _ h=>Fin.np h) rfl rfl (fE rfl rfl) ?_;refine SA.take 15 rfl kQ (fun _ _ _ h=>Fin.np h) rfl rfl (kK rfl rfl rfl (w64 oQ)) ?_;refine SA.take 16 rfl kQ (fun _ _ _ h=>Fin.np h) rfl rfl (fE rfl rfl) ?_;refine SA.take 17 rfl kQ (fun _ _ _ h=>Fin.np h) rfl rfl (kK rfl rfl rfl (w64 oQ)) ?_;refine SA.take 18 rfl kQ (fun _ _ _ h=>Fin.np h) rfl rfl (uH rfl rfl rfl (w64 oQ)) ?_)
      refine SA.take 19 rfl kQ (fun _ _ _ h=>Fin.np h) rfl rfl (mS (l:=8*done.length) (m:=8) (h:=8*done.length+8) (j':=8*done.length) (c:=8*ws.length-8*done.length) rfl rfl rfl rfl oQ oQ oQ oQ oQ oQ oQ) ?_
      refine SA.one 20 rfl kQ ?_
      refine aAg (m:=8) (ys:=la.map bv) rfl rfl rfl rfl rfl (fun w2 hs=>(fB.block (m:=8) (size:=1) (hs.at (b:=bl)) (aKH hA h8l) (by simpa using h8l)) w2 rfl) (by rw [aB,aB];omega) (aAR hB h8n h8l) ?_
      refine jH ?_
      refine Beh.mk ?_
      refine SA.done kQ ?_
      refine W.o ?_
      refine bN (gZ rfl rfl rfl oQ oQ (j':=done.length) oQ) rfl rfl ?_
      refine W.o ?_
      refine bN (gZ rfl rfl rfl oQ oQ (j':=done.length) oQ) rfl rfl ?_
      refine W.o ?_
      rw [xL (vN done),xL (xD done)]
      refine sV.eq (done++[⟨la,la,false,false⟩],t,j+1) (by simp) ⟨rfl,rfl,rfl,rfl,?_,trivial⟩ ?_ ⟨?_,?_,?_,?_⟩
      ·simp [lk,pt]
      ·simp [aCK,aCM,aCO,aCL,aCJ]
      ·rw [hc];simp only [kB,cond_true,Wd.crash];rw [hbt];simp
      ·simp;omega
      ·simp;omega
      ·have hk2:∀ w∈t,w.Ok:=fun w hw=>hk w (by simp [hw])
       intro w hw
       simp only [bG,cI,dV,or_false] at hw
       rcases hw with (hw|rfl)|hw
       ·exact hdk w hw
       ·exact⟨⟨hLL,hLL⟩,by simp⟩
       ·exact hk2 w hw
 ·dsimp only
  refine W.o ?_
  refine Fin.s0 (.inl rfl) rfl ⟨rfl,rfl⟩
theorem aEn{p:Nat}{σ:Dv}{H:Hp}(hD:lS p σ H)(hnd:σ.down=false)(k x n:Int):Tri prog 233 [.pointer (some ⟨p,0,none⟩),.int .i64 k,.int .i64 x,.int .i64 n] H (fun _=>True)
  (fun v H'=>v=.int .i64 σ.actE∧lS p (σ.act (k,x,n)) H'):=by
 obtain⟨hO,bl,bn,bp,bm,vp,va,Hq,Ha,h1,h2,rfl⟩:=hD
 have hf0:=hO.f0
 have hf1:=hO.f1
 have ha:=hO.a
 have hof:One vp:=h1.one
 obtain⟨aa,la,ca,rfl,hla⟩:=h2.form
 have hla2:la=σ.acts.length:=by rw [nE ac 3 _ (fun x _=>rfl)] at hla;omega
 subst hla2
 refine Tri.mk func233 rfl ntmps233 rfl fun w hw=>?_
 by_cases c1:σ.fuse=1
 ·have hc:=aFH (p:=p) (bl:=bl) (bn:=bn) (bp:=bp) (bm:=bm) hO vp (.slice aa σ.acts.length ca) vp σ.picks
  unfold aCJ at hc
  refine W.o ?_
  refine aES [p,bl,bn,bp,bm] rfl rfl rfl rfl hc (fun w hs=>Rd.ownB [p,bl,bn,bp,bm] h1 hs) ?_
  rintro _ _ ⟨rfl,rfl⟩
  refine W.o ?_
  have he:σ.act (k,x,n)=σ.crash σ.picks:=by simp [Dv.act,c1,Dv.crash,hnd]
  rw [he]
  exact Fin.s1 (.inl rfl) rfl rfl ⟨by simp [Dv.actE,c1],Dv.crash_ok _ hO,bl,bn,bp,bm,vp,_,Hq,Ha,by unfold Dv.crash;rw [hnd];exact h1,by unfold Dv.crash;rw [hnd];exact h2,rfl⟩
 ·by_cases c0:1<σ.fuse
  ·refine W.o ?_
   by_cases c2:σ.acts.length<16384
   ·refine W.o ?_
    refine kN (n:=3) rfl rfl rfl rfl (by rfl) dQ (by rfl) dQ (fun b2=>?_)
    refine SL.append (n:=3) (m:=1) (ys:=ac (k,x,n)) Ha rfl rfl rfl rfl rfl h2 (fun w hs=>fB.block (hs.at (b:=b2)) rfl rfl) rfl rfl dQ dQ ?_ (fun v2 Ha2 h3=>?_)
    ·rw [hla];simp [ac];omega
    have hov:One v2:=h3.one
    refine W.o ?_
    refine Fin.rm b2 ?_
    have hl2:(σ.acts++[(k,x,n)]).flatMap ac=σ.acts.flatMap ac++ac (k,x,n):=by simp
    rw [← hl2] at h3
    have c3:0<σ.fuse:=oQ
    have he:σ.act (k,x,n)=({ σ with fuse:=(σ.fuse-1),acts:=σ.acts++[(k,x,n)] }:Dv):=by simp [Dv.act,Dv.push,c1,c2,c3]
    rw [he]
    exact Fin.perm cK (Fin.s1 (.inl rfl) rfl rfl ⟨by simp [Dv.actE,c1],⟨hO.n,hO.ok,by dsimp only;omega,by dsimp only;omega,by simp;omega⟩,bl,bn,bp,bm,vp,v2,Hq,Ha2,h1,h3,by rw [aF];rfl⟩)
   ·refine W.o ?_
    have c3:0<σ.fuse:=oQ
    have he:σ.act (k,x,n)=({ σ with fuse:=(σ.fuse-1) }:Dv):=by simp [Dv.act,Dv.push,c1,c2,c3]
    rw [he]
    exact Fin.s1 (.inl rfl) rfl rfl ⟨by simp [Dv.actE,c1],Dv.fuse_ok _ hO oQ oQ,bl,bn,bp,bm,vp,_,Hq,Ha,h1,h2,rfl⟩
  ·refine W.o ?_
   by_cases c2:σ.acts.length<16384
   ·refine W.o ?_
    refine kN (n:=3) rfl rfl rfl rfl (by rfl) dQ (by rfl) dQ (fun b2=>?_)
    refine SL.append (n:=3) (m:=1) (ys:=ac (k,x,n)) Ha rfl rfl rfl rfl rfl h2 (fun w hs=>fB.block (hs.at (b:=b2)) rfl rfl) rfl rfl dQ dQ ?_ (fun v2 Ha2 h3=>?_)
    ·rw [hla];simp [ac];omega
    have hov:One v2:=h3.one
    refine W.o ?_
    refine Fin.rm b2 ?_
    have hl2:(σ.acts++[(k,x,n)]).flatMap ac=σ.acts.flatMap ac++ac (k,x,n):=by simp
    rw [← hl2] at h3
    have c3:¬ 0<σ.fuse:=oQ
    have he:σ.act (k,x,n)=({ σ with fuse:=σ.fuse,acts:=σ.acts++[(k,x,n)] }:Dv):=by simp [Dv.act,Dv.push,c2,c3]
    rw [he]
    exact Fin.perm cK (Fin.s1 (.inl rfl) rfl rfl ⟨by simp [Dv.actE,c1],⟨hO.n,hO.ok,by dsimp only;omega,by dsimp only;omega,by simp;omega⟩,bl,bn,bp,bm,vp,v2,Hq,Ha2,h1,h3,by rw [aF];rfl⟩)
   ·refine W.o ?_
    have c3:¬ 0<σ.fuse:=oQ
    have he:σ.act (k,x,n)=({ σ with fuse:=σ.fuse }:Dv):=by simp [Dv.act,Dv.push,c2,c3]
    rw [he]
    exact Fin.s1 (.inl rfl) rfl rfl ⟨by simp [Dv.actE,c1],Dv.fuse_ok _ hO oQ oQ,bl,bn,bp,bm,vp,_,Hq,Ha,h1,h2,rfl⟩
theorem aOs{p:Nat}{σ:Dv}{H:Hp}(hD:lS p σ H):Tri prog 234 [.pointer (some ⟨p,0,none⟩)] H (fun _=>True) (fun v H'=>v=.int .i64 σ.dooE∧lS p σ.doo H'):=by
 have hr:=xH hD 0 0
 rw [Dv.rdy00] at hr
 refine Tri.mk func234 rfl ntmps234 rfl fun w hw=>?_
 by_cases hd:σ.down=true
 ·rw [if_pos hd] at hr
  repeat' (first|(refine vA ?_;refine aBD rfl rfl ?_)|(refine rW ?_;((refine pT _ rfl rfl rfl rfl hr (fun _ _=>trivial) ?_;rintro _ _ ⟨rfl,rfl⟩)))|(refine W.ow ?_;try intro b_)  | refine eD (qS rfl rfl rfl) rfl rfl (fun h_=>?_) (fun h_=>?_)|refine eD (qR rfl rfl rfl) rfl rfl (fun h_=>?_) (fun h_=>?_)|refine eD (qP rfl rfl rfl) rfl rfl (fun h_=>?_) (fun h_=>?_)|refine eD (qO rfl rfl rfl) rfl rfl (fun h_=>?_) (fun h_=>?_)|refine eD (nJ rfl rfl rfl) rfl rfl (fun h_=>?_) (fun h_=>?_)|refine eD (qT rfl rfl rfl) rfl rfl (fun h_=>?_) (fun h_=>?_)|refine kF rfl (fun h_=>?_) (fun h_=>?_))
  rw [aF]
  exact Fin.s1 (.inl rfl) rfl rfl ⟨by simp [Dv.dooE,hd],by simpa [Dv.doo,hd] using hD⟩
 ·rw [if_neg hd] at hr
  have ha:=aEn hD (by simpa using hd) 4 0 0
  refine W.o ?_
  refine pT _ rfl rfl rfl rfl hr (fun _ _=>trivial) ?_
  rintro _ _ ⟨rfl,rfl⟩
  refine W.o ?_
  refine pT _ rfl rfl rfl rfl ha (fun _ _=>trivial) ?_
  rintro _ _ ⟨rfl,hD2⟩
  refine W.o ?_
  rw [aF]
  exact Fin.s1 (.inl rfl) rfl rfl ⟨by simp [Dv.dooE,hd],by simpa [Dv.doo,hd] using hD2⟩
theorem aOz(n:Int)(m:Nat)(hnm:n=m∨n<0∧m=0)(hm:m≤1024):Tri prog 46 [.int .i64 n] [] (fun _=>True) (fun v H'=>∃ p,v=.pointer (some ⟨p,0,none⟩)∧lS p (Dv.new m) H'):=by
 refine Tri.mk func46 rfl ntmps46 rfl fun w hw=>?_
 rcases hnm with rfl|⟨hneg,rfl⟩
 ·refine W.o ?_
  refine mM [] 99 kQ ?_
  (refine SA.take 0 rfl kQ (fun _ _ _ h=>Fin.np h) rfl rfl (fE rfl rfl) ?_;refine SA.take 1 rfl kQ (fun _ _ _ h=>Fin.np h) rfl rfl (kK rfl rfl rfl (w64 oQ)) ?_;refine SA.take 3 rfl kQ (fun _ _ _ h=>Fin.np h) rfl rfl (fE rfl rfl) ?_;refine SA.take 4 rfl kQ (fun _ _ _ h=>Fin.np h) rfl rfl (kK rfl rfl rfl (w64 oQ)) ?_;refine SA.take 6 rfl kQ (fun _ _ _ h=>Fin.np h) rfl rfl (fE rfl rfl) ?_;refine SA.take 7 rfl kQ (fun _ _ _ h=>Fin.np h) rfl rfl (kK rfl rfl rfl (w64 oQ)) ?_;refine SA.take 9 rfl kQ (fun _ _ _ h=>Fin.np h) rfl rfl (fE rfl rfl) ?_;refine SA.take 10 rfl kQ (fun _ _ _ h=>Fin.np h) rfl rfl (kK rfl rfl rfl (w64 oQ)) ?_)
  refine aA1 (fuel:=3) [(8,.int .i64 (64*m)),(11,.int .i64 (64*m)),(14,.int .i64 (8*m)),(17,.int .i64 (8*m))] 4
   [⟨2,9,fun b=>.slice (some ⟨b,0,none⟩) (64*m) (64*m),cl (zs [.int .u8 0] (64*m)) 5⟩,⟨5,12,fun b=>.slice (some ⟨b,0,none⟩) (64*m) (64*m),cl (zs [.int .u8 0] (64*m)) 5⟩,
    ⟨8,15,fun b=>.slice (some ⟨b,0,none⟩) (8*m) (8*m),cl (zs [.bool false] (8*m)) 4⟩,⟨11,18,fun b=>.slice (some ⟨b,0,none⟩) (8*m) (8*m),cl (zs [.bool false] (8*m)) 4⟩] [] _ _ _ rfl (by simp) (by simp) (by simp) (by simp) kQ trivial ⟨rfl,rfl,rfl,rfl,trivial⟩ ⟨_,List.Perm.refl _⟩ ?_ ?_
  ·intro x hx
   simp only [cI,dV,or_false] at hx
   rcases hx with rfl|rfl|rfl|rfl
   ·exact⟨_,rfl,fun K ρ H hs hk=>SL.make (n:=1) (l:=64*m) (c:=64*m) rfl rfl rfl hs.1 hs.1 oQ oQ (by rfl) dQ (Nat.le_refl _) oQ dQ fun b=>jH (hk b)⟩
   ·exact⟨_,rfl,fun K ρ H hs hk=>SL.make (n:=1) (l:=64*m) (c:=64*m) rfl rfl rfl hs.2.1 hs.2.1 oQ oQ (by rfl) dQ (Nat.le_refl _) oQ dQ fun b=>jH (hk b)⟩
   ·exact⟨_,rfl,fun K ρ H hs hk=>SL.make (n:=1) (l:=8*m) (c:=8*m) rfl rfl rfl hs.2.2.1 hs.2.2.1 oQ oQ (by rfl) dQ (Nat.le_refl _) oQ dQ fun b=>jH (hk b)⟩
   ·exact⟨_,rfl,fun K ρ H hs hk=>SL.make (n:=1) (l:=8*m) (c:=8*m) rfl rfl rfl hs.2.2.2.1 hs.2.2.2.1 oQ oQ (by rfl) dQ (Nat.le_refl _) oQ dQ fun b=>jH (hk b)⟩
  ·intro f ρ' H' _ hf hp
   simp only [cI,dV,or_false,forall_eq_or_imp,forall_eq] at hf
   obtain⟨f1,f2,f3,f4⟩:=hf
   simp only [dK,mU,eH,List.nil_append] at hp
   refine aDl [(9,.slice (some ⟨f 2,0,none⟩) (64*m) (64*m)),(12,.slice (some ⟨f 5,0,none⟩) (64*m) (64*m)),(15,.slice (some ⟨f 8,0,none⟩) (8*m) (8*m)),(18,.slice (some ⟨f 11,0,none⟩) (8*m) (8*m))] _ ⟨f1,f2,f3,f4,trivial⟩ hp ?_
   refine SA.one 12 rfl kQ ?_
   refine W.o ?_
   refine Beh.mk ?_
   refine SA.one 13 rfl kQ ?_
   refine W.o fun b_=>?_
   refine Beh.mk ?_
   refine SA.one 14 rfl kQ ?_
   refine W.o ?_
   refine Beh.mk ?_
   refine SA.done kQ ?_
   refine W.o ?_
   refine Fin.s1 (.inl rfl) rfl rfl ⟨b_,rfl,Dv.new_ok m,f 2,f 5,f 8,f 11,_,_,[],[],Sl.nil _ _,Sl.nil _ _,?_⟩
   have hz:(Dv.new m).ws.length=8*m:=by simp [Dv.new];omega
   have hz2:(Dv.new m).len=64*m:=by rw [Dv.len,hz];omega
   have hws:(Dv.new m).ws=List.replicate (8*m) Wd.zero:=by simp only [Dv.new];congr 1;omega
   have e8:∀ (n:Nat) (v:Value),(List.replicate n (List.replicate 8 v)).flatten=List.replicate (8*n) v:=fun n v=>by rw [List.flatten_replicate_replicate];congr 1;omega
   have h1:rl (Dv.new m).ws=zs [.int .u8 0] (64*m):=by
    rw [hws,kR,rl,fF,eI]
    show (List.replicate (8*m) (List.replicate 8 (Value.int .u8 0))).flatten=_
    rw [e8];congr 1;omega
   have h2:rn (Dv.new m).ws=zs [.int .u8 0] (64*m):=by
    rw [hws,kR,rn,fF,eI]
    show (List.replicate (8*m) (List.replicate 8 (Value.int .u8 0))).flatten=_
    rw [e8];congr 1;omega
   have h3:rp (Dv.new m).ws=zs [.bool false] (8*m):=by rw [hws,kR,rp,eI];rfl
   have h4:rm (Dv.new m).ws=zs [.bool false] (8*m):=by rw [hws,kR,rm,eI];rfl
   rw [hz2,hz,h1,h2,h3,h4]
   rfl
 ·obtain⟨m,hm0⟩:∃ m:Nat,m=0:=⟨0,rfl⟩
  rw [show (Dv.new ((0:Nat):Int))=Dv.new (m:Int) by rw [hm0]]
  have hm:m≤1024:=oQ
  refine W.o ?_
  refine aA5 (r:=[(0,.int .i64 m)]) ⟨by rw [hm0];rfl,trivial⟩ (fT.nil _) ?_
  refine mM [] 99 kQ ?_
  (refine SA.take 0 rfl kQ (fun _ _ _ h=>Fin.np h) rfl rfl (fE rfl rfl) ?_;refine SA.take 1 rfl kQ (fun _ _ _ h=>Fin.np h) rfl rfl (kK rfl rfl rfl (w64 oQ)) ?_;refine SA.take 3 rfl kQ (fun _ _ _ h=>Fin.np h) rfl rfl (fE rfl rfl) ?_;refine SA.take 4 rfl kQ (fun _ _ _ h=>Fin.np h) rfl rfl (kK rfl rfl rfl (w64 oQ)) ?_;refine SA.take 6 rfl kQ (fun _ _ _ h=>Fin.np h) rfl rfl (fE rfl rfl) ?_;refine SA.take 7 rfl kQ (fun _ _ _ h=>Fin.np h) rfl rfl (kK rfl rfl rfl (w64 oQ)) ?_;refine SA.take 9 rfl kQ (fun _ _ _ h=>Fin.np h) rfl rfl (fE rfl rfl) ?_;refine SA.take 10 rfl kQ (fun _ _ _ h=>Fin.np h) rfl rfl (kK rfl rfl rfl (w64 oQ)) ?_)
  refine aA1 (fuel:=3) [(8,.int .i64 (64*m)),(11,.int .i64 (64*m)),(14,.int .i64 (8*m)),(17,.int .i64 (8*m))] 4
   [⟨2,9,fun b=>.slice (some ⟨b,0,none⟩) (64*m) (64*m),cl (zs [.int .u8 0] (64*m)) 5⟩,⟨5,12,fun b=>.slice (some ⟨b,0,none⟩) (64*m) (64*m),cl (zs [.int .u8 0] (64*m)) 5⟩,
    ⟨8,15,fun b=>.slice (some ⟨b,0,none⟩) (8*m) (8*m),cl (zs [.bool false] (8*m)) 4⟩,⟨11,18,fun b=>.slice (some ⟨b,0,none⟩) (8*m) (8*m),cl (zs [.bool false] (8*m)) 4⟩] [] _ _ _ rfl (by simp) (by simp) (by simp) (by simp) kQ trivial ⟨rfl,rfl,rfl,rfl,trivial⟩ ⟨_,List.Perm.refl _⟩ ?_ ?_
  ·intro x hx
   simp only [cI,dV,or_false] at hx
   rcases hx with rfl|rfl|rfl|rfl
   ·exact⟨_,rfl,fun K ρ H hs hk=>SL.make (n:=1) (l:=64*m) (c:=64*m) rfl rfl rfl hs.1 hs.1 oQ oQ (by rfl) dQ (Nat.le_refl _) oQ dQ fun b=>jH (hk b)⟩
   ·exact⟨_,rfl,fun K ρ H hs hk=>SL.make (n:=1) (l:=64*m) (c:=64*m) rfl rfl rfl hs.2.1 hs.2.1 oQ oQ (by rfl) dQ (Nat.le_refl _) oQ dQ fun b=>jH (hk b)⟩
   ·exact⟨_,rfl,fun K ρ H hs hk=>SL.make (n:=1) (l:=8*m) (c:=8*m) rfl rfl rfl hs.2.2.1 hs.2.2.1 oQ oQ (by rfl) dQ (Nat.le_refl _) oQ dQ fun b=>jH (hk b)⟩
   ·exact⟨_,rfl,fun K ρ H hs hk=>SL.make (n:=1) (l:=8*m) (c:=8*m) rfl rfl rfl hs.2.2.2.1 hs.2.2.2.1 oQ oQ (by rfl) dQ (Nat.le_refl _) oQ dQ fun b=>jH (hk b)⟩
  ·intro f ρ' H' _ hf hp
   simp only [cI,dV,or_false,forall_eq_or_imp,forall_eq] at hf
   obtain⟨f1,f2,f3,f4⟩:=hf
   simp only [dK,mU,eH,List.nil_append] at hp
   refine aDl [(9,.slice (some ⟨f 2,0,none⟩) (64*m) (64*m)),(12,.slice (some ⟨f 5,0,none⟩) (64*m) (64*m)),(15,.slice (some ⟨f 8,0,none⟩) (8*m) (8*m)),(18,.slice (some ⟨f 11,0,none⟩) (8*m) (8*m))] _ ⟨f1,f2,f3,f4,trivial⟩ hp ?_
   refine SA.one 12 rfl kQ ?_
   refine W.o ?_
   refine Beh.mk ?_
   refine SA.one 13 rfl kQ ?_
   refine W.o fun b_=>?_
   refine Beh.mk ?_
   refine SA.one 14 rfl kQ ?_
   refine W.o ?_
   refine Beh.mk ?_
   refine SA.done kQ ?_
   refine W.o ?_
   refine Fin.s1 (.inl rfl) rfl rfl ⟨b_,rfl,Dv.new_ok m,f 2,f 5,f 8,f 11,_,_,[],[],Sl.nil _ _,Sl.nil _ _,?_⟩
   have hz:(Dv.new m).ws.length=8*m:=by simp [Dv.new];omega
   have hz2:(Dv.new m).len=64*m:=by rw [Dv.len,hz];omega
   have hws:(Dv.new m).ws=List.replicate (8*m) Wd.zero:=by simp only [Dv.new];congr 1;omega
   have e8:∀ (n:Nat) (v:Value),(List.replicate n (List.replicate 8 v)).flatten=List.replicate (8*n) v:=fun n v=>by rw [List.flatten_replicate_replicate];congr 1;omega
   have h1:rl (Dv.new m).ws=zs [.int .u8 0] (64*m):=by
    rw [hws,kR,rl,fF,eI]
    show (List.replicate (8*m) (List.replicate 8 (Value.int .u8 0))).flatten=_
    rw [e8];congr 1;omega
   have h2:rn (Dv.new m).ws=zs [.int .u8 0] (64*m):=by
    rw [hws,kR,rn,fF,eI]
    show (List.replicate (8*m) (List.replicate 8 (Value.int .u8 0))).flatten=_
    rw [e8];congr 1;omega
   have h3:rp (Dv.new m).ws=zs [.bool false] (8*m):=by rw [hws,kR,rp,eI];rfl
   have h4:rm (Dv.new m).ws=zs [.bool false] (8*m):=by rw [hws,kR,rm,eI];rfl
   rw [hz2,hz,h1,h2,h3,h4]
   rfl
theorem aOA(m:Nat)(hm:m≤1024):Tri prog 46 [.int .i64 m] [] (fun _=>True) (fun v H'=>∃ p,v=.pointer (some ⟨p,0,none⟩)∧lS p (Dv.new m) H'):=aOz m m (.inl rfl) hm
end
section
attribute [local irreducible] SW SL SQ SH SA SS Pu Fin bZ aQ
theorem aOK(c:Nat):Tri prog 43 [.pointer (some ⟨c,0,none⟩)] [] (fun _=>True) (fun v H=>∃ s m,v=.pointer (some ⟨s,0,none⟩)∧H=[(s,cl [.pointer (some ⟨c,0,none⟩),.map (some m),.slice none 0 0] 170),(m,mo [])]):=by
 refine Tri.mk func43 rfl ntmps43 rfl fun w hw=>?_
 have hb:∀ m:Nat,bS (fun i=>[(0,1),(1,1),(2,1)][i]?) [.pointer none,.map none,.slice none 0 0] [(0,.pointer (some ⟨c,0,none⟩)),(1,.map (some m))]=some [.pointer (some ⟨c,0,none⟩),.map (some m),.slice none 0 0]:=fun m=>rfl
 refine W.k ?_
 refine aMQ fun m=>?_
 have hbm:=hb m
 refine W.k fun b_=>?_
 refine Fin.to [(b_,cl [.pointer (some ⟨c,0,none⟩),.map (some m),.slice none 0 0] 170),(m,mo [])] ?_
 exact F.f1 ⟨b_,m,rfl,rfl⟩
def rg0(cnt:Int):Rg:=⟨cnt,List.replicate 32 0⟩
theorem aKE{cnt:Int}(h0:0≤cnt)(h1:cnt≤18446744073709551615):(rg0 cnt).Ok:=⟨rfl,h0,h1⟩
def aMJ(pp p t:Nat)(k:List UInt8)(cnt:Int)(H:Hp):Prop:=
 ∃ d tr s m bk tb c b rd rtr rs rc Hd Hb Hc HD HR,fS d (Dv.new (4*Gm.total p t:Nat)) Hd∧eR bk tb Bk.new Hb∧aDQ c b (k.length/4+6) (Aes.sched k) Hc∧lS rd (Dv.new (4*Gm.total p t:Nat)) HD∧aEF rc (k.length/4+6) (Rg.sched k) HR ∧
  H=(pp,cl [ptv d,ptv tr,ptv s,ptv bk,.int .i64 (p:Int),.int .i64 (t:Int),.pointer none,ptv rd,ptv rtr,ptv rs,.int .i64 (p:Int),.int .i64 (t:Int),.pointer none] 47) ::
   (tr,cl (trc d (rg0 cnt)) 201)::(s,cl [ptv c,.map (some m),.slice none 0 0] 170)::(m,mo [])::(b,gU) ::
   (rtr,cl (rgc (rg0 cnt)++[ptv rd]) 120)::(rs,cl [ptv rc,.slice none 0 0,.bool false,.int .u64 0,.int .i64 0,.slice none 0 0] 127) ::
   (Hd++(Hb++(Hc++(HD++HR))))
theorem aLD{p t:Nat}(h:Gm.Ok p t)(k:List UInt8)(hk:k.length=16){cnt:Int}(h0:0≤cnt)(h1:cnt≤18446744073709551615):Tri prog 10 [kP p t,.agg (cbs k).toArray,.int .u64 cnt] [] (fun _=>True)
  (fun v H=>∃ pp,v=ptv pp∧aMJ pp p t k cnt H):=by
 refine Tri.mk func10 rfl ntmps10 rfl fun w hw=>?_
 have hall:=aAH h
 have htot:=Gm.total_le2 h
 have hpl:=pY (Gm.all p t)
 rw [Gm.all_len] at hpl
 unfold aMJ
 generalize Gm.total p t=n at *
 refine W.k fun _ b_=>?_
 refine aG hall ?_
 rintro v1 H1 ⟨Hs,hS,rfl⟩
 obtain⟨a,len,cap,rfl,hl1⟩:=hS.form
 have hl2:len=n:=oQ
 subst hl2
 refine W.k ?_
 rw [show (4:Int)*(len:Int)=((4*len:Nat):Int) by omega]
 (refine aML [] [] ?_;refine dN 1 rfl (yT rfl rfl) ?_;refine aX 0 ?_)
 refine aG aJ6 ?_
 rintro _ _ ⟨b,rfl,rfl⟩
 (refine bK [] ?_;refine aX 2 ?_)
 rename_i bg
 refine aG (aNz (b:=b) (len:=16) (cap:=16) k (.inl hk)) ?_ (hpre:=fun w2 hs=>Rd.atB (Hc:=[(b,gU)]) (T:=32) (fz:=(0,0)) k hs hk (Nat.le_refl _))
 rintro _ _ ⟨c,Hc,rfl,hC,rfl⟩
 (refine SL.l [3,4,5,6,7,8] ?_)
 refine W.k ?_
 refine aG (aJ8 ((4*len:Nat):Int)) ?_
 rintro _ Hd ⟨d,rfl,hD⟩
 refine W.k ?_
 (refine SW.l [12] [0,1,2,3,5,9] ?_;refine aX 4 ?_)
 refine aG (aPX d (rg0 cnt) (aKE h0 h1)) ?_
 rintro _ _ ⟨tr,rfl,rfl⟩
 (refine bK [] ?_;refine aX 6 ?_)
 refine aG (aOK c) ?_
 rintro _ _ ⟨s,m,rfl,rfl⟩
 (refine bK [] ?_;refine aX 7 ?_)
 refine aG aN3 ?_
 rintro _ _ ⟨tb,rfl,rfl⟩
 (refine bK [] ?_;refine aX 8 ?_)
 refine aG (aNa tb) ?_
 rintro _ Hb ⟨bk,rfl,hB⟩
 have hb41:bS (fun i=>[(0,1),(1,1),(2,1),(3,1),(4,2)][i]?) [.pointer none,.pointer none,.pointer none,.pointer none,.int .i64 0,.int .i64 0] [(0,ptv d),(1,ptv tr),(2,ptv s),(3,ptv bk),(4,kP p t)]=some [ptv d,ptv tr,ptv s,ptv bk,.int .i64 (p:Int),.int .i64 (t:Int)]:=rfl
 have hb56:bS (fun i=>[(0,6),(6,1),(7,5),(12,1)][i]?) (List.replicate 4 (.pointer none)++[.int .i64 0,.int .i64 0]++List.replicate 4 (.pointer none)++[.int .i64 0,.int .i64 0]++[.pointer none]) [(0,.agg [ptv d,ptv tr,ptv s,ptv bk,.int .i64 (p:Int),.int .i64 (t:Int)].toArray)]=some [ptv d,ptv tr,ptv s,ptv bk,.int .i64 (p:Int),.int .i64 (t:Int),.pointer none,.pointer none,.pointer none,.pointer none,.int .i64 0,.int .i64 0,.pointer none]:=rfl
 (refine SL.l [10,11] ?_;refine bV 12 ?_;refine W.i fun b_=>?_;refine SG.l [13,14] ?_)
 rename_i bk4
 clear hb41 hb56
 refine aHd [2,3,4,7,11] ?_
 refine W.k ?_
 refine aG (aOA (4*len) oQ) ?_
 rintro _ HD ⟨rd,rfl,hDR⟩
 have hb97:bS (fun i=>[(0,1),(1,32)][i]?) ([.int .u64 0]++List.replicate 32 (.int .u8 0)) [(0,.int .u64 cnt)]=some (rgc (rg0 cnt)):=rfl
 have hb101:bS (fun i=>[(0,33),(33,1)][i]?) ([.int .u64 0]++List.replicate 32 (.int .u8 0)++[.pointer none]) [(0,.agg (rgc (rg0 cnt)).toArray),(1,ptv rd)]=some (rgc (rg0 cnt)++[ptv rd]):=rfl
 have hb108:∀ rc,bS (fun i=>[(0,1),(1,1),(2,1),(3,3)][i]?) [.pointer none,.slice none 0 0,.bool false,.int .u64 0,.int .i64 0,.slice none 0 0] [(0,ptv rc)]=some [ptv rc,.slice none 0 0,.bool false,.int .u64 0,.int .i64 0,.slice none 0 0]:=fun rc=>rfl
 have hb53:∀ rtr rs,bS (fun i=>[(0,1),(1,1),(2,1),(3,2)][i]?) [.pointer none,.pointer none,.pointer none,.int .i64 0,.int .i64 0] [(0,ptv rd),(1,ptv rtr),(2,ptv rs),(3,kP p t)]=some [ptv rd,ptv rtr,ptv rs,.int .i64 (p:Int),.int .i64 (t:Int)]:=fun _ _=>rfl
 refine W.k ?_
 (refine SW.l [15] [0,1,2,3,4,5] ?_;refine dN 7 rfl (yT rfl rfl) ?_;refine SG.l [11] ?_;skip )
 refine jD 6 8 ?a ?b rfl rfl
 case' a=>
  refine aBF fun rtr=>?_
  refine dX ?_
  refine aX 8 ?_
  refine aG (aHO (len:=16) (cap:=16) k (.inl hk)) ?_ (hpre:=fun w2 hs=>Rd.atB (Hc:=[]) (T:=32) (fz:=(0,0)) k hs hk (Nat.le_refl _))
  rintro _ HR ⟨rc,rfl,hR⟩
  have hbrc:=hb108 rc
  refine dX ?_
  refine dN 9 rfl (pW rfl rfl hbrc) ?_
  refine aX 10 ?_
  refine aBF fun rs=>?_
 case' b=>
  refine aG (aHO (len:=16) (cap:=16) k (.inl hk)) ?_ (hpre:=fun w2 hs=>Rd.atB (Hc:=[]) (T:=32) (fz:=(0,0)) k hs hk (Nat.le_refl _))
  rintro _ HR ⟨rc,rfl,hR⟩
  have hbrc:=hb108 rc
  refine dX ?_
  refine dN 9 rfl (pW rfl rfl hbrc) ?_
  refine jD 6 10 ?c ?d rfl rfl
  case' c=>
   refine aBF fun rtr=>?_
   refine dX ?_
   refine aX 10 ?_
   refine aBF fun rs=>?_
  case' d=>
   refine aBF fun rs=>?_
   refine dX ?_
   refine aX 6 ?_
   refine aBF fun rtr=>?_
 all_goals
  (refine bK [] ?_;refine dN 12 rfl (pW rfl rfl (hb53 rtr rs)) ?_;refine SG.l [13,14] ?_;refine bV 15 ?_;refine W.i ?_;refine SS.dn ?_)
  rw [show List.take 7 ([ptv d,ptv tr,ptv s,ptv bk,.int .i64 (p:Int),.int .i64 (t:Int),.pointer none,.pointer none,.pointer none,.pointer none,.int .i64 0,.int .i64 0,.pointer none]:List Value)++[ptv rd,ptv rtr,ptv rs,.int .i64 (p:Int),.int .i64 (t:Int)]++List.drop (7+5) ([ptv d,ptv tr,ptv s,ptv bk,.int .i64 (p:Int),.int .i64 (t:Int),.pointer none,.pointer none,.pointer none,.pointer none,.int .i64 0,.int .i64 0,.pointer none]:List Value)=[ptv d,ptv tr,ptv s,ptv bk,.int .i64 (p:Int),.int .i64 (t:Int),.pointer none,ptv rd,ptv rtr,ptv rs,.int .i64 (p:Int),.int .i64 (t:Int),.pointer none] from rfl]
  refine W.k ?_
  refine Fin.to ((b_,cl [ptv d,ptv tr,ptv s,ptv bk,.int .i64 (p:Int),.int .i64 (t:Int),.pointer none,ptv rd,ptv rtr,ptv rs,.int .i64 (p:Int),.int .i64 (t:Int),.pointer none] 47) ::
   (tr,cl (trc d (rg0 cnt)) 201)::(s,cl [ptv c,.map (some m),.slice none 0 0] 170)::(m,mo [])::(b,gU) ::
   (rtr,cl (rgc (rg0 cnt)++[ptv rd]) 120)::(rs,cl [ptv rc,.slice none 0 0,.bool false,.int .u64 0,.int .i64 0,.slice none 0 0] 127) ::
   (Hd++(Hb++(Hc++(HD++HR))))) ?_
  refine F.f1 ⟨b_,rfl,?_⟩
  exact⟨d,tr,s,m,bk,tb,c,b,rd,rtr,rs,rc,Hd,Hb,Hc,HD,HR,hD,hB,hC,hDR,hR,rfl⟩
abbrev wN(d tr s bk p t:Nat):Value:=.agg #[ptv d,ptv tr,ptv s,ptv bk,.int .i64 (p:Int),.int .i64 (t:Int)]
def Dv.blk(σ:Dv)(k:Nat):List UInt8:=σ.loadB (256*k:Nat) 256
end
section
attribute [local irreducible] SW SL SQ SH SA Pu Fin
def sQ(σ:Dv)(r r':Rg):Dv:=if σ.down=true then σ else if r'.c≤r.c then σ else σ.doo
def qX(σ:Dv)(r r':Rg):Rg:=if σ.down=true then r else if r'.c≤r.c then r else if σ.dooE=0 then r' else r
def sS(σ:Dv)(r r':Rg):Int:=if σ.down=true then 8 else if r'.c≤r.c then 3 else σ.dooE
theorem aKU(tp p:Nat)(r r':Rg)(h:r.Ok)(h':r'.Ok){σ:Dv}{H:Hp}(hD:fS p σ H):Tri prog 123 [.pointer (some ⟨tp,0,none⟩),.agg (rgc r').toArray] ((tp,cl (trc p r) 201)::H) (fun _=>True)
  (fun v H'=>v=.int .i64 (sS σ r r')∧∃ H2,H'=(tp,cl (trc p (qX σ r r')) 201)::H2∧fS p (sQ σ r r') H2):=by
 obtain⟨f1,f2,f3,f4,f5,f6⟩:=aBz p h
 have hl':=pZ h'
 have hr':((rgc r').drop 0).take 33=rgc r':=by rw [bY,aJ oQ]
 have fp:=aMC p h h'
 have hdn:=aL3 hD
 have hdo:=aPi hD
 have b1:0+0+33≤(trc p r).length:=oQ
 refine Tri.mk func123 rfl ntmps123 rfl fun w hw=>?_
 refine W.o fun b_=>?_
 refine dR H rfl rfl rfl rfl rfl rfl hdn (fun _ _=>trivial) ?_
 rintro _ Hx ⟨rfl,rfl⟩
 cases hd:σ.down
 ·repeat' (first|(refine vA ?_;refine aBD rfl rfl ?_)|(refine aDp ?_;refine bN (fE rfl rfl) rfl rfl ?_)|(refine aBC ?_;refine bN (sE rfl rfl) rfl rfl ?_)|(refine aEV ?_;refine bN (sI rfl rfl) rfl rfl ?_)|(refine aDm ?_;refine bN (gO rfl rfl rfl) rfl rfl ?_)|(refine aDn ?_;(first|refine bN (jK rfl rfl rfl) rfl rfl ?_|refine bN (jK rfl rfl (by assumption)) rfl rfl ?_|refine bN (mR rfl rfl rfl rfl) rfl rfl ?_|refine bN (mR rfl rfl (by assumption) (by assumption)) rfl rfl ?_))|(refine aCd ?_;(first|refine bN (qQ rfl rfl) rfl rfl ?_|refine bN (uL rfl rfl) rfl rfl ?_|refine bN (uK rfl rfl) rfl rfl ?_|refine bN (qN rfl rfl) rfl rfl ?_|refine bN (aFA rfl rfl rfl rfl) rfl rfl ?_|refine bN (aFB rfl rfl rfl rfl) rfl rfl ?_))|(refine aDq ?_;(first|refine bN (xC rfl rfl rfl) rfl rfl ?_|refine bN (xB rfl rfl rfl) rfl rfl ?_))|(refine aDo ?_;refine bN (sH rfl rfl rfl) rfl rfl ?_)|(refine aHc ?_;refine bN (aFC rfl rfl) rfl rfl ?_)|(refine aCc ?_;(first|refine bN (pW rfl rfl (by rfl)) rfl rfl ?_|refine bN (oF rfl rfl (by rfl)) rfl rfl ?_))|(refine aEU ?_;(first|refine bN (tD rfl rfl rfl) rfl rfl ?_|refine bN (tD rfl rfl (by assumption)) rfl rfl ?_|refine bN (uJ rfl rfl rfl) rfl rfl ?_))|(refine aEH ?_;refine bN (uH rfl rfl rfl (w64 oQ)) rfl rfl ?_)|(refine aER ?_;refine bN (aDE rfl rfl rfl (w64 oQ)) rfl rfl ?_)|(refine aEN ?_;refine bN (kK rfl rfl rfl (w64 oQ)) rfl rfl ?_)|(refine aEP ?_;refine bN (aCD rfl rfl rfl dQ (w64 oQ)) rfl rfl ?_)|(refine aEQ ?_;refine bN (aCE rfl rfl rfl dQ rfl) rfl rfl ?_)|(refine aEM ?_;(first|refine bN (Pu.t (qS rfl rfl rfl) oQ) rfl rfl ?_|refine bN (Pu.f (qS rfl rfl rfl) oQ) rfl rfl ?_|refine eD (qS rfl rfl rfl) rfl rfl (fun h_=>?_) (fun h_=>?_)))|(refine aEL ?_;(first|refine bN (Pu.t (qR rfl rfl rfl) oQ) rfl rfl ?_|refine bN (Pu.f (qR rfl rfl rfl) oQ) rfl rfl ?_|refine eD (qR rfl rfl rfl) rfl rfl (fun h_=>?_) (fun h_=>?_)))|(refine aEK ?_;(first|refine bN (Pu.t (qP rfl rfl rfl) oQ) rfl rfl ?_|refine bN (Pu.f (qP rfl rfl rfl) oQ) rfl rfl ?_|refine eD (qP rfl rfl rfl) rfl rfl (fun h_=>?_) (fun h_=>?_)))|(refine aEJ ?_;(first|refine bN (Pu.t (qO rfl rfl rfl) oQ) rfl rfl ?_|refine bN (Pu.f (qO rfl rfl rfl) oQ) rfl rfl ?_|refine eD (qO rfl rfl rfl) rfl rfl (fun h_=>?_) (fun h_=>?_)))|(refine aEI ?_;(first|refine bN (aAz rfl rfl rfl) rfl rfl ?_|refine bN (uI rfl rfl rfl) rfl rfl ?_|refine bN (Pu.t (nJ rfl rfl rfl) oQ) rfl rfl ?_|refine bN (Pu.f (nJ rfl rfl rfl) oQ) rfl rfl ?_|refine eD (nJ rfl rfl rfl) rfl rfl (fun h_=>?_) (fun h_=>?_)))|(refine aEO ?_;(first|refine bN (aAA rfl rfl rfl) rfl rfl ?_|refine bN (uN rfl rfl rfl) rfl rfl ?_|refine bN (Pu.t (qT rfl rfl rfl) oQ) rfl rfl ?_|refine bN (Pu.f (qT rfl rfl rfl) oQ) rfl rfl ?_|refine eD (qT rfl rfl rfl) rfl rfl (fun h_=>?_) (fun h_=>?_)))|(refine aET ?_;(first|refine aGb rfl rfl rfl rfl (fun b_=>?_)|refine aCa rfl rfl rfl rfl (fun b_=>?_)))|(refine aCb ?_;refine SL.alloc rfl rfl rfl (fun b_=>?_))|(refine aCe ?_;(first|refine SL.store rfl rfl rfl rfl rfl (by first|assumption|exact fN rfl) ?_|refine zB rfl rfl rfl rfl rfl (by first|assumption|rfl) (by rfl) ?_|refine vB rfl rfl rfl rfl rfl (by first|rfl|assumption) (by first|assumption|exact fN rfl) (by first|assumption|rfl) ?_))|refine jH ?_|refine pH ?_|refine mW ?_|refine SW.block ?_|refine aA4 rfl ?_|refine aA3 rfl ?_|refine aGi ?_|refine SW.skip ?_|refine aDW ?_|refine kF rfl (fun h_=>?_) (fun h_=>?_)|refine aGg aPp kQ ?_|(refine SQ.isGd ?_;refine SQ.sk rfl rfl ?_)|(refine aIb ?_;refine gQ (fE rfl rfl) rfl rfl ?_)|(refine aEW ?_;refine gQ (sE rfl rfl) rfl rfl ?_)|(refine aJp ?_;refine gQ (sI rfl rfl) rfl rfl ?_)|(refine aH9 ?_;refine gQ (gO rfl rfl rfl) rfl rfl ?_)|(refine aIa ?_;(first|refine gQ (jK rfl rfl rfl) rfl rfl ?_|refine gQ (jK rfl rfl (by assumption)) rfl rfl ?_|refine gQ (mR rfl rfl rfl rfl) rfl rfl ?_|refine gQ (mR rfl rfl (by assumption) (by assumption)) rfl rfl ?_))|(refine SQ.isCallB ?_;(first|refine gQ (qQ rfl rfl) rfl rfl ?_|refine gQ (uL rfl rfl) rfl rfl ?_|refine gQ (uK rfl rfl) rfl rfl ?_|refine gQ (qN rfl rfl) rfl rfl ?_|refine gQ (aFA rfl rfl rfl rfl) rfl rfl ?_|refine gQ (aFB rfl rfl rfl rfl) rfl rfl ?_))|(refine SQ.isPick ?_;(first|refine gQ (xC rfl rfl rfl) rfl rfl ?_|refine gQ (xB rfl rfl rfl) rfl rfl ?_))|(refine SQ.isMkFn ?_;refine gQ (sH rfl rfl rfl) rfl rfl ?_)|(refine SQ.isUn ?_;refine gQ (aFC rfl rfl) rfl rfl ?_)|(refine SQ.isBuild ?_;(first|refine gQ (pW rfl rfl (by rfl)) rfl rfl ?_|refine gQ (oF rfl rfl (by rfl)) rfl rfl ?_))|(refine SQ.isFld ?_;(first|refine gQ (tD rfl rfl rfl) rfl rfl ?_|refine gQ (tD rfl rfl (by assumption)) rfl rfl ?_|refine gQ (uJ rfl rfl rfl) rfl rfl ?_))|(refine SQ.b_add ?_;refine gQ (uH rfl rfl rfl (w64 oQ)) rfl rfl ?_)|(refine SQ.b_sub ?_;refine gQ (aDE rfl rfl rfl (w64 oQ)) rfl rfl ?_)|(refine SQ.b_mul ?_;refine gQ (kK rfl rfl rfl (w64 oQ)) rfl rfl ?_)|(refine SQ.b_quo ?_;refine gQ (aCD rfl rfl rfl dQ (w64 oQ)) rfl rfl ?_)|(refine SQ.b_rem ?_;refine gQ (aCE rfl rfl rfl dQ rfl) rfl rfl ?_)|(refine SQ.b_lss ?_;(first|refine gQ (Pu.t (qS rfl rfl rfl) oQ) rfl rfl ?_|refine gQ (Pu.f (qS rfl rfl rfl) oQ) rfl rfl ?_|refine aA2 (qS rfl rfl rfl) rfl rfl (fun h_=>?_) (fun h_=>?_)))|(refine aJo ?_;(first|refine gQ (Pu.t (qR rfl rfl rfl) oQ) rfl rfl ?_|refine gQ (Pu.f (qR rfl rfl rfl) oQ) rfl rfl ?_|refine aA2 (qR rfl rfl rfl) rfl rfl (fun h_=>?_) (fun h_=>?_)))|(refine SQ.b_gtr ?_;(first|refine gQ (Pu.t (qP rfl rfl rfl) oQ) rfl rfl ?_|refine gQ (Pu.f (qP rfl rfl rfl) oQ) rfl rfl ?_|refine aA2 (qP rfl rfl rfl) rfl rfl (fun h_=>?_) (fun h_=>?_)))|(refine SQ.b_geq ?_;(first|refine gQ (Pu.t (qO rfl rfl rfl) oQ) rfl rfl ?_|refine gQ (Pu.f (qO rfl rfl rfl) oQ) rfl rfl ?_|refine aA2 (qO rfl rfl rfl) rfl rfl (fun h_=>?_) (fun h_=>?_)))|(refine SQ.b_eql ?_;(first|refine gQ (aAz rfl rfl rfl) rfl rfl ?_|refine gQ (uI rfl rfl rfl) rfl rfl ?_|refine gQ (Pu.t (nJ rfl rfl rfl) oQ) rfl rfl ?_|refine gQ (Pu.f (nJ rfl rfl rfl) oQ) rfl rfl ?_|refine aA2 (nJ rfl rfl rfl) rfl rfl (fun h_=>?_) (fun h_=>?_)))|(refine SQ.b_neq ?_;(first|refine gQ (aAA rfl rfl rfl) rfl rfl ?_|refine gQ (uN rfl rfl rfl) rfl rfl ?_|refine gQ (Pu.t (qT rfl rfl rfl) oQ) rfl rfl ?_|refine gQ (Pu.f (qT rfl rfl rfl) oQ) rfl rfl ?_|refine aA2 (qT rfl rfl rfl) rfl rfl (fun h_=>?_) (fun h_=>?_)))|refine aNn ?_)
  ·exact Fin.rm b_ (Fin.perm cK (Fin.s1 (.inl rfl) rfl rfl ⟨by simp [sS,hd,h_],Hx,by simp [qX,hd,h_],by simpa [sQ,hd,h_] using hD⟩))
  ·refine W.o ?_
   refine dR Hx rfl rfl rfl rfl rfl rfl hdo (fun _ _=>trivial) ?_
   rintro _ H2 ⟨rfl,hD2⟩
   have hD3:fS p (sQ σ r r') H2:=by simpa [sQ,hd,h_] using hD2
   by_cases he:σ.dooE=0
   ·refine W.o ?_
    refine Fin.rm b_ (Fin.perm cK (Fin.s1 (.inl rfl) rfl rfl ⟨by simp [sS,hd,h_,he],H2,by simp [qX,hd,h_,he],hD3⟩))
   ·refine W.o ?_
    refine Fin.rm b_ (Fin.perm cK (Fin.s1 (.inl rfl) rfl rfl ⟨by simp [sS,hd,h_],H2,by simp [qX,hd,h_,he],hD3⟩))
 ·refine W.o ?_
  exact Fin.rm b_ (Fin.perm cK (Fin.s1 (.inl rfl) rfl rfl ⟨by simp [sS,hd],Hx,by simp [qX,hd],by simpa [sQ,hd] using hD⟩))
end
section
attribute [local irreducible] SW SL SQ SH SA SS Pu Fin
def rtc(e:Nat)(r:Rg):List Value:=rgc r++[.pointer (some ⟨e,0,none⟩)]
theorem aIZ(e:Nat){r:Rg}(h:r.Ok):((rtc e r).drop 0).take 33=rgc r∧(rgc r).length=33∧(rtc e r)[33]?=some (.pointer (some ⟨e,0,none⟩))∧(rtc e r)[0]?=some (.int .u64 r.c)∧(rtc e r).length=34∧((rtc e r).drop 1).take 32=r.root.map bv:=by
 have hl:=pZ h
 refine⟨?_,hl,?_,rfl,by simp [rtc,hl],?_⟩
 ·rw [rtc,bY,dI hl]
 ·rw [rtc,bB oQ,hl];rfl
 ·show ((r.root.map bv++_).take 32)=_
  rw [dI (by simpa using h.len)]
theorem aMy(e:Nat){r r':Rg}(h:r.Ok)(h':r'.Ok):(rtc e r).take 0++rgc r'++(rtc e r).drop (0+33)=rtc e r':=by
 rw [rtc,cU,List.nil_append,fQ (by rw [pZ h])];rfl
theorem aKI(tp p:Nat)(r r':Rg)(h:r.Ok)(h':r'.Ok){σ:Dv}{H:Hp}(hD:lS p σ H):Tri prog 194 [.pointer (some ⟨tp,0,none⟩),.agg (rgc r').toArray] ((tp,cl (rtc p r) 120)::H) (fun _=>True)
  (fun v H'=>v=.int .i64 (sS σ r r')∧∃ H2,H'=(tp,cl (rtc p (qX σ r r')) 120)::H2∧lS p (sQ σ r r') H2):=by
 obtain⟨f1,f2,f3,f4,f5,f6⟩:=aIZ p h
 have hl':=pZ h'
 have hr':((rgc r').drop 0).take 33=rgc r':=by rw [bY,aJ oQ]
 have fp:=aMy p h h'
 have hdo:=aOs hD
 have hD2:=hD
 have b1:0+33≤(rtc p r).length:=oQ
 obtain⟨hO,bl,bn,bp,bm,vp,va,Hq,Ha,h1,h2,rfl⟩:=hD2
 refine Tri.mk func194 rfl ntmps194 rfl fun w hw=>?_
 refine W.k fun b_=>?_
 cases hd:σ.down
 ·rw [hd] at hdo
  refine W.k ?_
  (refine SW.l [] [0,1,2,3,4,5,6] ?_;(first|refine dN 7 rfl (Pu.t (lE rfl rfl rfl rfl) (by dsimp only [oJ];first|done|omega)) ?_|refine dN 7 rfl (Pu.f (lE rfl rfl rfl rfl) (by dsimp only [oJ];first|done|omega)) ?_|refine dN 7 rfl (lE rfl rfl rfl rfl) ?_|refine dN 7 rfl (aKk rfl rfl rfl) ?_);refine SS.dn ?_)
  repeat' (first|(refine W.go ?_;try intro b_)  | (refine W.cs (fun h_=>?_) (fun h_=>?_) <;> dsimp only [oJ] at h_)|(refine aDr rfl (fun h_=>?_) (fun h_=>?_) <;> (try dsimp only [oJ] at h_))|refine kF rfl (fun h_=>?_) (fun h_=>?_))
  ·refine Fin.rm b_ ?_
   refine F.f1 ?_
   exact⟨by simp [sS,hd,h_],_,by simp [qX,hd,h_];rfl,by simpa [sQ,hd,h_] using hD⟩
  ·refine aG hdo ?_
   rintro _ H2 ⟨rfl,hD2⟩
   have hD3:lS p (sQ σ r r') H2:=by simpa [sQ,hd,h_] using hD2
   by_cases he:σ.dooE=0
   ·refine W.k ?_
    refine Fin.rm b_ ?_;rw [fp];refine Fin.perm cK ?_;refine F.f1 ?_;exact⟨by simp [sS,hd,h_,he],H2,by simp [qX,hd,h_,he],hD3⟩
   ·refine W.k ?_
    refine Fin.rm b_ ?_;refine Fin.perm cK ?_;refine F.f1 ?_;exact⟨by simp [sS,hd,h_],H2,by simp [qX,hd,h_,he],hD3⟩
 ·rw [hd] at hdo
  refine W.k ?_
  refine Fin.rm b_ ?_;refine F.f1 ?_;exact⟨by simp [sS,hd],_,by simp [qX,hd];rfl,by simpa [sQ,hd] using hD⟩
end
end Go.Proofs.YtnhnpjokpelkbaaGreat
