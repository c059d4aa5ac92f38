/- The document's own device: its model. The document's own device: the power goes. The document's own device: the power goes (the walk). The document's own device: an act, Do. The document's own device: Do, Arm. The document's own device: New. -/
import Derived.Test.YtmceanmblcadcaaGreatPn16
import Derived.Test.YtmceanmblcadcaaGreatPn1
import Derived.Test.YtmceanmblcadcaaGreatPn13
import Derived.Test.YtmceanmblcadcaaGreatPn14
import Derived.Test.YtmceanmblcadcaaGreatPn15
import Derived.Test.YtmceanmblcadcaaGreatPn10
import Derived.Test.YtmceanmblcadcaaGreatPn2
set_option linter.unusedVariables false
set_option linter.unusedSimpArgs false
set_option linter.unusedSectionVars false
set_option maxHeartbeats 1600000
namespace Go.Proofs.YtmceanmblcadcaaGreat
open Go Go.Proofs.Tryz
section
attribute [local irreducible] SW SL SQ SH SA Pu Fin
def rl(ws:List Wd):List Value:=ws.flatMap fun w=>w.lasts.map bv
def rn(ws:List Wd):List Value:=ws.flatMap fun w=>w.now.map bv
def rp(ws:List Wd):List Value:=ws.map fun w=>.bool w.pend
def rm(ws:List Wd):List Value:=ws.map fun w=>.bool w.mark
theorem aDB{ws:List Wd}(h:∀ w∈ws,w.Ok):(rn ws).length=8*ws.length:=by
 rw [rn,pR _ 8 _ (fun w hw=>by simpa using (h w hw).1.2)];omega
theorem aDz{ws:List Wd}(h:∀ w∈ws,w.Ok):(rl ws).length=8*ws.length:=by
 rw [rl,pR _ 8 _ (fun w hw=>by simpa using (h w hw).1.1)];omega
def jY(p:Nat)(σ:Dv)(H:Hp):Prop:=
 σ.Ok∧∃ bl bn bp bm vp va Hq Ha,Sl 5 1 vp (σ.picks.map bv) Hq∧Sl 393 3 va (σ.acts.flatMap ac) Ha ∧
  H=(p,cl [.slice (some ⟨bl,0,none⟩) σ.len σ.len,.slice (some ⟨bn,0,none⟩) σ.len σ.len,.slice (some ⟨bp,0,none⟩) σ.ws.length σ.ws.length,.slice (some ⟨bm,0,none⟩) σ.ws.length σ.ws.length,.bool σ.down,.int .i64 σ.fuse,vp,va] 213) ::
   (bl,cl (rl σ.ws) 5)::(bn,cl (rn σ.ws) 5)::(bp,cl (rp σ.ws) 4)::(bm,cl (rm σ.ws) 4)::(Hq++Ha)
theorem tH{p:Nat}{σ:Dv}{H:Hp}(hD:jY p σ H)(x n:Int):Tri prog 222 [.pointer (some ⟨p,0,none⟩),.int .i64 x,.int .i64 n] H (fun _=>True) (fun v H'=>v=.int .i64 (σ.rdy x n)∧H'=H):=by
 obtain⟨hO,bl,bn,bp,bm,vp,va,Hq,Ha,h1,h2,rfl⟩:=hD
 have hof:One vp:=h1.one
 have hoa:One va:=h2.one
 have hn:σ.len≤65536:=by have:=hO.n;simp only [Dv.len];omega
 refine Tri.mk func222 rfl ntmps222 rfl fun w hw=>?_
 repeat' (first|(refine W.ow ?_;try intro b_)  | refine dP (nY rfl rfl rfl) rfl rfl (fun h_=>?_) (fun h_=>?_)|refine dP (nX rfl rfl rfl) rfl rfl (fun h_=>?_) (fun h_=>?_)|refine dP (nW rfl rfl rfl) rfl rfl (fun h_=>?_) (fun h_=>?_)|refine dP (nV rfl rfl rfl) rfl rfl (fun h_=>?_) (fun h_=>?_)|refine dP (lX rfl rfl rfl) rfl rfl (fun h_=>?_) (fun h_=>?_)|refine dP (nZ rfl rfl rfl) rfl rfl (fun h_=>?_) (fun h_=>?_)|refine jL rfl (fun h_=>?_) (fun h_=>?_))
 all_goals (refine Fin.r1 (.inl rfl) rfl rfl _ ⟨?_,rfl⟩;unfold Dv.rdy;congr 1)
 all_goals (repeat' split)
 all_goals first|rfl|(exfalso;simp_all;done)|(exfalso;omega)
end
section
variable {P:Program}{C:Ctx}{ρ:Fr}{H H':Hp}{o:Oper}
theorem lB{t e n len cap l h b j m c:Nat}{x y y2:Operand}{k k2:IntKind}{i i2:Int}(ho:o.op=.slice t x (some y) (some y2) none)(hx:ev ρ x=some (.slice (some ⟨b,j,none⟩) len cap)) [ht:bR P t e n]
  (hy:ev ρ y=some (.int k i)) (hy2:ev ρ y2=some (.int k2 i2)) (hl:i=(l:Int)) (hh:i2=(h:Int)) (hlt:l<cap) (h2:h≤cap) (hm:l+m=h) {j':Nat} (hj:j+l*n=j') (hc:l+c=cap):Pu P C ρ H o (.slice (some ⟨b,j',none⟩) m c):=by
 have:=mK (P:=P) (C:=C) (H:=H) (vl:=none) (vh:=none) ho hx (ht:=ht) (l:=l) (h:=h) (.inr ⟨y,k,i,rfl,hy,hl⟩) (.inr ⟨y2,k2,i2,rfl,hy2,hh⟩) oQ h2
 have e1:jX (some ⟨b,j,none⟩) cap l n=some ⟨b,j',none⟩:=by
  unfold jX
  rw [if_neg oQ]
  simp only [Option.map_some,dA]
  subst hj
  unfold Addr.add
  split
  ·rename_i h0;rw [h0];rfl
  ·rfl
 have e2:h-l=m:=oQ
 have e3:cap-l=c:=oQ
 rw [e1,e2,e3] at this
 exact this
end
section
attribute [local irreducible] SW SL SQ SH SA Pu Fin
theorem wO{A B x y:List Value}{m:Nat}(hA:A.length=m)(hx:x.length=8)(hy:y.length=8):(A++(x++B)).take m++y++(A++(x++B)).drop (m+y.length)=A++(y++B):=by
 subst hA
 rw [dG rfl,← cG,iC rfl,iC oQ,bF]
theorem aGM{A B x:List Value}{m:Nat}(hA:A.length=m)(hx:x.length=8):((A++(x++B)).drop m).take (8*1)=x:=by
 subst hA
 rw [iC rfl,dG oQ]
theorem aAr(d t:List Wd)(u:Wd):rl (d++u::t)=rl d++(u.lasts.map bv++rl t):=by simp [rl]
theorem aAt(d t:List Wd)(u:Wd):rn (d++u::t)=rn d++(u.now.map bv++rn t):=by simp [rn]
theorem aAu(d t:List Wd)(u:Wd):rp (d++u::t)=rp d++(.bool u.pend::rp t):=by simp [rp]
theorem aAs(d t:List Wd)(u:Wd):rm (d++u::t)=rm d++(.bool u.mark::rm t):=by simp [rm]
theorem rL(d:List Wd):(rp d).length=d.length:=by simp [rp]
theorem tD(d:List Wd):(rm d).length=d.length:=by simp [rm]
theorem tK{A B:List Value}{m:Nat}{x y:Value}(hA:A.length=m):(A++(x::B)).set m y=A++(y::B):=by
 subst hA;simp
theorem aDU(b:UInt8):((b.toNat:Int).tmod 2=1)↔((b &&& 1) == 1)=true:=by
 have h1:((b &&& 1) == 1)=true↔b.toNat%2=1:=by
  rw [beq_iff_eq,← iY,UInt8.toNat_and,UInt8.toNat_one,oP]
 rw [h1]
 have:((b.toNat:Int)).tmod 2=((b.toNat%2:Nat):Int):=by rw [sJ];rfl
 rw [this];omega
def aAq(bl bn bp bm n:Nat)(d:Bool)(f:Int)(vp va:Value):Obj:=
 cl [.slice (some ⟨bl,0,none⟩) (8*n) (8*n),.slice (some ⟨bn,0,none⟩) (8*n) (8*n),.slice (some ⟨bp,0,none⟩) n n,.slice (some ⟨bm,0,none⟩) n n,.bool d,.int .i64 f,vp,va] 213
theorem aCN{p bl bn bp bm:Nat}{σ:Dv}(hO:σ.Ok)(vp va q:Value)(qs:List UInt8) :
  Tri prog 267 [.pointer (some ⟨p,0,none⟩),q]
   [(p,aAq bl bn bp bm σ.ws.length σ.down σ.fuse vp va),(bl,cl (rl σ.ws) 5),(bn,cl (rn σ.ws) 5),(bp,cl (rp σ.ws) 4),(bm,cl (rm σ.ws) 4)] (fun w=>Rd [p,bl,bn,bp,bm] w 1 q (qs.map bv))
   (fun v H'=>v=.tuple #[]∧H'=[(p,aAq bl bn bp bm (σ.crash qs).ws.length (σ.crash qs).down (σ.crash qs).fuse vp va),(bl,cl (rl (σ.crash qs).ws) 5),(bn,cl (rn (σ.crash qs).ws) 5),(bp,cl (rp (σ.crash qs).ws) 4),(bm,cl (rm (σ.crash qs).ws) 4)]):=by
 unfold aAq
 obtain⟨ws,dn,fu,pk,ak⟩:=σ
 have hn:=hO.n
 have hok:=hO.ok
 simp only at hn hok
 refine Tri.mk func267 rfl ntmps267 rfl fun w hw=>?_
 obtain⟨a,len,cap,rfl,hlen,hcap,hrd⟩:=hw
 rw [aJ,Nat.mul_one] at hlen
 cases dn
 ·dsimp only
  refine W.o ?_
  refine vT (fun x:List Wd×List Wd×Nat=>[(0,.pointer (some ⟨p,0,none⟩)),(1,.slice a len cap),(4,.int .i64 x.2.2),(14,.int .i64 ws.length),(15,.int .i64 x.1.length)])
   (fun x=>[(p,aAq bl bn bp bm ws.length false fu vp va),(bl,cl (rl (x.1++x.2.1)) 5),(bn,cl (rn (x.1++x.2.1)) 5),(bp,cl (rp (x.1++x.2.1)) 4),(bm,cl (rm (x.1++x.2.1)) 4)])
   (fun x=>x.2.1.length) (fun x=>iW qs 0 ws=x.1++iW qs x.2.2 x.2.1∧x.1.length+x.2.1.length=ws.length∧x.2.2≤x.1.length∧(∀ w∈x.1++x.2.1,w.Ok))
   ([],ws,0) ⟨rfl,rfl,rfl,rfl,rfl,trivial⟩ (by dsimp only [List.nil_append,aAq];infer_instance) ⟨rfl,by simp,Nat.le_refl _,hok⟩ ?_
  rintro⟨done,todo,j⟩ ⟨hc,hl,hj,hk⟩
  dsimp only [aAq] at hc hl hj hk ⊢
  cases todo with
  | nil=>
   have hl2:done.length=ws.length:=by simpa using hl
   refine W.o ?_
   refine Fin.s0 (.inr rfl) rfl ⟨rfl,?_⟩
   simp [Dv.crash,hc,iW,hl2]
  | cons u t=>
   have hl2:done.length+(t.length+1)=ws.length:=by simpa using hl
   have hu:u.Ok:=hk u (by simp)
   rw [aAr,aAt,aAu,aAs]
   have hpg:(rp done++(.bool u.pend::rp t))[done.length]?=some (.bool u.pend):=by
    rw [aO (by rw [rL];exact Nat.le_refl _),rL];simp
   refine W.o ?_
   refine bD (fO rfl rfl rfl oQ oQ (j':=done.length) oQ) rfl rfl ?_
   refine W.o ?_
   have hlp:done.length<(rp done++(Value.bool u.pend::rp t)).length:=by rw [aB,rL];simp
   have hlm:done.length<(rm done++(Value.bool u.mark::rm t)).length:=by rw [aB,tD];simp
   have hdk:∀ w∈done,w.Ok:=fun w hw=>hk w (by simp [hw])
   have hA:=aDz hdk
   have hB:=aDB hdk
   obtain⟨la,no,pe,ma⟩:=u
   dsimp only at hpg hlp hlm
   cases pe
   ·have hma:ma=false:=by
     cases ma with
     | false=>rfl
     | true=>exact absurd (hu.2 rfl) (by simp)
    subst hma
    refine W.o ?_
    refine bD (fO rfl rfl rfl oQ oQ (j':=done.length) oQ) rfl rfl ?_
    refine W.o ?_
    refine bD (fO rfl rfl rfl oQ oQ (j':=done.length) oQ) rfl rfl ?_
    refine W.o ?_
    rw [tK (rL done),tK (tD done)]
    refine pH.eq (done++[⟨la,no,false,false⟩],t,j) (by simp) ⟨rfl,rfl,rfl,rfl,?_,trivial⟩ ?_ ⟨?_,?_,?_,?_⟩
    ·simp [lk,pt]
    ·simp [aAr,aAt,aAu,aAs,aAq]
    ·rw [hc];simp [iW]
    ·simp;omega
    ·simp;omega
    ·simpa using hk
   ·have h8n:(no.map bv).length=8:=by simpa using hu.1.2
    have h8l:(la.map bv).length=8:=by simpa using hu.1.1
    rcases jU len with h0|h0
    ·subst h0
     have hq:qs=[]:=cE hlen
     have hbt:uW qs j=false:=by subst hq;simp [uW]
     have hLL:=hu.1.1
     refine W.o ?_
     refine kS [p] 99 kQ ?_
     (refine SA.take 0 rfl kQ (fun _ _ _ h=>Fin.np h) rfl rfl (dW rfl rfl) ?_;refine SA.take 1 rfl kQ (fun _ _ _ h=>Fin.np h) rfl rfl (oA rfl rfl) ?_;refine SA.take 2 rfl kQ (fun _ _ _ h=>Fin.np h) rfl rfl (fA rfl rfl rfl) ?_;refine SA.take 3 rfl kQ (fun _ _ _ h=>Fin.np h) rfl rfl (gZ rfl rfl rfl) ?_;refine SA.take 4 rfl kQ (fun _ _ _ h=>Fin.np h) rfl rfl (dW rfl rfl) ?_;refine SA.take 5 rfl kQ (fun _ _ _ h=>Fin.np h) rfl rfl (iU rfl rfl rfl (w64 oQ)) ?_;refine SA.take 6 rfl kQ (fun _ _ _ h=>Fin.np h) rfl rfl (dW rfl rfl) ?_;refine SA.take 7 rfl kQ (fun _ _ _ h=>Fin.np h) rfl rfl (iU rfl rfl rfl (w64 oQ)) ?_;refine SA.take 8 rfl kQ (fun _ _ _ h=>Fin.np h) rfl rfl (pM rfl rfl rfl (w64 oQ)) ?_)
     refine SA.take 9 rfl kQ (fun _ _ _ h=>Fin.np h) rfl rfl (lB (l:=8*done.length) (m:=8) (h:=8*done.length+8) (j':=8*done.length) (c:=8*ws.length-8*done.length) rfl rfl rfl rfl oQ oQ oQ oQ oQ oQ oQ) ?_
     (refine SA.take 10 rfl kQ (fun _ _ _ h=>Fin.np h) rfl rfl (dW rfl rfl) ?_;refine SA.take 11 rfl kQ (fun _ _ _ h=>Fin.np h) rfl rfl (oA rfl rfl) ?_;refine SA.take 12 rfl kQ (fun _ _ _ h=>Fin.np h) rfl rfl (fA rfl rfl rfl) ?_;refine SA.take 13 rfl kQ (fun _ _ _ h=>Fin.np h) rfl rfl (gZ rfl rfl rfl) ?_;refine SA.take 14 rfl kQ (fun _ _ _ h=>Fin.np h) rfl rfl (dW rfl rfl) ?_;refine SA.take 15 rfl kQ (fun _ _ _ h=>Fin.np h) rfl rfl (iU rfl rfl rfl (w64 oQ)) ?_;refine SA.take 16 rfl kQ (fun _ _ _ h=>Fin.np h) rfl rfl (dW rfl rfl) ?_;refine SA.take 17 rfl kQ (fun _ _ _ h=>Fin.np h) rfl rfl (iU rfl rfl rfl (w64 oQ)) ?_;refine SA.take 18 rfl kQ (fun _ _ _ h=>Fin.np h) rfl rfl (pM rfl rfl rfl (w64 oQ)) ?_)
     refine SA.take 19 rfl kQ (fun _ _ _ h=>Fin.np h) rfl rfl (lB (l:=8*done.length) (m:=8) (h:=8*done.length+8) (j':=8*done.length) (c:=8*ws.length-8*done.length) rfl rfl rfl rfl oQ oQ oQ oQ oQ oQ oQ) ?_
     refine SA.one 20 rfl kQ ?_
     refine vR (m:=8) (ys:=la.map bv) rfl rfl rfl rfl rfl (fun w2 hs=>(eJ.block (m:=8) (size:=1) (hs.at (b:=bl)) (aGM hA h8l) (by simpa using h8l)) w2 rfl) (by rw [aB,aB];omega) (wO hB h8n h8l) ?_
     refine gW ?_
     refine Beh.mk ?_
     refine tL kQ ?_
     refine W.o ?_
     refine bD (fO rfl rfl rfl oQ oQ (j':=done.length) oQ) rfl rfl ?_
     refine W.o ?_
     refine bD (fO rfl rfl rfl oQ oQ (j':=done.length) oQ) rfl rfl ?_
     refine W.o ?_
     rw [tK (rL done),tK (tD done)]
     refine pH.eq (done++[⟨la,la,false,false⟩],t,j+1) (by simp) ⟨rfl,rfl,rfl,rfl,?_,trivial⟩ ?_ ⟨?_,?_,?_,?_⟩
     ·simp [lk,pt]
     ·simp [aAr,aAt,aAu,aAs,aAq]
     ·rw [hc];simp only [iW,cond_true,Wd.crash];rw [hbt];simp
     ·simp;omega
     ·simp;omega
     ·have hk2:∀ w∈t,w.Ok:=fun w hw=>hk w (by simp [hw])
      intro w hw
      simp only [bQ,cB,dB,or_false] at hw
      rcases hw with (hw|rfl)|hw
      ·exact hdk w hw
      ·exact⟨⟨hLL,hLL⟩,by simp⟩
      ·exact hk2 w hw
    ·obtain⟨b,o,l,T,fz,rfl,hb,hbk,hrow⟩:=hrd.resolve_left oQ
     obtain⟨x,hx⟩:∃ x,qs[j%qs.length]?=some x:=⟨_,aA (Nat.mod_lt _ oQ)⟩
     have hlx:l[o+(j%len)*1]?=some (bv x):=by
      have:=congrArg (fun z=>z[j%len]?) hrow
      rw [bB,if_pos (by have:=Nat.mod_lt j h0;omega),bA,aL,← hlen,hx] at this
      rw [Nat.mul_one,← hlen];exact this
     refine W.o ?_
     refine bD (aAi rfl rfl rfl oQ (r:=((j%len:Nat):Int)) (by rw [sJ])) rfl rfl ?_
     refine bD (fO rfl rfl rfl oQ (by have:=Nat.mod_lt j h0;omega) (j':=o+(j%len)*1) (by rw [aX])) rfl rfl ?_
     refine bD (qQ rfl rfl hb hbk hlx) rfl rfl ?_
     refine bD (aAi rfl rfl rfl dQ rfl) rfl rfl ?_
     by_cases hbit:((x &&& 1) == 1)=true
     ·have hbt:uW qs j=true:=by simp only [uW,hx,hbit]
      have hLL:=hu.1.2
      refine bD (Pu.t (lX rfl rfl rfl) ((aDU x).2 hbit)) rfl rfl ?_
      refine W.o ?_
      refine kS [p] 99 kQ ?_
      (refine SA.take 0 rfl kQ (fun _ _ _ h=>Fin.np h) rfl rfl (dW rfl rfl) ?_;refine SA.take 1 rfl kQ (fun _ _ _ h=>Fin.np h) rfl rfl (oA rfl rfl) ?_;refine SA.take 2 rfl kQ (fun _ _ _ h=>Fin.np h) rfl rfl (fA rfl rfl rfl) ?_;refine SA.take 3 rfl kQ (fun _ _ _ h=>Fin.np h) rfl rfl (gZ rfl rfl rfl) ?_;refine SA.take 4 rfl kQ (fun _ _ _ h=>Fin.np h) rfl rfl (dW rfl rfl) ?_;refine SA.take 5 rfl kQ (fun _ _ _ h=>Fin.np h) rfl rfl (iU rfl rfl rfl (w64 oQ)) ?_;refine SA.take 6 rfl kQ (fun _ _ _ h=>Fin.np h) rfl rfl (dW rfl rfl) ?_;refine SA.take 7 rfl kQ (fun _ _ _ h=>Fin.np h) rfl rfl (iU rfl rfl rfl (w64 oQ)) ?_;refine SA.take 8 rfl kQ (fun _ _ _ h=>Fin.np h) rfl rfl (pM rfl rfl rfl (w64 oQ)) ?_)
      refine SA.take 9 rfl kQ (fun _ _ _ h=>Fin.np h) rfl rfl (lB (l:=8*done.length) (m:=8) (h:=8*done.length+8) (j':=8*done.length) (c:=8*ws.length-8*done.length) rfl rfl rfl rfl oQ oQ oQ oQ oQ oQ oQ) ?_
      (refine SA.take 10 rfl kQ (fun _ _ _ h=>Fin.np h) rfl rfl (dW rfl rfl) ?_;refine SA.take 11 rfl kQ (fun _ _ _ h=>Fin.np h) rfl rfl (oA rfl rfl) ?_;refine SA.take 12 rfl kQ (fun _ _ _ h=>Fin.np h) rfl rfl (fA rfl rfl rfl) ?_;refine SA.take 13 rfl kQ (fun _ _ _ h=>Fin.np h) rfl rfl (gZ rfl rfl rfl) ?_;refine SA.take 14 rfl kQ (fun _ _ _ h=>Fin.np h) rfl rfl (dW rfl rfl) ?_;refine SA.take 15 rfl kQ (fun _ _ _ h=>Fin.np h) rfl rfl (iU rfl rfl rfl (w64 oQ)) ?_;refine SA.take 16 rfl kQ (fun _ _ _ h=>Fin.np h) rfl rfl (dW rfl rfl) ?_;refine SA.take 17 rfl kQ (fun _ _ _ h=>Fin.np h) rfl rfl (iU rfl rfl rfl (w64 oQ)) ?_;refine SA.take 18 rfl kQ (fun _ _ _ h=>Fin.np h) rfl rfl (pM rfl rfl rfl (w64 oQ)) ?_)
      refine SA.take 19 rfl kQ (fun _ _ _ h=>Fin.np h) rfl rfl (lB (l:=8*done.length) (m:=8) (h:=8*done.length+8) (j':=8*done.length) (c:=8*ws.length-8*done.length) rfl rfl rfl rfl oQ oQ oQ oQ oQ oQ oQ) ?_
      refine SA.one 20 rfl kQ ?_
      refine vR (m:=8) (ys:=no.map bv) rfl rfl rfl rfl rfl (fun w2 hs=>(eJ.block (m:=8) (size:=1) (hs.at (b:=bn)) (aGM hB h8n) (by simpa using h8n)) w2 rfl) (by rw [aB,aB];omega) (wO hA h8l h8n) ?_
      refine gW ?_
      refine Beh.mk ?_
      refine tL kQ ?_
      refine W.o ?_
      refine kS [p] 99 kQ ?_
      (refine SA.take 0 rfl kQ (fun _ _ _ h=>Fin.np h) rfl rfl (dW rfl rfl) ?_;refine SA.take 1 rfl kQ (fun _ _ _ h=>Fin.np h) rfl rfl (oA rfl rfl) ?_;refine SA.take 2 rfl kQ (fun _ _ _ h=>Fin.np h) rfl rfl (fA rfl rfl rfl) ?_;refine SA.take 3 rfl kQ (fun _ _ _ h=>Fin.np h) rfl rfl (gZ rfl rfl rfl) ?_;refine SA.take 4 rfl kQ (fun _ _ _ h=>Fin.np h) rfl rfl (dW rfl rfl) ?_;refine SA.take 5 rfl kQ (fun _ _ _ h=>Fin.np h) rfl rfl (iU rfl rfl rfl (w64 oQ)) ?_;refine SA.take 6 rfl kQ (fun _ _ _ h=>Fin.np h) rfl rfl (dW rfl rfl) ?_;refine SA.take 7 rfl kQ (fun _ _ _ h=>Fin.np h) rfl rfl (iU rfl rfl rfl (w64 oQ)) ?_;refine SA.take 8 rfl kQ (fun _ _ _ h=>Fin.np h) rfl rfl (pM rfl rfl rfl (w64 oQ)) ?_)
      refine SA.take 9 rfl kQ (fun _ _ _ h=>Fin.np h) rfl rfl (lB (l:=8*done.length) (m:=8) (h:=8*done.length+8) (j':=8*done.length) (c:=8*ws.length-8*done.length) rfl rfl rfl rfl oQ oQ oQ oQ oQ oQ oQ) ?_
      (refine SA.take 10 rfl kQ (fun _ _ _ h=>Fin.np h) rfl rfl (dW rfl rfl) ?_;refine SA.take 11 rfl kQ (fun _ _ _ h=>Fin.np h) rfl rfl (oA rfl rfl) ?_;refine SA.take 12 rfl kQ (fun _ _ _ h=>Fin.np h) rfl rfl (fA rfl rfl rfl) ?_;refine SA.take 13 rfl kQ (fun _ _ _ h=>Fin.np h) rfl rfl (gZ rfl rfl rfl) ?_;refine SA.take 14 rfl kQ (fun _ _ _ h=>Fin.np h) rfl rfl (dW rfl rfl) ?_;refine SA.take 15 rfl kQ (fun _ _ _ h=>Fin.np h) rfl rfl (iU rfl rfl rfl (w64 oQ)) ?_;refine SA.take 16 rfl kQ (fun _ _ _ h=>Fin.np h) rfl rfl (dW rfl rfl) ?_;refine SA.take 17 rfl kQ (fun _ _ _ h=>Fin.np h) rfl rfl (iU rfl rfl rfl (w64 oQ)) ?_;refine SA.take 18 rfl kQ (fun _ _ _ h=>Fin.np h) rfl rfl (pM rfl rfl rfl (w64 oQ)) ?_)
      refine SA.take 19 rfl kQ (fun _ _ _ h=>Fin.np h) rfl rfl (lB (l:=8*done.length) (m:=8) (h:=8*done.length+8) (j':=8*done.length) (c:=8*ws.length-8*done.length) rfl rfl rfl rfl oQ oQ oQ oQ oQ oQ oQ) ?_
      refine SA.one 20 rfl kQ ?_
      refine vR (m:=8) (ys:=no.map bv) rfl rfl rfl rfl rfl (fun w2 hs=>(eJ.block (m:=8) (size:=1) (hs.at (b:=bl)) (aGM hA h8n) (by simpa using h8n)) w2 rfl) (by rw [aB,aB];omega) (wO hB h8n h8n) ?_
      refine gW ?_
      refine Beh.mk ?_
      refine tL kQ ?_
      refine W.o ?_
      refine bD (fO rfl rfl rfl oQ oQ (j':=done.length) oQ) rfl rfl ?_
      refine W.o ?_
      refine bD (fO rfl rfl rfl oQ oQ (j':=done.length) oQ) rfl rfl ?_
      refine W.o ?_
      rw [tK (rL done),tK (tD done)]
      refine pH.eq (done++[⟨no,no,false,false⟩],t,j+1) (by simp) ⟨rfl,rfl,rfl,rfl,?_,trivial⟩ ?_ ⟨?_,?_,?_,?_⟩
      ·simp [lk,pt]
      ·simp [aAr,aAt,aAu,aAs,aAq]
      ·rw [hc];simp only [iW,cond_true,Wd.crash];rw [hbt];simp
      ·simp;omega
      ·simp;omega
      ·have hk2:∀ w∈t,w.Ok:=fun w hw=>hk w (by simp [hw])
       intro w hw
       simp only [bQ,cB,dB,or_false] at hw
       rcases hw with (hw|rfl)|hw
       ·exact hdk w hw
       ·exact⟨⟨hLL,hLL⟩,by simp⟩
       ·exact hk2 w hw
     ·have hbt:uW qs j=false:=by simp only [Bool.not_eq_true] at hbit;simp only [uW,hx,hbit]
      have hLL:=hu.1.1
      refine bD (Pu.f (lX rfl rfl rfl) (fun h=>hbit ((aDU x).1 h))) rfl rfl ?_
      refine W.o ?_
      refine kS [p] 99 kQ ?_
      (refine SA.take 0 rfl kQ (fun _ _ _ h=>Fin.np h) rfl rfl (dW rfl rfl) ?_;refine SA.take 1 rfl kQ (fun _ _ _ h=>Fin.np h) rfl rfl (oA rfl rfl) ?_;refine SA.take 2 rfl kQ (fun _ _ _ h=>Fin.np h) rfl rfl (fA rfl rfl rfl) ?_;refine SA.take 3 rfl kQ (fun _ _ _ h=>Fin.np h) rfl rfl (gZ rfl rfl rfl) ?_;refine SA.take 4 rfl kQ (fun _ _ _ h=>Fin.np h) rfl rfl (dW rfl rfl) ?_;refine SA.take 5 rfl kQ (fun _ _ _ h=>Fin.np h) rfl rfl (iU rfl rfl rfl (w64 oQ)) ?_;refine SA.take 6 rfl kQ (fun _ _ _ h=>Fin.np h) rfl rfl (dW rfl rfl) ?_;refine SA.take 7 rfl kQ (fun _ _ _ h=>Fin.np h) rfl rfl (iU rfl rfl rfl (w64 oQ)) ?_;refine SA.take 8 rfl kQ (fun _ _ _ h=>Fin.np h) rfl rfl (pM rfl rfl rfl (w64 oQ)) ?_)
      refine SA.take 9 rfl kQ (fun _ _ _ h=>Fin.np h) rfl rfl (lB (l:=8*done.length) (m:=8) (h:=8*done.length+8) (j':=8*done.length) (c:=8*ws.length-8*done.length) rfl rfl rfl rfl oQ oQ oQ oQ oQ oQ oQ) ?_
      (refine SA.take 10 rfl kQ (fun _ _ _ h=>Fin.np h) rfl rfl (dW rfl rfl) ?_;refine SA.take 11 rfl kQ (fun _ _ _ h=>Fin.np h) rfl rfl (oA rfl rfl) ?_;refine SA.take 12 rfl kQ (fun _ _ _ h=>Fin.np h) rfl rfl (fA rfl rfl rfl) ?_;refine SA.take 13 rfl kQ (fun _ _ _ h=>Fin.np h) rfl rfl (gZ rfl rfl rfl) ?_;refine SA.take 14 rfl kQ (fun _ _ _ h=>Fin.np h) rfl rfl (dW rfl rfl) ?_;refine SA.take 15 rfl kQ (fun _ _ _ h=>Fin.np h) rfl rfl (iU rfl rfl rfl (w64 oQ)) ?_;refine SA.take 16 rfl kQ (fun _ _ _ h=>Fin.np h) rfl rfl (dW rfl rfl) ?_;refine SA.take 17 rfl kQ (fun _ _ _ h=>Fin.np h) rfl rfl (iU rfl rfl rfl (w64 oQ)) ?_;refine SA.take 18 rfl kQ (fun _ _ _ h=>Fin.np h) rfl rfl (pM rfl rfl rfl (w64 oQ)) ?_)
      refine SA.take 19 rfl kQ (fun _ _ _ h=>Fin.np h) rfl rfl (lB (l:=8*done.length) (m:=8) (h:=8*done.length+8) (j':=8*done.length) (c:=8*ws.length-8*done.length) rfl rfl rfl rfl oQ oQ oQ oQ oQ oQ oQ) ?_
      refine SA.one 20 rfl kQ ?_
      refine vR (m:=8) (ys:=la.map bv) rfl rfl rfl rfl rfl (fun w2 hs=>(eJ.block (m:=8) (size:=1) (hs.at (b:=bl)) (aGM hA h8l) (by simpa using h8l)) w2 rfl) (by rw [aB,aB];omega) (wO hB h8n h8l) ?_
      refine gW ?_
      refine Beh.mk ?_
      refine tL kQ ?_
      refine W.o ?_
      refine bD (fO rfl rfl rfl oQ oQ (j':=done.length) oQ) rfl rfl ?_
      refine W.o ?_
      refine bD (fO rfl rfl rfl oQ oQ (j':=done.length) oQ) rfl rfl ?_
      refine W.o ?_
      rw [tK (rL done),tK (tD done)]
      refine pH.eq (done++[⟨la,la,false,false⟩],t,j+1) (by simp) ⟨rfl,rfl,rfl,rfl,?_,trivial⟩ ?_ ⟨?_,?_,?_,?_⟩
      ·simp [lk,pt]
      ·simp [aAr,aAt,aAu,aAs,aAq]
      ·rw [hc];simp only [iW,cond_true,Wd.crash];rw [hbt];simp
      ·simp;omega
      ·simp;omega
      ·have hk2:∀ w∈t,w.Ok:=fun w hw=>hk w (by simp [hw])
       intro w hw
       simp only [bQ,cB,dB,or_false] at hw
       rcases hw with (hw|rfl)|hw
       ·exact hdk w hw
       ·exact⟨⟨hLL,hLL⟩,by simp⟩
       ·exact hk2 w hw
 ·dsimp only
  refine W.o ?_
  refine Fin.s0 (.inl rfl) rfl ⟨rfl,rfl⟩
theorem aBK{p:Nat}{σ:Dv}{H:Hp}(hD:jY p σ H)(hnd:σ.down=false)(k x n:Int):Tri prog 223 [.pointer (some ⟨p,0,none⟩),.int .i64 k,.int .i64 x,.int .i64 n] H (fun _=>True)
  (fun v H'=>v=.int .i64 σ.actE∧jY p (σ.act (k,x,n)) H'):=by
 obtain⟨hO,bl,bn,bp,bm,vp,va,Hq,Ha,h1,h2,rfl⟩:=hD
 have hf0:=hO.f0
 have hf1:=hO.f1
 have ha:=hO.a
 have hof:One vp:=h1.one
 obtain⟨aa,la,ca,rfl,hla⟩:=h2.form
 have hla2:la=σ.acts.length:=by rw [pR ac 3 _ (fun x _=>rfl)] at hla;omega
 subst hla2
 refine Tri.mk func223 rfl ntmps223 rfl fun w hw=>?_
 by_cases c1:σ.fuse=1
 ·have hc:=aCN (p:=p) (bl:=bl) (bn:=bn) (bp:=bp) (bm:=bm) hO vp (.slice aa σ.acts.length ca) vp σ.picks
  unfold aAq at hc
  refine W.o ?_
  refine aB9 [p,bl,bn,bp,bm] rfl rfl rfl rfl hc (fun w hs=>Rd.ownB [p,bl,bn,bp,bm] h1 hs) ?_
  rintro _ _ ⟨rfl,rfl⟩
  refine W.o ?_
  have he:σ.act (k,x,n)=σ.crash σ.picks:=by simp [Dv.act,c1,Dv.crash,hnd]
  rw [he]
  exact Fin.s1 (.inl rfl) rfl rfl ⟨by simp [Dv.actE,c1],Dv.crash_ok _ hO,bl,bn,bp,bm,vp,_,Hq,Ha,by unfold Dv.crash;rw [hnd];exact h1,by unfold Dv.crash;rw [hnd];exact h2,rfl⟩
 ·by_cases c0:1<σ.fuse
  ·refine W.o ?_
   by_cases c2:σ.acts.length<16384
   ·refine W.o ?_
    refine kB (n:=3) rfl rfl rfl rfl (by rfl) dQ (by rfl) dQ (fun b2=>?_)
    refine SL.append (n:=3) (m:=1) (ys:=ac (k,x,n)) Ha rfl rfl rfl rfl rfl h2 (fun w hs=>eJ.block (hs.at (b:=b2)) rfl rfl) rfl rfl dQ dQ ?_ (fun v2 Ha2 h3=>?_)
    ·rw [hla];simp [ac];omega
    have hov:One v2:=h3.one
    refine W.o ?_
    refine Fin.rm b2 ?_
    have hl2:(σ.acts++[(k,x,n)]).flatMap ac=σ.acts.flatMap ac++ac (k,x,n):=by simp
    rw [← hl2] at h3
    have c3:0<σ.fuse:=oQ
    have he:σ.act (k,x,n)=({ σ with fuse:=(σ.fuse-1),acts:=σ.acts++[(k,x,n)] }:Dv):=by simp [Dv.act,Dv.push,c1,c2,c3]
    rw [he]
    exact Fin.perm bT (Fin.s1 (.inl rfl) rfl rfl ⟨by simp [Dv.actE,c1],⟨hO.n,hO.ok,by dsimp only;omega,by dsimp only;omega,by simp;omega⟩,bl,bn,bp,bm,vp,v2,Hq,Ha2,h1,h3,by rw [aE];rfl⟩)
   ·refine W.o ?_
    have c3:0<σ.fuse:=oQ
    have he:σ.act (k,x,n)=({ σ with fuse:=(σ.fuse-1) }:Dv):=by simp [Dv.act,Dv.push,c1,c2,c3]
    rw [he]
    exact Fin.s1 (.inl rfl) rfl rfl ⟨by simp [Dv.actE,c1],Dv.fuse_ok _ hO oQ oQ,bl,bn,bp,bm,vp,_,Hq,Ha,h1,h2,rfl⟩
  ·refine W.o ?_
   by_cases c2:σ.acts.length<16384
   ·refine W.o ?_
    refine kB (n:=3) rfl rfl rfl rfl (by rfl) dQ (by rfl) dQ (fun b2=>?_)
    refine SL.append (n:=3) (m:=1) (ys:=ac (k,x,n)) Ha rfl rfl rfl rfl rfl h2 (fun w hs=>eJ.block (hs.at (b:=b2)) rfl rfl) rfl rfl dQ dQ ?_ (fun v2 Ha2 h3=>?_)
    ·rw [hla];simp [ac];omega
    have hov:One v2:=h3.one
    refine W.o ?_
    refine Fin.rm b2 ?_
    have hl2:(σ.acts++[(k,x,n)]).flatMap ac=σ.acts.flatMap ac++ac (k,x,n):=by simp
    rw [← hl2] at h3
    have c3:¬ 0<σ.fuse:=oQ
    have he:σ.act (k,x,n)=({ σ with fuse:=σ.fuse,acts:=σ.acts++[(k,x,n)] }:Dv):=by simp [Dv.act,Dv.push,c2,c3]
    rw [he]
    exact Fin.perm bT (Fin.s1 (.inl rfl) rfl rfl ⟨by simp [Dv.actE,c1],⟨hO.n,hO.ok,by dsimp only;omega,by dsimp only;omega,by simp;omega⟩,bl,bn,bp,bm,vp,v2,Hq,Ha2,h1,h3,by rw [aE];rfl⟩)
   ·refine W.o ?_
    have c3:¬ 0<σ.fuse:=oQ
    have he:σ.act (k,x,n)=({ σ with fuse:=σ.fuse }:Dv):=by simp [Dv.act,Dv.push,c2,c3]
    rw [he]
    exact Fin.s1 (.inl rfl) rfl rfl ⟨by simp [Dv.actE,c1],Dv.fuse_ok _ hO oQ oQ,bl,bn,bp,bm,vp,_,Hq,Ha,h1,h2,rfl⟩
theorem aJ3{p:Nat}{σ:Dv}{H:Hp}(hD:jY p σ H):Tri prog 225 [.pointer (some ⟨p,0,none⟩)] H (fun _=>True) (fun v H'=>v=.int .i64 σ.dooE∧jY p σ.doo H'):=by
 have hr:=tH hD 0 0
 rw [Dv.rdy00] at hr
 refine Tri.mk func225 rfl ntmps225 rfl fun w hw=>?_
 by_cases hd:σ.down=true
 ·rw [if_pos hd] at hr
  repeat' (first|(refine tM ?_;refine zN rfl rfl ?_)|(refine rD ?_;((refine oC _ rfl rfl rfl rfl hr (fun _ _=>trivial) ?_;rintro _ _ ⟨rfl,rfl⟩)))|(refine W.ow ?_;try intro b_)  | refine dP (nY rfl rfl rfl) rfl rfl (fun h_=>?_) (fun h_=>?_)|refine dP (nX rfl rfl rfl) rfl rfl (fun h_=>?_) (fun h_=>?_)|refine dP (nW rfl rfl rfl) rfl rfl (fun h_=>?_) (fun h_=>?_)|refine dP (nV rfl rfl rfl) rfl rfl (fun h_=>?_) (fun h_=>?_)|refine dP (lX rfl rfl rfl) rfl rfl (fun h_=>?_) (fun h_=>?_)|refine dP (nZ rfl rfl rfl) rfl rfl (fun h_=>?_) (fun h_=>?_)|refine jL rfl (fun h_=>?_) (fun h_=>?_))
  rw [aE]
  exact Fin.s1 (.inl rfl) rfl rfl ⟨by simp [Dv.dooE,hd],by simpa [Dv.doo,hd] using hD⟩
 ·rw [if_neg hd] at hr
  have ha:=aBK hD (by simpa using hd) 4 0 0
  refine W.o ?_
  refine oC _ rfl rfl rfl rfl hr (fun _ _=>trivial) ?_
  rintro _ _ ⟨rfl,rfl⟩
  refine W.o ?_
  refine oC _ rfl rfl rfl rfl ha (fun _ _=>trivial) ?_
  rintro _ _ ⟨rfl,hD2⟩
  refine W.o ?_
  rw [aE]
  exact Fin.s1 (.inl rfl) rfl rfl ⟨by simp [Dv.dooE,hd],by simpa [Dv.doo,hd] using hD2⟩
theorem aKa(n:Int)(m:Nat)(hnm:n=m∨n<0∧m=0)(hm:m≤1024):Tri prog 51 [.int .i64 n] [] (fun _=>True) (fun v H'=>∃ p,v=.pointer (some ⟨p,0,none⟩)∧jY p (Dv.new m) H'):=by
 refine Tri.mk func51 rfl ntmps51 rfl fun w hw=>?_
 rcases hnm with rfl|⟨hneg,rfl⟩
 ·refine W.o ?_
  refine kS [] 99 kQ ?_
  (refine SA.take 0 rfl kQ (fun _ _ _ h=>Fin.np h) rfl rfl (dW rfl rfl) ?_;refine SA.take 1 rfl kQ (fun _ _ _ h=>Fin.np h) rfl rfl (iU rfl rfl rfl (w64 oQ)) ?_;refine SA.take 3 rfl kQ (fun _ _ _ h=>Fin.np h) rfl rfl (dW rfl rfl) ?_;refine SA.take 4 rfl kQ (fun _ _ _ h=>Fin.np h) rfl rfl (iU rfl rfl rfl (w64 oQ)) ?_;refine SA.take 6 rfl kQ (fun _ _ _ h=>Fin.np h) rfl rfl (dW rfl rfl) ?_;refine SA.take 7 rfl kQ (fun _ _ _ h=>Fin.np h) rfl rfl (iU rfl rfl rfl (w64 oQ)) ?_;refine SA.take 9 rfl kQ (fun _ _ _ h=>Fin.np h) rfl rfl (dW rfl rfl) ?_;refine SA.take 10 rfl kQ (fun _ _ _ h=>Fin.np h) rfl rfl (iU rfl rfl rfl (w64 oQ)) ?_)
  refine wU (fuel:=3) [(8,.int .i64 (64*m)),(11,.int .i64 (64*m)),(14,.int .i64 (8*m)),(17,.int .i64 (8*m))] 4
   [⟨2,9,fun b=>.slice (some ⟨b,0,none⟩) (64*m) (64*m),cl (zs [.int .u8 0] (64*m)) 5⟩,⟨5,12,fun b=>.slice (some ⟨b,0,none⟩) (64*m) (64*m),cl (zs [.int .u8 0] (64*m)) 5⟩,
    ⟨8,15,fun b=>.slice (some ⟨b,0,none⟩) (8*m) (8*m),cl (zs [.bool false] (8*m)) 4⟩,⟨11,18,fun b=>.slice (some ⟨b,0,none⟩) (8*m) (8*m),cl (zs [.bool false] (8*m)) 4⟩] [] _ _ _ rfl (by simp) (by simp) (by simp) (by simp) kQ trivial ⟨rfl,rfl,rfl,rfl,trivial⟩ ⟨_,List.Perm.refl _⟩ ?_ ?_
  ·intro x hx
   simp only [cB,dB,or_false] at hx
   rcases hx with rfl|rfl|rfl|rfl
   ·exact⟨_,rfl,fun K ρ H hs hk=>SL.make (n:=1) (l:=64*m) (c:=64*m) rfl rfl rfl hs.1 hs.1 oQ oQ (by rfl) dQ (Nat.le_refl _) oQ dQ fun b=>gW (hk b)⟩
   ·exact⟨_,rfl,fun K ρ H hs hk=>SL.make (n:=1) (l:=64*m) (c:=64*m) rfl rfl rfl hs.2.1 hs.2.1 oQ oQ (by rfl) dQ (Nat.le_refl _) oQ dQ fun b=>gW (hk b)⟩
   ·exact⟨_,rfl,fun K ρ H hs hk=>SL.make (n:=1) (l:=8*m) (c:=8*m) rfl rfl rfl hs.2.2.1 hs.2.2.1 oQ oQ (by rfl) dQ (Nat.le_refl _) oQ dQ fun b=>gW (hk b)⟩
   ·exact⟨_,rfl,fun K ρ H hs hk=>SL.make (n:=1) (l:=8*m) (c:=8*m) rfl rfl rfl hs.2.2.2.1 hs.2.2.2.1 oQ oQ (by rfl) dQ (Nat.le_refl _) oQ dQ fun b=>gW (hk b)⟩
  ·intro f ρ' H' _ hf hp
   simp only [cB,dB,or_false,forall_eq_or_imp,forall_eq] at hf
   obtain⟨f1,f2,f3,f4⟩:=hf
   simp only [dZ,mC,eD,List.nil_append] at hp
   refine aAQ [(9,.slice (some ⟨f 2,0,none⟩) (64*m) (64*m)),(12,.slice (some ⟨f 5,0,none⟩) (64*m) (64*m)),(15,.slice (some ⟨f 8,0,none⟩) (8*m) (8*m)),(18,.slice (some ⟨f 11,0,none⟩) (8*m) (8*m))] _ ⟨f1,f2,f3,f4,trivial⟩ hp ?_
   refine SA.one 12 rfl kQ ?_
   refine W.o ?_
   refine Beh.mk ?_
   refine SA.one 13 rfl kQ ?_
   refine W.o fun b_=>?_
   refine Beh.mk ?_
   refine SA.one 14 rfl kQ ?_
   refine W.o ?_
   refine Beh.mk ?_
   refine tL kQ ?_
   refine W.o ?_
   refine Fin.s1 (.inl rfl) rfl rfl ⟨b_,rfl,Dv.new_ok m,f 2,f 5,f 8,f 11,_,_,[],[],Sl.nil _ _,Sl.nil _ _,?_⟩
   have hz:(Dv.new m).ws.length=8*m:=by simp [Dv.new];omega
   have hz2:(Dv.new m).len=64*m:=by rw [Dv.len,hz];omega
   have hws:(Dv.new m).ws=List.replicate (8*m) Wd.zero:=by simp only [Dv.new];congr 1;omega
   have e8:∀ (n:Nat) (v:Value),(List.replicate n (List.replicate 8 v)).flatten=List.replicate (8*n) v:=fun n v=>by rw [List.flatten_replicate_replicate];congr 1;omega
   have h1:rl (Dv.new m).ws=zs [.int .u8 0] (64*m):=by
    rw [hws,kG,rl,fM,dJ]
    show (List.replicate (8*m) (List.replicate 8 (Value.int .u8 0))).flatten=_
    rw [e8];congr 1;omega
   have h2:rn (Dv.new m).ws=zs [.int .u8 0] (64*m):=by
    rw [hws,kG,rn,fM,dJ]
    show (List.replicate (8*m) (List.replicate 8 (Value.int .u8 0))).flatten=_
    rw [e8];congr 1;omega
   have h3:rp (Dv.new m).ws=zs [.bool false] (8*m):=by rw [hws,kG,rp,dJ];rfl
   have h4:rm (Dv.new m).ws=zs [.bool false] (8*m):=by rw [hws,kG,rm,dJ];rfl
   rw [hz2,hz,h1,h2,h3,h4]
   rfl
 ·obtain⟨m,hm0⟩:∃ m:Nat,m=0:=⟨0,rfl⟩
  rw [show (Dv.new ((0:Nat):Int))=Dv.new (m:Int) by rw [hm0]]
  have hm:m≤1024:=oQ
  refine W.o ?_
  refine wY (r:=[(0,.int .i64 m)]) ⟨by rw [hm0];rfl,trivial⟩ (eY.nil _) ?_
  refine kS [] 99 kQ ?_
  (refine SA.take 0 rfl kQ (fun _ _ _ h=>Fin.np h) rfl rfl (dW rfl rfl) ?_;refine SA.take 1 rfl kQ (fun _ _ _ h=>Fin.np h) rfl rfl (iU rfl rfl rfl (w64 oQ)) ?_;refine SA.take 3 rfl kQ (fun _ _ _ h=>Fin.np h) rfl rfl (dW rfl rfl) ?_;refine SA.take 4 rfl kQ (fun _ _ _ h=>Fin.np h) rfl rfl (iU rfl rfl rfl (w64 oQ)) ?_;refine SA.take 6 rfl kQ (fun _ _ _ h=>Fin.np h) rfl rfl (dW rfl rfl) ?_;refine SA.take 7 rfl kQ (fun _ _ _ h=>Fin.np h) rfl rfl (iU rfl rfl rfl (w64 oQ)) ?_;refine SA.take 9 rfl kQ (fun _ _ _ h=>Fin.np h) rfl rfl (dW rfl rfl) ?_;refine SA.take 10 rfl kQ (fun _ _ _ h=>Fin.np h) rfl rfl (iU rfl rfl rfl (w64 oQ)) ?_)
  refine wU (fuel:=3) [(8,.int .i64 (64*m)),(11,.int .i64 (64*m)),(14,.int .i64 (8*m)),(17,.int .i64 (8*m))] 4
   [⟨2,9,fun b=>.slice (some ⟨b,0,none⟩) (64*m) (64*m),cl (zs [.int .u8 0] (64*m)) 5⟩,⟨5,12,fun b=>.slice (some ⟨b,0,none⟩) (64*m) (64*m),cl (zs [.int .u8 0] (64*m)) 5⟩,
    ⟨8,15,fun b=>.slice (some ⟨b,0,none⟩) (8*m) (8*m),cl (zs [.bool false] (8*m)) 4⟩,⟨11,18,fun b=>.slice (some ⟨b,0,none⟩) (8*m) (8*m),cl (zs [.bool false] (8*m)) 4⟩] [] _ _ _ rfl (by simp) (by simp) (by simp) (by simp) kQ trivial ⟨rfl,rfl,rfl,rfl,trivial⟩ ⟨_,List.Perm.refl _⟩ ?_ ?_
  ·intro x hx
   simp only [cB,dB,or_false] at hx
   rcases hx with rfl|rfl|rfl|rfl
   ·exact⟨_,rfl,fun K ρ H hs hk=>SL.make (n:=1) (l:=64*m) (c:=64*m) rfl rfl rfl hs.1 hs.1 oQ oQ (by rfl) dQ (Nat.le_refl _) oQ dQ fun b=>gW (hk b)⟩
   ·exact⟨_,rfl,fun K ρ H hs hk=>SL.make (n:=1) (l:=64*m) (c:=64*m) rfl rfl rfl hs.2.1 hs.2.1 oQ oQ (by rfl) dQ (Nat.le_refl _) oQ dQ fun b=>gW (hk b)⟩
   ·exact⟨_,rfl,fun K ρ H hs hk=>SL.make (n:=1) (l:=8*m) (c:=8*m) rfl rfl rfl hs.2.2.1 hs.2.2.1 oQ oQ (by rfl) dQ (Nat.le_refl _) oQ dQ fun b=>gW (hk b)⟩
   ·exact⟨_,rfl,fun K ρ H hs hk=>SL.make (n:=1) (l:=8*m) (c:=8*m) rfl rfl rfl hs.2.2.2.1 hs.2.2.2.1 oQ oQ (by rfl) dQ (Nat.le_refl _) oQ dQ fun b=>gW (hk b)⟩
  ·intro f ρ' H' _ hf hp
   simp only [cB,dB,or_false,forall_eq_or_imp,forall_eq] at hf
   obtain⟨f1,f2,f3,f4⟩:=hf
   simp only [dZ,mC,eD,List.nil_append] at hp
   refine aAQ [(9,.slice (some ⟨f 2,0,none⟩) (64*m) (64*m)),(12,.slice (some ⟨f 5,0,none⟩) (64*m) (64*m)),(15,.slice (some ⟨f 8,0,none⟩) (8*m) (8*m)),(18,.slice (some ⟨f 11,0,none⟩) (8*m) (8*m))] _ ⟨f1,f2,f3,f4,trivial⟩ hp ?_
   refine SA.one 12 rfl kQ ?_
   refine W.o ?_
   refine Beh.mk ?_
   refine SA.one 13 rfl kQ ?_
   refine W.o fun b_=>?_
   refine Beh.mk ?_
   refine SA.one 14 rfl kQ ?_
   refine W.o ?_
   refine Beh.mk ?_
   refine tL kQ ?_
   refine W.o ?_
   refine Fin.s1 (.inl rfl) rfl rfl ⟨b_,rfl,Dv.new_ok m,f 2,f 5,f 8,f 11,_,_,[],[],Sl.nil _ _,Sl.nil _ _,?_⟩
   have hz:(Dv.new m).ws.length=8*m:=by simp [Dv.new];omega
   have hz2:(Dv.new m).len=64*m:=by rw [Dv.len,hz];omega
   have hws:(Dv.new m).ws=List.replicate (8*m) Wd.zero:=by simp only [Dv.new];congr 1;omega
   have e8:∀ (n:Nat) (v:Value),(List.replicate n (List.replicate 8 v)).flatten=List.replicate (8*n) v:=fun n v=>by rw [List.flatten_replicate_replicate];congr 1;omega
   have h1:rl (Dv.new m).ws=zs [.int .u8 0] (64*m):=by
    rw [hws,kG,rl,fM,dJ]
    show (List.replicate (8*m) (List.replicate 8 (Value.int .u8 0))).flatten=_
    rw [e8];congr 1;omega
   have h2:rn (Dv.new m).ws=zs [.int .u8 0] (64*m):=by
    rw [hws,kG,rn,fM,dJ]
    show (List.replicate (8*m) (List.replicate 8 (Value.int .u8 0))).flatten=_
    rw [e8];congr 1;omega
   have h3:rp (Dv.new m).ws=zs [.bool false] (8*m):=by rw [hws,kG,rp,dJ];rfl
   have h4:rm (Dv.new m).ws=zs [.bool false] (8*m):=by rw [hws,kG,rm,dJ];rfl
   rw [hz2,hz,h1,h2,h3,h4]
   rfl
theorem aKb(m:Nat)(hm:m≤1024):Tri prog 51 [.int .i64 m] [] (fun _=>True) (fun v H'=>∃ p,v=.pointer (some ⟨p,0,none⟩)∧jY p (Dv.new m) H'):=aKa m m (.inl rfl) hm
end
section
attribute [local irreducible] SW SL SQ SH SA SS Pu Fin bU aP
theorem aKj(c:Nat):Tri prog 48 [.pointer (some ⟨c,0,none⟩)] [] (fun _=>True) (fun v H=>∃ s m,v=.pointer (some ⟨s,0,none⟩)∧H=[(s,cl [.pointer (some ⟨c,0,none⟩),.map (some m),.slice none 0 0] 181),(m,mo [])]):=by
 refine Tri.mk func48 rfl ntmps48 rfl fun w hw=>?_
 have hb:∀ m:Nat,bP (fun i=>[(0,1),(1,1),(2,1)][i]?) [.pointer none,.map none,.slice none 0 0] [(0,.pointer (some ⟨c,0,none⟩)),(1,.map (some m))]=some [.pointer (some ⟨c,0,none⟩),.map (some m),.slice none 0 0]:=fun m=>rfl
 refine W.k ?_
 refine aFz fun m=>?_
 have hbm:=hb m
 refine W.k fun b_=>?_
 refine Fin.to [(b_,cl [.pointer (some ⟨c,0,none⟩),.map (some m),.slice none 0 0] 181),(m,mo [])] ?_
 exact F.f1 ⟨b_,m,rfl,rfl⟩
def rg0(cnt:Int):Rg:=⟨cnt,List.replicate 32 0⟩
theorem aGJ{cnt:Int}(h0:0≤cnt)(h1:cnt≤18446744073709551615):(rg0 cnt).Ok:=⟨rfl,h0,h1⟩
def aIu(pp p t:Nat)(k:List UInt8)(cnt:Int)(H:Hp):Prop:=
 ∃ d tr s m bk tb c b rd rtr rs rc Hd Hb Hc HD HR,gO d (Dv.new (4*Gm.total p t:Nat)) Hd∧fB bk tb Bk.new Hb∧aBj c b (k.length/4+6) (Aes.sched k) Hc∧jY rd (Dv.new (4*Gm.total p t:Nat)) HD∧aBW rc (k.length/4+6) (Rg.sched k) HR ∧
  H=(pp,cl [ptv d,ptv tr,ptv s,ptv bk,.int .i64 (p:Int),.int .i64 (t:Int),.pointer none,ptv rd,ptv rtr,ptv rs,.int .i64 (p:Int),.int .i64 (t:Int),.pointer none] 47) ::
   (tr,cl (trc d (rg0 cnt)) 200)::(s,cl [ptv c,.map (some m),.slice none 0 0] 181)::(m,mo [])::(b,fN) ::
   (rtr,cl (rgc (rg0 cnt)++[ptv rd]) 119)::(rs,cl [ptv rc,.slice none 0 0,.bool false,.int .u64 0,.int .i64 0,.slice none 0 0] 126) ::
   (Hd++(Hb++(Hc++(HD++HR))))
theorem aHy{p t:Nat}(h:Gm.Ok p t)(k:List UInt8)(hk:k.length=16){cnt:Int}(h0:0≤cnt)(h1:cnt≤18446744073709551615):Tri prog 9 [jQ p t,.agg (cbs k).toArray,.int .u64 cnt] [] (fun _=>True)
  (fun v H=>∃ pp,v=ptv pp∧aIu pp p t k cnt H):=by
 refine Tri.mk func9 rfl ntmps9 rfl fun w hw=>?_
 have hall:=wH h
 have htot:=Gm.total_le2 h
 have hpl:=mX (Gm.all p t)
 rw [Gm.all_len] at hpl
 unfold aIu
 generalize Gm.total p t=n at *
 refine W.k fun _ b_=>?_
 refine aH hall ?_
 rintro v1 H1 ⟨Hs,hS,rfl⟩
 obtain⟨a,len,cap,rfl,hl1⟩:=hS.form
 have hl2:len=n:=oQ
 subst hl2
 refine W.k ?_
 rw [show (4:Int)*(len:Int)=((4*len:Nat):Int) by omega]
 (refine aIw [] [] ?_;refine eW 1 rfl (uM rfl rfl) ?_;refine aU 0 ?_)
 refine aH aGj ?_
 rintro _ _ ⟨b,rfl,rfl⟩
 (refine bI [] ?_;refine aU 2 ?_)
 rename_i bg
 refine aH (aJa (b:=b) (len:=16) (cap:=16) k (.inl hk)) ?_ (hpre:=fun w2 hs=>Rd.atB (Hc:=[(b,fN)]) (T:=32) (fz:=(0,0)) k hs hk (Nat.le_refl _))
 rintro _ _ ⟨c,Hc,rfl,hC,rfl⟩
 (refine SL.l [3,4,5,6,7,8] ?_)
 refine W.k ?_
 refine aH (aJF ((4*len:Nat):Int)) ?_
 rintro _ Hd ⟨d,rfl,hD⟩
 refine W.k ?_
 (refine SW.l [12] [0,1,2,3,5,9] ?_;refine aU 4 ?_)
 refine aH (aLi d (rg0 cnt) (aGJ h0 h1)) ?_
 rintro _ _ ⟨tr,rfl,rfl⟩
 (refine bI [] ?_;refine aU 6 ?_)
 refine aH (aKj c) ?_
 rintro _ _ ⟨s,m,rfl,rfl⟩
 (refine bI [] ?_;refine aU 7 ?_)
 refine aH aJC ?_
 rintro _ _ ⟨tb,rfl,rfl⟩
 (refine bI [] ?_;refine aU 8 ?_)
 refine aH (aIP tb) ?_
 rintro _ Hb ⟨bk,rfl,hB⟩
 have hb41:bP (fun i=>[(0,1),(1,1),(2,1),(3,1),(4,2)][i]?) [.pointer none,.pointer none,.pointer none,.pointer none,.int .i64 0,.int .i64 0] [(0,ptv d),(1,ptv tr),(2,ptv s),(3,ptv bk),(4,jQ p t)]=some [ptv d,ptv tr,ptv s,ptv bk,.int .i64 (p:Int),.int .i64 (t:Int)]:=rfl
 have hb56:bP (fun i=>[(0,6),(6,1),(7,5),(12,1)][i]?) (List.replicate 4 (.pointer none)++[.int .i64 0,.int .i64 0]++List.replicate 4 (.pointer none)++[.int .i64 0,.int .i64 0]++[.pointer none]) [(0,.agg [ptv d,ptv tr,ptv s,ptv bk,.int .i64 (p:Int),.int .i64 (t:Int)].toArray)]=some [ptv d,ptv tr,ptv s,ptv bk,.int .i64 (p:Int),.int .i64 (t:Int),.pointer none,.pointer none,.pointer none,.pointer none,.int .i64 0,.int .i64 0,.pointer none]:=rfl
 (refine SL.l [10,11] ?_;refine cQ 12 ?_;refine W.i fun b_=>?_;refine SG.l [13,14] ?_)
 rename_i bk4
 clear hb41 hb56
 refine aDQ [2,3,4,7,11] ?_
 refine W.k ?_
 refine aH (aKb (4*len) oQ) ?_
 rintro _ HD ⟨rd,rfl,hDR⟩
 have hb97:bP (fun i=>[(0,1),(1,32)][i]?) ([.int .u64 0]++List.replicate 32 (.int .u8 0)) [(0,.int .u64 cnt)]=some (rgc (rg0 cnt)):=rfl
 have hb101:bP (fun i=>[(0,33),(33,1)][i]?) ([.int .u64 0]++List.replicate 32 (.int .u8 0)++[.pointer none]) [(0,.agg (rgc (rg0 cnt)).toArray),(1,ptv rd)]=some (rgc (rg0 cnt)++[ptv rd]):=rfl
 have hb108:∀ rc,bP (fun i=>[(0,1),(1,1),(2,1),(3,3)][i]?) [.pointer none,.slice none 0 0,.bool false,.int .u64 0,.int .i64 0,.slice none 0 0] [(0,ptv rc)]=some [ptv rc,.slice none 0 0,.bool false,.int .u64 0,.int .i64 0,.slice none 0 0]:=fun rc=>rfl
 have hb53:∀ rtr rs,bP (fun i=>[(0,1),(1,1),(2,1),(3,2)][i]?) [.pointer none,.pointer none,.pointer none,.int .i64 0,.int .i64 0] [(0,ptv rd),(1,ptv rtr),(2,ptv rs),(3,jQ p t)]=some [ptv rd,ptv rtr,ptv rs,.int .i64 (p:Int),.int .i64 (t:Int)]:=fun _ _=>rfl
 refine W.k ?_
 (refine SW.l [15] [0,1,2,3,4,5] ?_;refine eW 7 rfl (uM rfl rfl) ?_;refine SG.l [11] ?_;skip )
 refine gT 6 8 ?a ?b rfl rfl
 case' a=>
  refine uF fun rtr=>?_
  refine cW ?_
  refine aU 8 ?_
  refine aH (aEh (len:=16) (cap:=16) k (.inl hk)) ?_ (hpre:=fun w2 hs=>Rd.atB (Hc:=[]) (T:=32) (fz:=(0,0)) k hs hk (Nat.le_refl _))
  rintro _ HR ⟨rc,rfl,hR⟩
  have hbrc:=hb108 rc
  refine cW ?_
  refine eW 9 rfl (mJ rfl rfl hbrc) ?_
  refine aU 10 ?_
  refine uF fun rs=>?_
 case' b=>
  refine aH (aEh (len:=16) (cap:=16) k (.inl hk)) ?_ (hpre:=fun w2 hs=>Rd.atB (Hc:=[]) (T:=32) (fz:=(0,0)) k hs hk (Nat.le_refl _))
  rintro _ HR ⟨rc,rfl,hR⟩
  have hbrc:=hb108 rc
  refine cW ?_
  refine eW 9 rfl (mJ rfl rfl hbrc) ?_
  refine gT 6 10 ?c ?d rfl rfl
  case' c=>
   refine uF fun rtr=>?_
   refine cW ?_
   refine aU 10 ?_
   refine uF fun rs=>?_
  case' d=>
   refine uF fun rs=>?_
   refine cW ?_
   refine aU 6 ?_
   refine uF fun rtr=>?_
 all_goals
  (refine bI [] ?_;refine eW 12 rfl (mJ rfl rfl (hb53 rtr rs)) ?_;refine SG.l [13,14] ?_;refine cQ 15 ?_;refine W.i ?_;refine eH ?_)
  rw [show List.take 7 ([ptv d,ptv tr,ptv s,ptv bk,.int .i64 (p:Int),.int .i64 (t:Int),.pointer none,.pointer none,.pointer none,.pointer none,.int .i64 0,.int .i64 0,.pointer none]:List Value)++[ptv rd,ptv rtr,ptv rs,.int .i64 (p:Int),.int .i64 (t:Int)]++List.drop (7+5) ([ptv d,ptv tr,ptv s,ptv bk,.int .i64 (p:Int),.int .i64 (t:Int),.pointer none,.pointer none,.pointer none,.pointer none,.int .i64 0,.int .i64 0,.pointer none]:List Value)=[ptv d,ptv tr,ptv s,ptv bk,.int .i64 (p:Int),.int .i64 (t:Int),.pointer none,ptv rd,ptv rtr,ptv rs,.int .i64 (p:Int),.int .i64 (t:Int),.pointer none] from rfl]
  refine W.k ?_
  refine Fin.to ((b_,cl [ptv d,ptv tr,ptv s,ptv bk,.int .i64 (p:Int),.int .i64 (t:Int),.pointer none,ptv rd,ptv rtr,ptv rs,.int .i64 (p:Int),.int .i64 (t:Int),.pointer none] 47) ::
   (tr,cl (trc d (rg0 cnt)) 200)::(s,cl [ptv c,.map (some m),.slice none 0 0] 181)::(m,mo [])::(b,fN) ::
   (rtr,cl (rgc (rg0 cnt)++[ptv rd]) 119)::(rs,cl [ptv rc,.slice none 0 0,.bool false,.int .u64 0,.int .i64 0,.slice none 0 0] 126) ::
   (Hd++(Hb++(Hc++(HD++HR))))) ?_
  refine F.f1 ⟨b_,rfl,?_⟩
  exact⟨d,tr,s,m,bk,tb,c,b,rd,rtr,rs,rc,Hd,Hb,Hc,HD,HR,hD,hB,hC,hDR,hR,rfl⟩
abbrev uG(d tr s bk p t:Nat):Value:=.agg #[ptv d,ptv tr,ptv s,ptv bk,.int .i64 (p:Int),.int .i64 (t:Int)]
def Dv.blk(σ:Dv)(k:Nat):List UInt8:=σ.loadB (256*k:Nat) 256
end
section
attribute [local irreducible] SW SL SQ SH SA SS Pu Fin
def rtc(e:Nat)(r:Rg):List Value:=rgc r++[.pointer (some ⟨e,0,none⟩)]
theorem aFe(e:Nat){r:Rg}(h:r.Ok):((rtc e r).drop 0).take 33=rgc r∧(rgc r).length=33∧(rtc e r)[33]?=some (.pointer (some ⟨e,0,none⟩))∧(rtc e r)[0]?=some (.int .u64 r.c)∧(rtc e r).length=34∧((rtc e r).drop 1).take 32=r.root.map bv:=by
 have hl:=mY h
 refine⟨?_,hl,?_,rfl,by simp [rtc,hl],?_⟩
 ·rw [rtc,bN,dG hl]
 ·rw [rtc,aO oQ,hl];rfl
 ·show ((r.root.map bv++_).take 32)=_
  rw [dG (by simpa using h.len)]
theorem aIi(e:Nat){r r':Rg}(h:r.Ok)(h':r'.Ok):(rtc e r).take 0++rgc r'++(rtc e r).drop (0+33)=rtc e r':=by
 rw [rtc,dF,List.nil_append,iC (by rw [mY h])];rfl
theorem aGN(tp p:Nat)(r r':Rg)(h:r.Ok)(h':r'.Ok){σ:Dv}{H:Hp}(hD:jY p σ H):Tri prog 185 [.pointer (some ⟨tp,0,none⟩),.agg (rgc r').toArray] ((tp,cl (rtc p r) 119)::H) (fun _=>True)
  (fun v H'=>v=.int .i64 (sE σ r r')∧∃ H2,H'=(tp,cl (rtc p (pG σ r r')) 119)::H2∧jY p (sD σ r r') H2):=by
 obtain⟨f1,f2,f3,f4,f5,f6⟩:=aFe p h
 have hl':=mY h'
 have hr':((rgc r').drop 0).take 33=rgc r':=by rw [bN,aG oQ]
 have fp:=aIi p h h'
 have hdo:=aJ3 hD
 have hD2:=hD
 have b1:0+33≤(rtc p r).length:=oQ
 obtain⟨hO,bl,bn,bp,bm,vp,va,Hq,Ha,h1,h2,rfl⟩:=hD2
 refine Tri.mk func185 rfl ntmps185 rfl fun w hw=>?_
 refine W.k fun b_=>?_
 cases hd:σ.down
 ·rw [hd] at hdo
  refine W.k ?_
  (refine SW.l [] [0,1,2,3,4,5,6] ?_;(first|refine eW 7 rfl (Pu.t (uL rfl rfl rfl rfl) (by dsimp only [xA];first|done|omega)) ?_|refine eW 7 rfl (Pu.f (uL rfl rfl rfl rfl) (by dsimp only [xA];first|done|omega)) ?_|refine eW 7 rfl (uL rfl rfl rfl rfl) ?_|refine eW 7 rfl (aIH rfl rfl rfl) ?_);refine eH ?_)
  repeat' (first|(refine W.go ?_;try intro b_)  | (refine W.cs (fun h_=>?_) (fun h_=>?_) <;> dsimp only [xA] at h_)|(refine aAW rfl (fun h_=>?_) (fun h_=>?_) <;> (try dsimp only [xA] at h_))|refine jL rfl (fun h_=>?_) (fun h_=>?_))
  ·refine Fin.rm b_ ?_
   refine F.f1 ?_
   exact⟨by simp [sE,hd,h_],_,by simp [pG,hd,h_];rfl,by simpa [sD,hd,h_] using hD⟩
  ·refine aH hdo ?_
   rintro _ H2 ⟨rfl,hD2⟩
   have hD3:jY p (sD σ r r') H2:=by simpa [sD,hd,h_] using hD2
   by_cases he:σ.dooE=0
   ·refine W.k ?_
    refine Fin.rm b_ ?_;rw [fp];refine Fin.perm bT ?_;refine F.f1 ?_;exact⟨by simp [sE,hd,h_,he],H2,by simp [pG,hd,h_,he],hD3⟩
   ·refine W.k ?_
    refine Fin.rm b_ ?_;refine Fin.perm bT ?_;refine F.f1 ?_;exact⟨by simp [sE,hd,h_],H2,by simp [pG,hd,h_,he],hD3⟩
 ·rw [hd] at hdo
  refine W.k ?_
  refine Fin.rm b_ ?_;refine F.f1 ?_;exact⟨by simp [sE,hd],_,by simp [pG,hd];rfl,by simpa [sD,hd] using hD⟩
end
end Go.Proofs.YtmceanmblcadcaaGreat
