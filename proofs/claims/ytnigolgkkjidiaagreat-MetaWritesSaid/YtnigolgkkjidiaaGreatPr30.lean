/- The document's own device: its model. The document's own device: the power goes. The document's own device: the power goes (the walk). The document's own device: an act, Do. The document's own device: Do, Arm. The document's own device: New. -/
import Derived.Test.YtnigolgkkjidiaaGreatPr29
import Derived.Test.YtnigolgkkjidiaaGreatPr1
import Derived.Test.YtnigolgkkjidiaaGreatPr16
import Derived.Test.YtnigolgkkjidiaaGreatPr8
import Derived.Test.YtnigolgkkjidiaaGreatPr23
import Derived.Test.YtnigolgkkjidiaaGreatPr10
import Derived.Test.YtnigolgkkjidiaaGreatPr2
set_option linter.unusedVariables false
set_option linter.unusedSimpArgs false
set_option linter.unusedSectionVars false
set_option maxHeartbeats 1600000
namespace Go.Proofs.YtnigolgkkjidiaaGreat
open Go Go.Proofs.Tryz
section
attribute [local irreducible] SW SL SQ SH SA Pu Fin
def rl(ws:List Wd):List Value:=ws.flatMap fun w=>w.lasts.map bv
def rn(ws:List Wd):List Value:=ws.flatMap fun w=>w.now.map bv
def rp(ws:List Wd):List Value:=ws.map fun w=>.bool w.pend
def rm(ws:List Wd):List Value:=ws.map fun w=>.bool w.mark
theorem aGi{ws:List Wd}(h:∀ w∈ws,w.Ok):(rn ws).length=8*ws.length:=by
 rw [rn,sM _ 8 _ (fun w hw=>by simpa using (h w hw).1.2)];omega
theorem aGg{ws:List Wd}(h:∀ w∈ws,w.Ok):(rl ws).length=8*ws.length:=by
 rw [rl,sM _ 8 _ (fun w hw=>by simpa using (h w hw).1.1)];omega
def lU(p:Nat)(σ:Dv)(H:Hp):Prop:=
 σ.Ok∧∃ bl bn bp bm vp va Hq Ha,Sl 5 1 vp (σ.picks.map bv) Hq∧Sl 404 3 va (σ.acts.flatMap ac) Ha ∧
  H=(p,cl [.slice (some ⟨bl,0,none⟩) σ.len σ.len,.slice (some ⟨bn,0,none⟩) σ.len σ.len,.slice (some ⟨bp,0,none⟩) σ.ws.length σ.ws.length,.slice (some ⟨bm,0,none⟩) σ.ws.length σ.ws.length,.bool σ.down,.int .i64 σ.fuse,vp,va] 54) ::
   (bl,cl (rl σ.ws) 5)::(bn,cl (rn σ.ws) 5)::(bp,cl (rp σ.ws) 4)::(bm,cl (rm σ.ws) 4)::(Hq++Ha)
theorem wJ{p:Nat}{σ:Dv}{H:Hp}(hD:lU p σ H)(x n:Int):Tri prog 246 [.pointer (some ⟨p,0,none⟩),.int .i64 x,.int .i64 n] H (fun _=>True) (fun v H'=>v=.int .i64 (σ.rdy x n)∧H'=H):=by
 obtain⟨hO,bl,bn,bp,bm,vp,va,Hq,Ha,h1,h2,rfl⟩:=hD
 have hof:One vp:=h1.one
 have hoa:One va:=h2.one
 have hn:σ.len≤65536:=by have:=hO.n;simp only [Dv.len];omega
 refine Tri.mk func246 rfl ntmps246 rfl fun w hw=>?_
 repeat' (first|(refine W.ow ?_;try intro b_)  | refine eL (qE rfl rfl rfl) rfl rfl (fun h_=>?_) (fun h_=>?_)|refine eL (qD rfl rfl rfl) rfl rfl (fun h_=>?_) (fun h_=>?_)|refine eL (qC rfl rfl rfl) rfl rfl (fun h_=>?_) (fun h_=>?_)|refine eL (qB rfl rfl rfl) rfl rfl (fun h_=>?_) (fun h_=>?_)|refine eL (nX rfl rfl rfl) rfl rfl (fun h_=>?_) (fun h_=>?_)|refine eL (qF rfl rfl rfl) rfl rfl (fun h_=>?_) (fun h_=>?_)|refine lC rfl (fun h_=>?_) (fun h_=>?_))
 all_goals (refine Fin.r1 (.inl rfl) rfl rfl _ ⟨?_,rfl⟩;unfold Dv.rdy;congr 1)
 all_goals (repeat' split)
 all_goals first|rfl|(exfalso;simp_all;done)|(exfalso;omega)
end
section
variable {P:Program}{C:Ctx}{ρ:Fr}{H H':Hp}{o:Oper}
theorem mT{t e n len cap l h b j m c:Nat}{x y y2:Operand}{k k2:IntKind}{i i2:Int}(ho:o.op=.slice t x (some y) (some y2) none)(hx:ev ρ x=some (.slice (some ⟨b,j,none⟩) len cap)) [ht:cG P t e n]
  (hy:ev ρ y=some (.int k i)) (hy2:ev ρ y2=some (.int k2 i2)) (hl:i=(l:Int)) (hh:i2=(h:Int)) (hlt:l<cap) (h2:h≤cap) (hm:l+m=h) {j':Nat} (hj:j+l*n=j') (hc:l+c=cap):Pu P C ρ H o (.slice (some ⟨b,j',none⟩) m c):=by
 have:=oJ (P:=P) (C:=C) (H:=H) (vl:=none) (vh:=none) ho hx (ht:=ht) (l:=l) (h:=h) (.inr ⟨y,k,i,rfl,hy,hl⟩) (.inr ⟨y2,k2,i2,rfl,hy2,hh⟩) om h2
 have e1:lJ (some ⟨b,j,none⟩) cap l n=some ⟨b,j',none⟩:=by
  unfold lJ
  rw [if_neg om]
  simp only [Option.map_some,dQ]
  subst hj
  unfold Addr.add
  split
  ·rename_i h0;rw [h0];rfl
  ·rfl
 have e2:h-l=m:=om
 have e3:cap-l=c:=om
 rw [e1,e2,e3] at this
 exact this
end
section
attribute [local irreducible] SW SL SQ SH SA Pu Fin
theorem aAi{A B x y:List Value}{m:Nat}(hA:A.length=m)(hx:x.length=8)(hy:y.length=8):(A++(x++B)).take m++y++(A++(x++B)).drop (m+y.length)=A++(y++B):=by
 subst hA
 rw [dT rfl,← bR,gS rfl,gS om,bE]
theorem aJ2{A B x:List Value}{m:Nat}(hA:A.length=m)(hx:x.length=8):((A++(x++B)).drop m).take (8*1)=x:=by
 subst hA
 rw [gS rfl,dT om]
theorem aCe(d t:List Wd)(u:Wd):rl (d++u::t)=rl d++(u.lasts.map bv++rl t):=by simp [rl]
theorem aCg(d t:List Wd)(u:Wd):rn (d++u::t)=rn d++(u.now.map bv++rn t):=by simp [rn]
theorem aCi(d t:List Wd)(u:Wd):rp (d++u::t)=rp d++(.bool u.pend::rp t):=by simp [rp]
theorem aCf(d t:List Wd)(u:Wd):rm (d++u::t)=rm d++(.bool u.mark::rm t):=by simp [rm]
theorem uP(d:List Wd):(rp d).length=d.length:=by simp [rp]
theorem wG(d:List Wd):(rm d).length=d.length:=by simp [rm]
theorem wN{A B:List Value}{m:Nat}{x y:Value}(hA:A.length=m):(A++(x::B)).set m y=A++(y::B):=by
 subst hA;simp
theorem aGH(b:UInt8):((b.toNat:Int).tmod 2=1)↔((b &&& 1) == 1)=true:=by
 have h1:((b &&& 1) == 1)=true↔b.toNat%2=1:=by
  rw [beq_iff_eq,← fA,UInt8.toNat_and,UInt8.toNat_one,rA]
 rw [h1]
 have:((b.toNat:Int)).tmod 2=((b.toNat%2:Nat):Int):=by rw [vL];rfl
 rw [this];omega
def aCd(bl bn bp bm n:Nat)(d:Bool)(f:Int)(vp va:Value):Obj:=
 cl [.slice (some ⟨bl,0,none⟩) (8*n) (8*n),.slice (some ⟨bn,0,none⟩) (8*n) (8*n),.slice (some ⟨bp,0,none⟩) n n,.slice (some ⟨bm,0,none⟩) n n,.bool d,.int .i64 f,vp,va] 54
theorem aFi{p bl bn bp bm:Nat}{σ:Dv}(hO:σ.Ok)(vp va q:Value)(qs:List UInt8) :
  Tri prog 278 [.pointer (some ⟨p,0,none⟩),q]
   [(p,aCd bl bn bp bm σ.ws.length σ.down σ.fuse vp va),(bl,cl (rl σ.ws) 5),(bn,cl (rn σ.ws) 5),(bp,cl (rp σ.ws) 4),(bm,cl (rm σ.ws) 4)] (fun w=>Rd [p,bl,bn,bp,bm] w 1 q (qs.map bv))
   (fun v H'=>v=.tuple #[]∧H'=[(p,aCd bl bn bp bm (σ.crash qs).ws.length (σ.crash qs).down (σ.crash qs).fuse vp va),(bl,cl (rl (σ.crash qs).ws) 5),(bn,cl (rn (σ.crash qs).ws) 5),(bp,cl (rp (σ.crash qs).ws) 4),(bm,cl (rm (σ.crash qs).ws) 4)]):=by
 unfold aCd
 obtain⟨ws,dn,fu,pk,ak⟩:=σ
 have hn:=hO.n
 have hok:=hO.ok
 simp only at hn hok
 refine Tri.mk func278 rfl ntmps278 rfl fun w hw=>?_
 obtain⟨a,len,cap,rfl,hlen,hcap,hrd⟩:=hw
 rw [aE,Nat.mul_one] at hlen
 cases dn
 ·dsimp only
  refine W.o ?_
  refine zF (fun x:List Wd×List Wd×Nat=>[(0,.pointer (some ⟨p,0,none⟩)),(1,.slice a len cap),(4,.int .i64 x.2.2),(14,.int .i64 ws.length),(15,.int .i64 x.1.length)])
   (fun x=>[(p,aCd bl bn bp bm ws.length false fu vp va),(bl,cl (rl (x.1++x.2.1)) 5),(bn,cl (rn (x.1++x.2.1)) 5),(bp,cl (rp (x.1++x.2.1)) 4),(bm,cl (rm (x.1++x.2.1)) 4)])
   (fun x=>x.2.1.length) (fun x=>kI qs 0 ws=x.1++kI qs x.2.2 x.2.1∧x.1.length+x.2.1.length=ws.length∧x.2.2≤x.1.length∧(∀ w∈x.1++x.2.1,w.Ok))
   ([],ws,0) ⟨rfl,rfl,rfl,rfl,rfl,trivial⟩ (by dsimp only [List.nil_append,aCd];infer_instance) ⟨rfl,by simp,Nat.le_refl _,hok⟩ ?_
  rintro⟨done,todo,j⟩ ⟨hc,hl,hj,hk⟩
  dsimp only [aCd] at hc hl hj hk ⊢
  cases todo with
  | nil=>
   have hl2:done.length=ws.length:=by simpa using hl
   refine W.o ?_
   refine Fin.s0 (.inr rfl) rfl ⟨rfl,?_⟩
   simp [Dv.crash,hc,kI,hl2]
  | cons u t=>
   have hl2:done.length+(t.length+1)=ws.length:=by simpa using hl
   have hu:u.Ok:=hk u (by simp)
   rw [aCe,aCg,aCi,aCf]
   have hpg:(rp done++(.bool u.pend::rp t))[done.length]?=some (.bool u.pend):=by
    rw [aS (by rw [uP];exact Nat.le_refl _),uP];simp
   refine W.o ?_
   refine bJ (gL rfl rfl rfl om om (j':=done.length) om) rfl rfl ?_
   refine W.o ?_
   have hlp:done.length<(rp done++(Value.bool u.pend::rp t)).length:=by rw [aC,uP];simp
   have hlm:done.length<(rm done++(Value.bool u.mark::rm t)).length:=by rw [aC,wG];simp
   have hdk:∀ w∈done,w.Ok:=fun w hw=>hk w (by simp [hw])
   have hA:=aGg hdk
   have hB:=aGi hdk
   obtain⟨la,no,pe,ma⟩:=u
   dsimp only at hpg hlp hlm
   cases pe
   ·have hma:ma=false:=by
     cases ma with
     | false=>rfl
     | true=>exact absurd (hu.2 rfl) (by simp)
    subst hma
    refine W.o ?_
    refine bJ (gL rfl rfl rfl om om (j':=done.length) om) rfl rfl ?_
    refine W.o ?_
    refine bJ (gL rfl rfl rfl om om (j':=done.length) om) rfl rfl ?_
    refine W.o ?_
    rw [wN (uP done),wN (wG done)]
    refine rV.eq (done++[⟨la,no,false,false⟩],t,j) (by simp) ⟨rfl,rfl,rfl,rfl,?_,trivial⟩ ?_ ⟨?_,?_,?_,?_⟩
    ·simp [lk,pt]
    ·simp [aCe,aCg,aCi,aCf,aCd]
    ·rw [hc];simp [kI]
    ·simp;omega
    ·simp;omega
    ·simpa using hk
   ·have h8n:(no.map bv).length=8:=by simpa using hu.1.2
    have h8l:(la.map bv).length=8:=by simpa using hu.1.1
    rcases gW len with h0|h0
    ·subst h0
     have hq:qs=[]:=cE hlen
     have hbt:yE qs j=false:=by subst hq;simp [yE]
     have hLL:=hu.1.1
     refine W.o ?_
     refine mN [p] 99 kr ?_
     (refine SA.take 0 rfl kr (fun _ _ _ h=>Fin.np h) rfl rfl (eV rfl rfl) ?_;refine SA.take 1 rfl kr (fun _ _ _ h=>Fin.np h) rfl rfl (qG rfl rfl) ?_;refine SA.take 2 rfl kr (fun _ _ _ h=>Fin.np h) rfl rfl (fU rfl rfl rfl) ?_;refine SA.take 3 rfl kr (fun _ _ _ h=>Fin.np h) rfl rfl (jH rfl rfl rfl) ?_;refine SA.take 4 rfl kr (fun _ _ _ h=>Fin.np h) rfl rfl (eV rfl rfl) ?_;refine SA.take 5 rfl kr (fun _ _ _ h=>Fin.np h) rfl rfl (kG rfl rfl rfl (w64 om)) ?_;refine SA.take 6 rfl kr (fun _ _ _ h=>Fin.np h) rfl rfl (eV rfl rfl) ?_;refine SA.take 7 rfl kr (fun _ _ _ h=>Fin.np h) rfl rfl (kG rfl rfl rfl (w64 om)) ?_;refine SA.take 8 rfl kr (fun _ _ _ h=>Fin.np h) rfl rfl (sB rfl rfl rfl (w64 om)) ?_)
     refine SA.take 9 rfl kr (fun _ _ _ h=>Fin.np h) rfl rfl (mT (l:=8*done.length) (m:=8) (h:=8*done.length+8) (j':=8*done.length) (c:=8*ws.length-8*done.length) rfl rfl rfl rfl om om om om om om om) ?_
     (refine SA.take 10 rfl kr (fun _ _ _ h=>Fin.np h) rfl rfl (eV rfl rfl) ?_;refine SA.take 11 rfl kr (fun _ _ _ h=>Fin.np h) rfl rfl (qG rfl rfl) ?_;refine SA.take 12 rfl kr (fun _ _ _ h=>Fin.np h) rfl rfl (fU rfl rfl rfl) ?_;refine SA.take 13 rfl kr (fun _ _ _ h=>Fin.np h) rfl rfl (jH rfl rfl rfl) ?_;refine SA.take 14 rfl kr (fun _ _ _ h=>Fin.np h) rfl rfl (eV rfl rfl) ?_;refine SA.take 15 rfl kr (fun _ _ _ h=>Fin.np h) rfl rfl (kG rfl rfl rfl (w64 om)) ?_;refine SA.take 16 rfl kr (fun _ _ _ h=>Fin.np h) rfl rfl (eV rfl rfl) ?_;refine SA.take 17 rfl kr (fun _ _ _ h=>Fin.np h) rfl rfl (kG rfl rfl rfl (w64 om)) ?_;refine SA.take 18 rfl kr (fun _ _ _ h=>Fin.np h) rfl rfl (sB rfl rfl rfl (w64 om)) ?_)
     refine SA.take 19 rfl kr (fun _ _ _ h=>Fin.np h) rfl rfl (mT (l:=8*done.length) (m:=8) (h:=8*done.length+8) (j':=8*done.length) (c:=8*ws.length-8*done.length) rfl rfl rfl rfl om om om om om om om) ?_
     refine SA.one 20 rfl kr ?_
     refine zC (m:=8) (ys:=la.map bv) rfl rfl rfl rfl rfl (fun w2 hs=>(eR.block (m:=8) (size:=1) (hs.at (b:=bl)) (aJ2 hA h8l) (by simpa using h8l)) w2 rfl) (by rw [aC,aC];omega) (aAi hB h8n h8l) ?_
     refine iC ?_
     refine Beh.mk ?_
     refine wP kr ?_
     refine W.o ?_
     refine bJ (gL rfl rfl rfl om om (j':=done.length) om) rfl rfl ?_
     refine W.o ?_
     refine bJ (gL rfl rfl rfl om om (j':=done.length) om) rfl rfl ?_
     refine W.o ?_
     rw [wN (uP done),wN (wG done)]
     refine rV.eq (done++[⟨la,la,false,false⟩],t,j+1) (by simp) ⟨rfl,rfl,rfl,rfl,?_,trivial⟩ ?_ ⟨?_,?_,?_,?_⟩
     ·simp [lk,pt]
     ·simp [aCe,aCg,aCi,aCf,aCd]
     ·rw [hc];simp only [kI,cond_true,Wd.crash];rw [hbt];simp
     ·simp;omega
     ·simp;omega
     ·have hk2:∀ w∈t,w.Ok:=fun w hw=>hk w (by simp [hw])
      intro w hw
      simp only [cK,cT,dS,or_false] at hw
      rcases hw with (hw|rfl)|hw
      ·exact hdk w hw
      ·exact⟨⟨hLL,hLL⟩,by simp⟩
      ·exact hk2 w hw
    ·obtain⟨b,o,l,T,fz,rfl,hb,hbk,hrow⟩:=hrd.resolve_left om
     obtain⟨x,hx⟩:∃ x,qs[j%qs.length]?=some x:=⟨_,aA (Nat.mod_lt _ om)⟩
     have hlx:l[o+(j%len)*1]?=some (bv x):=by
      have:=congrArg (fun z=>z[j%len]?) hrow
      rw [bI,if_pos (by have:=Nat.mod_lt j h0;omega),bD,aH,← hlen,hx] at this
      rw [Nat.mul_one,← hlen];exact this
     refine W.o ?_
     refine bJ (aB2 rfl rfl rfl om (r:=((j%len:Nat):Int)) (by rw [vL])) rfl rfl ?_
     refine bJ (gL rfl rfl rfl om (by have:=Nat.mod_lt j h0;omega) (j':=o+(j%len)*1) (by rw [bK])) rfl rfl ?_
     refine bJ (tP rfl rfl hb hbk hlx) rfl rfl ?_
     refine bJ (aB2 rfl rfl rfl dc rfl) rfl rfl ?_
     by_cases hbit:((x &&& 1) == 1)=true
     ·have hbt:yE qs j=true:=by simp only [yE,hx,hbit]
      have hLL:=hu.1.2
      refine bJ (Pu.t (nX rfl rfl rfl) ((aGH x).2 hbit)) rfl rfl ?_
      refine W.o ?_
      refine mN [p] 99 kr ?_
      (refine SA.take 0 rfl kr (fun _ _ _ h=>Fin.np h) rfl rfl (eV rfl rfl) ?_;refine SA.take 1 rfl kr (fun _ _ _ h=>Fin.np h) rfl rfl (qG rfl rfl) ?_;refine SA.take 2 rfl kr (fun _ _ _ h=>Fin.np h) rfl rfl (fU rfl rfl rfl) ?_;refine SA.take 3 rfl kr (fun _ _ _ h=>Fin.np h) rfl rfl (jH rfl rfl rfl) ?_;refine SA.take 4 rfl kr (fun _ _ _ h=>Fin.np h) rfl rfl (eV rfl rfl) ?_;refine SA.take 5 rfl kr (fun _ _ _ h=>Fin.np h) rfl rfl (kG rfl rfl rfl (w64 om)) ?_;refine SA.take 6 rfl kr (fun _ _ _ h=>Fin.np h) rfl rfl (eV rfl rfl) ?_;refine SA.take 7 rfl kr (fun _ _ _ h=>Fin.np h) rfl rfl (kG rfl rfl rfl (w64 om)) ?_;refine SA.take 8 rfl kr (fun _ _ _ h=>Fin.np h) rfl rfl (sB rfl rfl rfl (w64 om)) ?_)
      refine SA.take 9 rfl kr (fun _ _ _ h=>Fin.np h) rfl rfl (mT (l:=8*done.length) (m:=8) (h:=8*done.length+8) (j':=8*done.length) (c:=8*ws.length-8*done.length) rfl rfl rfl rfl om om om om om om om) ?_
      (refine SA.take 10 rfl kr (fun _ _ _ h=>Fin.np h) rfl rfl (eV rfl rfl) ?_;refine SA.take 11 rfl kr (fun _ _ _ h=>Fin.np h) rfl rfl (qG rfl rfl) ?_;refine SA.take 12 rfl kr (fun _ _ _ h=>Fin.np h) rfl rfl (fU rfl rfl rfl) ?_;refine SA.take 13 rfl kr (fun _ _ _ h=>Fin.np h) rfl rfl (jH rfl rfl rfl) ?_;refine SA.take 14 rfl kr (fun _ _ _ h=>Fin.np h) rfl rfl (eV rfl rfl) ?_;refine SA.take 15 rfl kr (fun _ _ _ h=>Fin.np h) rfl rfl (kG rfl rfl rfl (w64 om)) ?_;refine SA.take 16 rfl kr (fun _ _ _ h=>Fin.np h) rfl rfl (eV rfl rfl) ?_;refine SA.take 17 rfl kr (fun _ _ _ h=>Fin.np h) rfl rfl (kG rfl rfl rfl (w64 om)) ?_;refine SA.take 18 rfl kr (fun _ _ _ h=>Fin.np h) rfl rfl (sB rfl rfl rfl (w64 om)) ?_)
      refine SA.take 19 rfl kr (fun _ _ _ h=>Fin.np h) rfl rfl (mT (l:=8*done.length) (m:=8) (h:=8*done.length+8) (j':=8*done.length) (c:=8*ws.length-8*done.length) rfl rfl rfl rfl om om om om om om om) ?_
      refine SA.one 20 rfl kr ?_
      refine zC (m:=8) (ys:=no.map bv) rfl rfl rfl rfl rfl (fun w2 hs=>(eR.block (m:=8) (size:=1) (hs.at (b:=bn)) (aJ2 hB h8n) (by simpa using h8n)) w2 rfl) (by rw [aC,aC];omega) (aAi hA h8l h8n) ?_
      refine iC ?_
      refine Beh.mk ?_
      refine wP kr ?_
      refine W.o ?_
      refine mN [p] 99 kr ?_
      (refine SA.take 0 rfl kr (fun _ _ _ h=>Fin.np h) rfl rfl (eV rfl rfl) ?_;refine SA.take 1 rfl kr (fun _ _ _ h=>Fin.np h) rfl rfl (qG rfl rfl) ?_;refine SA.take 2 rfl kr (fun _ _ _ h=>Fin.np h) rfl rfl (fU rfl rfl rfl) ?_;refine SA.take 3 rfl kr (fun _ _ _ h=>Fin.np h) rfl rfl (jH rfl rfl rfl) ?_;refine SA.take 4 rfl kr (fun _ _ _ h=>Fin.np h) rfl rfl (eV rfl rfl) ?_;refine SA.take 5 rfl kr (fun _ _ _ h=>Fin.np h) rfl rfl (kG rfl rfl rfl (w64 om)) ?_;refine SA.take 6 rfl kr (fun _ _ _ h=>Fin.np h) rfl rfl (eV rfl rfl) ?_;refine SA.take 7 rfl kr (fun _ _ _ h=>Fin.np h) rfl rfl (kG rfl rfl rfl (w64 om)) ?_;refine SA.take 8 rfl kr (fun _ _ _ h=>Fin.np h) rfl rfl (sB rfl rfl rfl (w64 om)) ?_)
      refine SA.take 9 rfl kr (fun _ _ _ h=>Fin.np h) rfl rfl (mT (l:=8*done.length) (m:=8) (h:=8*done.length+8) (j':=8*done.length) (c:=8*ws.length-8*done.length) rfl rfl rfl rfl om om om om om om om) ?_
      (refine SA.take 10 rfl kr (fun _ _ _ h=>Fin.np h) rfl rfl (eV rfl rfl) ?_;refine SA.take 11 rfl kr (fun _ _ _ h=>Fin.np h) rfl rfl (qG rfl rfl) ?_;refine SA.take 12 rfl kr (fun _ _ _ h=>Fin.np h) rfl rfl (fU rfl rfl rfl) ?_;refine SA.take 13 rfl kr (fun _ _ _ h=>Fin.np h) rfl rfl (jH rfl rfl rfl) ?_;refine SA.take 14 rfl kr (fun _ _ _ h=>Fin.np h) rfl rfl (eV rfl rfl) ?_;refine SA.take 15 rfl kr (fun _ _ _ h=>Fin.np h) rfl rfl (kG rfl rfl rfl (w64 om)) ?_;refine SA.take 16 rfl kr (fun _ _ _ h=>Fin.np h) rfl rfl (eV rfl rfl) ?_;refine SA.take 17 rfl kr (fun _ _ _ h=>Fin.np h) rfl rfl (kG rfl rfl rfl (w64 om)) ?_;refine SA.take 18 rfl kr (fun _ _ _ h=>Fin.np h) rfl rfl (sB rfl rfl rfl (w64 om)) ?_)
      refine SA.take 19 rfl kr (fun _ _ _ h=>Fin.np h) rfl rfl (mT (l:=8*done.length) (m:=8) (h:=8*done.length+8) (j':=8*done.length) (c:=8*ws.length-8*done.length) rfl rfl rfl rfl om om om om om om om) ?_
      refine SA.one 20 rfl kr ?_
      refine zC (m:=8) (ys:=no.map bv) rfl rfl rfl rfl rfl (fun w2 hs=>(eR.block (m:=8) (size:=1) (hs.at (b:=bl)) (aJ2 hA h8n) (by simpa using h8n)) w2 rfl) (by rw [aC,aC];omega) (aAi hB h8n h8n) ?_
      refine iC ?_
      refine Beh.mk ?_
      refine wP kr ?_
      refine W.o ?_
      refine bJ (gL rfl rfl rfl om om (j':=done.length) om) rfl rfl ?_
      refine W.o ?_
      refine bJ (gL rfl rfl rfl om om (j':=done.length) om) rfl rfl ?_
      refine W.o ?_
      rw [wN (uP done),wN (wG done)]
      refine rV.eq (done++[⟨no,no,false,false⟩],t,j+1) (by simp) ⟨rfl,rfl,rfl,rfl,?_,trivial⟩ ?_ ⟨?_,?_,?_,?_⟩
      ·simp [lk,pt]
      ·simp [aCe,aCg,aCi,aCf,aCd]
      ·rw [hc];simp only [kI,cond_true,Wd.crash];rw [hbt];simp
      ·simp;omega
      ·simp;omega
      ·have hk2:∀ w∈t,w.Ok:=fun w hw=>hk w (by simp [hw])
       intro w hw
       simp only [cK,cT,dS,or_false] at hw
       rcases hw with (hw|rfl)|hw
       ·exact hdk w hw
       ·exact⟨⟨hLL,hLL⟩,by simp⟩
       ·exact hk2 w hw
     ·have hbt:yE qs j=false:=by simp only [Bool.not_eq_true] at hbit;simp only [yE,hx,hbit]
      have hLL:=hu.1.1
      refine bJ (Pu.f (nX rfl rfl rfl) (fun h=>hbit ((aGH x).1 h))) rfl rfl ?_
      refine W.o ?_
      refine mN [p] 99 kr ?_
      (refine SA.take 0 rfl kr (fun _ _ _ h=>Fin.np h) rfl rfl (eV rfl rfl) ?_;refine SA.take 1 rfl kr (fun _ _ _ h=>Fin.np h) rfl rfl (qG rfl rfl) ?_;refine SA.take 2 rfl kr (fun _ _ _ h=>Fin.np h) rfl rfl (fU rfl rfl rfl) ?_;refine SA.take 3 rfl kr (fun _ _ _ h=>Fin.np h) rfl rfl (jH rfl rfl rfl) ?_;refine SA.take 4 rfl kr (fun _ _ _ h=>Fin.np h) rfl rfl (eV rfl rfl) ?_;refine SA.take 5 rfl kr (fun _ _ _ h=>Fin.np h) rfl rfl (kG rfl rfl rfl (w64 om)) ?_;refine SA.take 6 rfl kr (fun _ _ _ h=>Fin.np h) rfl rfl (eV rfl rfl) ?_;refine SA.take 7 rfl kr (fun _ _ _ h=>Fin.np h) rfl rfl (kG rfl rfl rfl (w64 om)) ?_;refine SA.take 8 rfl kr (fun _ _ _ h=>Fin.np h) rfl rfl (sB rfl rfl rfl (w64 om)) ?_)
      refine SA.take 9 rfl kr (fun _ _ _ h=>Fin.np h) rfl rfl (mT (l:=8*done.length) (m:=8) (h:=8*done.length+8) (j':=8*done.length) (c:=8*ws.length-8*done.length) rfl rfl rfl rfl om om om om om om om) ?_
      (refine SA.take 10 rfl kr (fun _ _ _ h=>Fin.np h) rfl rfl (eV rfl rfl) ?_;refine SA.take 11 rfl kr (fun _ _ _ h=>Fin.np h) rfl rfl (qG rfl rfl) ?_;refine SA.take 12 rfl kr (fun _ _ _ h=>Fin.np h) rfl rfl (fU rfl rfl rfl) ?_;refine SA.take 13 rfl kr (fun _ _ _ h=>Fin.np h) rfl rfl (jH rfl rfl rfl) ?_;refine SA.take 14 rfl kr (fun _ _ _ h=>Fin.np h) rfl rfl (eV rfl rfl) ?_;refine SA.take 15 rfl kr (fun _ _ _ h=>Fin.np h) rfl rfl (kG rfl rfl rfl (w64 om)) ?_;refine SA.take 16 rfl kr (fun _ _ _ h=>Fin.np h) rfl rfl (eV rfl rfl) ?_;refine SA.take 17 rfl kr (fun _ _ _ h=>Fin.np h) rfl rfl (kG rfl rfl rfl (w64 om)) ?_;refine SA.take 18 rfl kr (fun _ _ _ h=>Fin.np h) rfl rfl (sB rfl rfl rfl (w64 om)) ?_)
      refine SA.take 19 rfl kr (fun _ _ _ h=>Fin.np h) rfl rfl (mT (l:=8*done.length) (m:=8) (h:=8*done.length+8) (j':=8*done.length) (c:=8*ws.length-8*done.length) rfl rfl rfl rfl om om om om om om om) ?_
      refine SA.one 20 rfl kr ?_
      refine zC (m:=8) (ys:=la.map bv) rfl rfl rfl rfl rfl (fun w2 hs=>(eR.block (m:=8) (size:=1) (hs.at (b:=bl)) (aJ2 hA h8l) (by simpa using h8l)) w2 rfl) (by rw [aC,aC];omega) (aAi hB h8n h8l) ?_
      refine iC ?_
      refine Beh.mk ?_
      refine wP kr ?_
      refine W.o ?_
      refine bJ (gL rfl rfl rfl om om (j':=done.length) om) rfl rfl ?_
      refine W.o ?_
      refine bJ (gL rfl rfl rfl om om (j':=done.length) om) rfl rfl ?_
      refine W.o ?_
      rw [wN (uP done),wN (wG done)]
      refine rV.eq (done++[⟨la,la,false,false⟩],t,j+1) (by simp) ⟨rfl,rfl,rfl,rfl,?_,trivial⟩ ?_ ⟨?_,?_,?_,?_⟩
      ·simp [lk,pt]
      ·simp [aCe,aCg,aCi,aCf,aCd]
      ·rw [hc];simp only [kI,cond_true,Wd.crash];rw [hbt];simp
      ·simp;omega
      ·simp;omega
      ·have hk2:∀ w∈t,w.Ok:=fun w hw=>hk w (by simp [hw])
       intro w hw
       simp only [cK,cT,dS,or_false] at hw
       rcases hw with (hw|rfl)|hw
       ·exact hdk w hw
       ·exact⟨⟨hLL,hLL⟩,by simp⟩
       ·exact hk2 w hw
 ·dsimp only
  refine W.o ?_
  refine Fin.s0 (.inl rfl) rfl ⟨rfl,rfl⟩
theorem aD9{p:Nat}{σ:Dv}{H:Hp}(hD:lU p σ H)(hnd:σ.down=false)(k x n:Int):Tri prog 247 [.pointer (some ⟨p,0,none⟩),.int .i64 k,.int .i64 x,.int .i64 n] H (fun _=>True)
  (fun v H'=>v=.int .i64 σ.actE∧lU p (σ.act (k,x,n)) H'):=by
 obtain⟨hO,bl,bn,bp,bm,vp,va,Hq,Ha,h1,h2,rfl⟩:=hD
 have hf0:=hO.f0
 have hf1:=hO.f1
 have ha:=hO.a
 have hof:One vp:=h1.one
 obtain⟨aa,la,ca,rfl,hla⟩:=h2.form
 have hla2:la=σ.acts.length:=by rw [sM ac 3 _ (fun x _=>rfl)] at hla;omega
 subst hla2
 refine Tri.mk func247 rfl ntmps247 rfl fun w hw=>?_
 by_cases c1:σ.fuse=1
 ·have hc:=aFi (p:=p) (bl:=bl) (bn:=bn) (bp:=bp) (bm:=bm) hO vp (.slice aa σ.acts.length ca) vp σ.picks
  unfold aCd at hc
  refine W.o ?_
  refine aEA [p,bl,bn,bp,bm] rfl rfl rfl rfl hc (fun w hs=>Rd.ownB [p,bl,bn,bp,bm] h1 hs) ?_
  rintro _ _ ⟨rfl,rfl⟩
  refine W.o ?_
  have he:σ.act (k,x,n)=σ.crash σ.picks:=by simp [Dv.act,c1,Dv.crash,hnd]
  rw [he]
  exact Fin.s1 (.inl rfl) rfl rfl ⟨by simp [Dv.actE,c1],Dv.crash_ok _ hO,bl,bn,bp,bm,vp,_,Hq,Ha,by unfold Dv.crash;rw [hnd];exact h1,by unfold Dv.crash;rw [hnd];exact h2,rfl⟩
 ·by_cases c0:1<σ.fuse
  ·refine W.o ?_
   by_cases c2:σ.acts.length<16384
   ·refine W.o ?_
    refine lZ (n:=3) rfl rfl rfl rfl (by rfl) dc (by rfl) dc (fun b2=>?_)
    refine SL.append (n:=3) (m:=1) (ys:=ac (k,x,n)) Ha rfl rfl rfl rfl rfl h2 (fun w hs=>eR.block (hs.at (b:=b2)) rfl rfl) rfl rfl dc dc ?_ (fun v2 Ha2 h3=>?_)
    ·rw [hla];simp [ac];omega
    have hov:One v2:=h3.one
    refine W.o ?_
    refine Fin.rm b2 ?_
    have hl2:(σ.acts++[(k,x,n)]).flatMap ac=σ.acts.flatMap ac++ac (k,x,n):=by simp
    rw [← hl2] at h3
    have c3:0<σ.fuse:=om
    have he:σ.act (k,x,n)=({ σ with fuse:=(σ.fuse-1),acts:=σ.acts++[(k,x,n)] }:Dv):=by simp [Dv.act,Dv.push,c1,c2,c3]
    rw [he]
    exact Fin.perm cO (Fin.s1 (.inl rfl) rfl rfl ⟨by simp [Dv.actE,c1],⟨hO.n,hO.ok,by dsimp only;omega,by dsimp only;omega,by simp;omega⟩,bl,bn,bp,bm,vp,v2,Hq,Ha2,h1,h3,by rw [aJ];rfl⟩)
   ·refine W.o ?_
    have c3:0<σ.fuse:=om
    have he:σ.act (k,x,n)=({ σ with fuse:=(σ.fuse-1) }:Dv):=by simp [Dv.act,Dv.push,c1,c2,c3]
    rw [he]
    exact Fin.s1 (.inl rfl) rfl rfl ⟨by simp [Dv.actE,c1],Dv.fuse_ok _ hO om om,bl,bn,bp,bm,vp,_,Hq,Ha,h1,h2,rfl⟩
  ·refine W.o ?_
   by_cases c2:σ.acts.length<16384
   ·refine W.o ?_
    refine lZ (n:=3) rfl rfl rfl rfl (by rfl) dc (by rfl) dc (fun b2=>?_)
    refine SL.append (n:=3) (m:=1) (ys:=ac (k,x,n)) Ha rfl rfl rfl rfl rfl h2 (fun w hs=>eR.block (hs.at (b:=b2)) rfl rfl) rfl rfl dc dc ?_ (fun v2 Ha2 h3=>?_)
    ·rw [hla];simp [ac];omega
    have hov:One v2:=h3.one
    refine W.o ?_
    refine Fin.rm b2 ?_
    have hl2:(σ.acts++[(k,x,n)]).flatMap ac=σ.acts.flatMap ac++ac (k,x,n):=by simp
    rw [← hl2] at h3
    have c3:¬ 0<σ.fuse:=om
    have he:σ.act (k,x,n)=({ σ with fuse:=σ.fuse,acts:=σ.acts++[(k,x,n)] }:Dv):=by simp [Dv.act,Dv.push,c2,c3]
    rw [he]
    exact Fin.perm cO (Fin.s1 (.inl rfl) rfl rfl ⟨by simp [Dv.actE,c1],⟨hO.n,hO.ok,by dsimp only;omega,by dsimp only;omega,by simp;omega⟩,bl,bn,bp,bm,vp,v2,Hq,Ha2,h1,h3,by rw [aJ];rfl⟩)
   ·refine W.o ?_
    have c3:¬ 0<σ.fuse:=om
    have he:σ.act (k,x,n)=({ σ with fuse:=σ.fuse }:Dv):=by simp [Dv.act,Dv.push,c2,c3]
    rw [he]
    exact Fin.s1 (.inl rfl) rfl rfl ⟨by simp [Dv.actE,c1],Dv.fuse_ok _ hO om om,bl,bn,bp,bm,vp,_,Hq,Ha,h1,h2,rfl⟩
theorem aNN{p:Nat}{σ:Dv}{H:Hp}(hD:lU p σ H):Tri prog 249 [.pointer (some ⟨p,0,none⟩)] H (fun _=>True) (fun v H'=>v=.int .i64 σ.dooE∧lU p σ.doo H'):=by
 have hr:=wJ hD 0 0
 rw [Dv.rdy00] at hr
 refine Tri.mk func249 rfl ntmps249 rfl fun w hw=>?_
 by_cases hd:σ.down=true
 ·rw [if_pos hd] at hr
  repeat' (first|(refine wQ ?_;refine aBy rfl rfl ?_)|(refine uB ?_;((refine qK _ rfl rfl rfl rfl hr (fun _ _=>trivial) ?_;rintro _ _ ⟨rfl,rfl⟩)))|(refine W.ow ?_;try intro b_)  | refine eL (qE rfl rfl rfl) rfl rfl (fun h_=>?_) (fun h_=>?_)|refine eL (qD rfl rfl rfl) rfl rfl (fun h_=>?_) (fun h_=>?_)|refine eL (qC rfl rfl rfl) rfl rfl (fun h_=>?_) (fun h_=>?_)|refine eL (qB rfl rfl rfl) rfl rfl (fun h_=>?_) (fun h_=>?_)|refine eL (nX rfl rfl rfl) rfl rfl (fun h_=>?_) (fun h_=>?_)|refine eL (qF rfl rfl rfl) rfl rfl (fun h_=>?_) (fun h_=>?_)|refine lC rfl (fun h_=>?_) (fun h_=>?_))
  rw [aJ]
  exact Fin.s1 (.inl rfl) rfl rfl ⟨by simp [Dv.dooE,hd],by simpa [Dv.doo,hd] using hD⟩
 ·rw [if_neg hd] at hr
  have ha:=aD9 hD (by simpa using hd) 4 0 0
  refine W.o ?_
  refine qK _ rfl rfl rfl rfl hr (fun _ _=>trivial) ?_
  rintro _ _ ⟨rfl,rfl⟩
  refine W.o ?_
  refine qK _ rfl rfl rfl rfl ha (fun _ _=>trivial) ?_
  rintro _ _ ⟨rfl,hD2⟩
  refine W.o ?_
  rw [aJ]
  exact Fin.s1 (.inl rfl) rfl rfl ⟨by simp [Dv.dooE,hd],by simpa [Dv.doo,hd] using hD2⟩
theorem aNU(n:Int)(m:Nat)(hnm:n=m∨n<0∧m=0)(hm:m≤1024):Tri prog 47 [.int .i64 n] [] (fun _=>True) (fun v H'=>∃ p,v=.pointer (some ⟨p,0,none⟩)∧lU p (Dv.new m) H'):=by
 refine Tri.mk func47 rfl ntmps47 rfl fun w hw=>?_
 rcases hnm with rfl|⟨hneg,rfl⟩
 ·refine W.o ?_
  refine mN [] 99 kr ?_
  (refine SA.take 0 rfl kr (fun _ _ _ h=>Fin.np h) rfl rfl (eV rfl rfl) ?_;refine SA.take 1 rfl kr (fun _ _ _ h=>Fin.np h) rfl rfl (kG rfl rfl rfl (w64 om)) ?_;refine SA.take 3 rfl kr (fun _ _ _ h=>Fin.np h) rfl rfl (eV rfl rfl) ?_;refine SA.take 4 rfl kr (fun _ _ _ h=>Fin.np h) rfl rfl (kG rfl rfl rfl (w64 om)) ?_;refine SA.take 6 rfl kr (fun _ _ _ h=>Fin.np h) rfl rfl (eV rfl rfl) ?_;refine SA.take 7 rfl kr (fun _ _ _ h=>Fin.np h) rfl rfl (kG rfl rfl rfl (w64 om)) ?_;refine SA.take 9 rfl kr (fun _ _ _ h=>Fin.np h) rfl rfl (eV rfl rfl) ?_;refine SA.take 10 rfl kr (fun _ _ _ h=>Fin.np h) rfl rfl (kG rfl rfl rfl (w64 om)) ?_)
  refine aAm (fuel:=3) [(8,.int .i64 (64*m)),(11,.int .i64 (64*m)),(14,.int .i64 (8*m)),(17,.int .i64 (8*m))] 4
   [⟨2,9,fun b=>.slice (some ⟨b,0,none⟩) (64*m) (64*m),cl (zs [.int .u8 0] (64*m)) 5⟩,⟨5,12,fun b=>.slice (some ⟨b,0,none⟩) (64*m) (64*m),cl (zs [.int .u8 0] (64*m)) 5⟩,
    ⟨8,15,fun b=>.slice (some ⟨b,0,none⟩) (8*m) (8*m),cl (zs [.bool false] (8*m)) 4⟩,⟨11,18,fun b=>.slice (some ⟨b,0,none⟩) (8*m) (8*m),cl (zs [.bool false] (8*m)) 4⟩] [] _ _ _ rfl (by simp) (by simp) (by simp) (by simp) kr trivial ⟨rfl,rfl,rfl,rfl,trivial⟩ ⟨_,List.Perm.refl _⟩ ?_ ?_
  ·intro x hx
   simp only [cT,dS,or_false] at hx
   rcases hx with rfl|rfl|rfl|rfl
   ·exact⟨_,rfl,fun K ρ H hs hk=>SL.make (n:=1) (l:=64*m) (c:=64*m) rfl rfl rfl hs.1 hs.1 om om (by rfl) dc (Nat.le_refl _) om dc fun b=>iC (hk b)⟩
   ·exact⟨_,rfl,fun K ρ H hs hk=>SL.make (n:=1) (l:=64*m) (c:=64*m) rfl rfl rfl hs.2.1 hs.2.1 om om (by rfl) dc (Nat.le_refl _) om dc fun b=>iC (hk b)⟩
   ·exact⟨_,rfl,fun K ρ H hs hk=>SL.make (n:=1) (l:=8*m) (c:=8*m) rfl rfl rfl hs.2.2.1 hs.2.2.1 om om (by rfl) dc (Nat.le_refl _) om dc fun b=>iC (hk b)⟩
   ·exact⟨_,rfl,fun K ρ H hs hk=>SL.make (n:=1) (l:=8*m) (c:=8*m) rfl rfl rfl hs.2.2.2.1 hs.2.2.2.1 om om (by rfl) dc (Nat.le_refl _) om dc fun b=>iC (hk b)⟩
  ·intro f ρ' H' _ hf hp
   simp only [cT,dS,or_false,forall_eq_or_imp,forall_eq] at hf
   obtain⟨f1,f2,f3,f4⟩:=hf
   simp only [dO,jB,eY,List.nil_append] at hp
   refine aCM [(9,.slice (some ⟨f 2,0,none⟩) (64*m) (64*m)),(12,.slice (some ⟨f 5,0,none⟩) (64*m) (64*m)),(15,.slice (some ⟨f 8,0,none⟩) (8*m) (8*m)),(18,.slice (some ⟨f 11,0,none⟩) (8*m) (8*m))] _ ⟨f1,f2,f3,f4,trivial⟩ hp ?_
   refine SA.one 12 rfl kr ?_
   refine W.o ?_
   refine Beh.mk ?_
   refine SA.one 13 rfl kr ?_
   refine W.o fun b_=>?_
   refine Beh.mk ?_
   refine SA.one 14 rfl kr ?_
   refine W.o ?_
   refine Beh.mk ?_
   refine wP kr ?_
   refine W.o ?_
   refine Fin.s1 (.inl rfl) rfl rfl ⟨b_,rfl,Dv.new_ok m,f 2,f 5,f 8,f 11,_,_,[],[],Sl.nil _ _,Sl.nil _ _,?_⟩
   have hz:(Dv.new m).ws.length=8*m:=by simp [Dv.new];omega
   have hz2:(Dv.new m).len=64*m:=by rw [Dv.len,hz];omega
   have hws:(Dv.new m).ws=List.replicate (8*m) Wd.zero:=by simp only [Dv.new];congr 1;omega
   have e8:∀ (n:Nat) (v:Value),(List.replicate n (List.replicate 8 v)).flatten=List.replicate (8*n) v:=fun n v=>by rw [List.flatten_replicate_replicate];congr 1;omega
   have h1:rl (Dv.new m).ws=zs [.int .u8 0] (64*m):=by
    rw [hws,lK,rl,gE,dX]
    show (List.replicate (8*m) (List.replicate 8 (Value.int .u8 0))).flatten=_
    rw [e8];congr 1;omega
   have h2:rn (Dv.new m).ws=zs [.int .u8 0] (64*m):=by
    rw [hws,lK,rn,gE,dX]
    show (List.replicate (8*m) (List.replicate 8 (Value.int .u8 0))).flatten=_
    rw [e8];congr 1;omega
   have h3:rp (Dv.new m).ws=zs [.bool false] (8*m):=by rw [hws,lK,rp,dX];rfl
   have h4:rm (Dv.new m).ws=zs [.bool false] (8*m):=by rw [hws,lK,rm,dX];rfl
   rw [hz2,hz,h1,h2,h3,h4]
   rfl
 ·obtain⟨m,hm0⟩:∃ m:Nat,m=0:=⟨0,rfl⟩
  rw [show (Dv.new ((0:Nat):Int))=Dv.new (m:Int) by rw [hm0]]
  have hm:m≤1024:=om
  refine W.o ?_
  refine aAr (r:=[(0,.int .i64 m)]) ⟨by rw [hm0];rfl,trivial⟩ (fI.nil _) ?_
  refine mN [] 99 kr ?_
  (refine SA.take 0 rfl kr (fun _ _ _ h=>Fin.np h) rfl rfl (eV rfl rfl) ?_;refine SA.take 1 rfl kr (fun _ _ _ h=>Fin.np h) rfl rfl (kG rfl rfl rfl (w64 om)) ?_;refine SA.take 3 rfl kr (fun _ _ _ h=>Fin.np h) rfl rfl (eV rfl rfl) ?_;refine SA.take 4 rfl kr (fun _ _ _ h=>Fin.np h) rfl rfl (kG rfl rfl rfl (w64 om)) ?_;refine SA.take 6 rfl kr (fun _ _ _ h=>Fin.np h) rfl rfl (eV rfl rfl) ?_;refine SA.take 7 rfl kr (fun _ _ _ h=>Fin.np h) rfl rfl (kG rfl rfl rfl (w64 om)) ?_;refine SA.take 9 rfl kr (fun _ _ _ h=>Fin.np h) rfl rfl (eV rfl rfl) ?_;refine SA.take 10 rfl kr (fun _ _ _ h=>Fin.np h) rfl rfl (kG rfl rfl rfl (w64 om)) ?_)
  refine aAm (fuel:=3) [(8,.int .i64 (64*m)),(11,.int .i64 (64*m)),(14,.int .i64 (8*m)),(17,.int .i64 (8*m))] 4
   [⟨2,9,fun b=>.slice (some ⟨b,0,none⟩) (64*m) (64*m),cl (zs [.int .u8 0] (64*m)) 5⟩,⟨5,12,fun b=>.slice (some ⟨b,0,none⟩) (64*m) (64*m),cl (zs [.int .u8 0] (64*m)) 5⟩,
    ⟨8,15,fun b=>.slice (some ⟨b,0,none⟩) (8*m) (8*m),cl (zs [.bool false] (8*m)) 4⟩,⟨11,18,fun b=>.slice (some ⟨b,0,none⟩) (8*m) (8*m),cl (zs [.bool false] (8*m)) 4⟩] [] _ _ _ rfl (by simp) (by simp) (by simp) (by simp) kr trivial ⟨rfl,rfl,rfl,rfl,trivial⟩ ⟨_,List.Perm.refl _⟩ ?_ ?_
  ·intro x hx
   simp only [cT,dS,or_false] at hx
   rcases hx with rfl|rfl|rfl|rfl
   ·exact⟨_,rfl,fun K ρ H hs hk=>SL.make (n:=1) (l:=64*m) (c:=64*m) rfl rfl rfl hs.1 hs.1 om om (by rfl) dc (Nat.le_refl _) om dc fun b=>iC (hk b)⟩
   ·exact⟨_,rfl,fun K ρ H hs hk=>SL.make (n:=1) (l:=64*m) (c:=64*m) rfl rfl rfl hs.2.1 hs.2.1 om om (by rfl) dc (Nat.le_refl _) om dc fun b=>iC (hk b)⟩
   ·exact⟨_,rfl,fun K ρ H hs hk=>SL.make (n:=1) (l:=8*m) (c:=8*m) rfl rfl rfl hs.2.2.1 hs.2.2.1 om om (by rfl) dc (Nat.le_refl _) om dc fun b=>iC (hk b)⟩
   ·exact⟨_,rfl,fun K ρ H hs hk=>SL.make (n:=1) (l:=8*m) (c:=8*m) rfl rfl rfl hs.2.2.2.1 hs.2.2.2.1 om om (by rfl) dc (Nat.le_refl _) om dc fun b=>iC (hk b)⟩
  ·intro f ρ' H' _ hf hp
   simp only [cT,dS,or_false,forall_eq_or_imp,forall_eq] at hf
   obtain⟨f1,f2,f3,f4⟩:=hf
   simp only [dO,jB,eY,List.nil_append] at hp
   refine aCM [(9,.slice (some ⟨f 2,0,none⟩) (64*m) (64*m)),(12,.slice (some ⟨f 5,0,none⟩) (64*m) (64*m)),(15,.slice (some ⟨f 8,0,none⟩) (8*m) (8*m)),(18,.slice (some ⟨f 11,0,none⟩) (8*m) (8*m))] _ ⟨f1,f2,f3,f4,trivial⟩ hp ?_
   refine SA.one 12 rfl kr ?_
   refine W.o ?_
   refine Beh.mk ?_
   refine SA.one 13 rfl kr ?_
   refine W.o fun b_=>?_
   refine Beh.mk ?_
   refine SA.one 14 rfl kr ?_
   refine W.o ?_
   refine Beh.mk ?_
   refine wP kr ?_
   refine W.o ?_
   refine Fin.s1 (.inl rfl) rfl rfl ⟨b_,rfl,Dv.new_ok m,f 2,f 5,f 8,f 11,_,_,[],[],Sl.nil _ _,Sl.nil _ _,?_⟩
   have hz:(Dv.new m).ws.length=8*m:=by simp [Dv.new];omega
   have hz2:(Dv.new m).len=64*m:=by rw [Dv.len,hz];omega
   have hws:(Dv.new m).ws=List.replicate (8*m) Wd.zero:=by simp only [Dv.new];congr 1;omega
   have e8:∀ (n:Nat) (v:Value),(List.replicate n (List.replicate 8 v)).flatten=List.replicate (8*n) v:=fun n v=>by rw [List.flatten_replicate_replicate];congr 1;omega
   have h1:rl (Dv.new m).ws=zs [.int .u8 0] (64*m):=by
    rw [hws,lK,rl,gE,dX]
    show (List.replicate (8*m) (List.replicate 8 (Value.int .u8 0))).flatten=_
    rw [e8];congr 1;omega
   have h2:rn (Dv.new m).ws=zs [.int .u8 0] (64*m):=by
    rw [hws,lK,rn,gE,dX]
    show (List.replicate (8*m) (List.replicate 8 (Value.int .u8 0))).flatten=_
    rw [e8];congr 1;omega
   have h3:rp (Dv.new m).ws=zs [.bool false] (8*m):=by rw [hws,lK,rp,dX];rfl
   have h4:rm (Dv.new m).ws=zs [.bool false] (8*m):=by rw [hws,lK,rm,dX];rfl
   rw [hz2,hz,h1,h2,h3,h4]
   rfl
theorem aNV(m:Nat)(hm:m≤1024):Tri prog 47 [.int .i64 m] [] (fun _=>True) (fun v H'=>∃ p,v=.pointer (some ⟨p,0,none⟩)∧lU p (Dv.new m) H'):=aNU m m (.inl rfl) hm
end
section
attribute [local irreducible] SW SL SQ SH SA SS Pu Fin bZ aT
theorem aN3(c:Nat):Tri prog 44 [.pointer (some ⟨c,0,none⟩)] [] (fun _=>True) (fun v H=>∃ s m,v=.pointer (some ⟨s,0,none⟩)∧H=[(s,cl [.pointer (some ⟨c,0,none⟩),.map (some m),.slice none 0 0] 229),(m,mo [])]):=by
 refine Tri.mk func44 rfl ntmps44 rfl fun w hw=>?_
 have hb:∀ m:Nat,bQ (fun i=>[(0,1),(1,1),(2,1)][i]?) [.pointer none,.map none,.slice none 0 0] [(0,.pointer (some ⟨c,0,none⟩)),(1,.map (some m))]=some [.pointer (some ⟨c,0,none⟩),.map (some m),.slice none 0 0]:=fun m=>rfl
 refine W.k ?_
 refine aIz fun m=>?_
 have hbm:=hb m
 refine W.k fun b_=>?_
 refine Fin.to [(b_,cl [.pointer (some ⟨c,0,none⟩),.map (some m),.slice none 0 0] 229),(m,mo [])] ?_
 exact F.f1 ⟨b_,m,rfl,rfl⟩
def rg0(cnt:Int):Rg:=⟨cnt,List.replicate 32 0⟩
theorem aJ0{cnt:Int}(h0:0≤cnt)(h1:cnt≤18446744073709551615):(rg0 cnt).Ok:=⟨rfl,h0,h1⟩
def aL2(pp p t:Nat)(k:List UInt8)(cnt:Int)(H:Hp):Prop:=
 ∃ d tr s m bk tb c b rd rtr rs rc Hd Hb Hc HD HR,iQ d (Dv.new (4*Gm.total p t:Nat)) Hd∧fR bk tb Bk.new Hb∧aDr c b (k.length/4+6) (Aes.sched k) Hc∧lU rd (Dv.new (4*Gm.total p t:Nat)) HD∧aEo rc (k.length/4+6) (Rg.sched k) HR ∧
  H=(pp,cl [ptv d,ptv tr,ptv s,ptv bk,.int .i64 (p:Int),.int .i64 (t:Int),.pointer none,ptv rd,ptv rtr,ptv rs,.int .i64 (p:Int),.int .i64 (t:Int),.pointer none] 43) ::
   (tr,cl (trc d (rg0 cnt)) 225)::(s,cl [ptv c,.map (some m),.slice none 0 0] 229)::(m,mo [])::(b,gI) ::
   (rtr,cl (rgc (rg0 cnt)++[ptv rd]) 128)::(rs,cl [ptv rc,.slice none 0 0,.bool false,.int .u64 0,.int .i64 0,.slice none 0 0] 135) ::
   (Hd++(Hb++(Hc++(HD++HR))))
theorem aKU{p t:Nat}(h:Gm.Ok p t)(k:List UInt8)(hk:k.length=16){cnt:Int}(h0:0≤cnt)(h1:cnt≤18446744073709551615):Tri prog 9 [iX p t,.agg (cbs k).toArray,.int .u64 cnt] [] (fun _=>True)
  (fun v H=>∃ pp,v=ptv pp∧aL2 pp p t k cnt H):=by
 refine Tri.mk func9 rfl ntmps9 rfl fun w hw=>?_
 have hall:=aAa h
 have htot:=Gm.total_le2 h
 have hpl:=pD (Gm.all p t)
 rw [Gm.all_len] at hpl
 unfold aL2
 generalize Gm.total p t=n at *
 refine W.k fun _ b_=>?_
 refine aL hall ?_
 rintro v1 H1 ⟨Hs,hS,rfl⟩
 obtain⟨a,len,cap,rfl,hl1⟩:=hS.form
 have hl2:len=n:=om
 subst hl2
 refine W.k ?_
 rw [show (4:Int)*(len:Int)=((4*len:Nat):Int) by omega]
 (refine aL4 [] [] ?_;refine dL 1 rfl (xQ rfl rfl) ?_;refine aX 0 ?_)
 refine aL aJp ?_
 rintro _ _ ⟨b,rfl,rfl⟩
 (refine bO [] ?_;refine aX 2 ?_)
 rename_i bg
 refine aL (aMK (b:=b) (len:=16) (cap:=16) k (.inl hk)) ?_ (hpre:=fun w2 hs=>Rd.atB (Hc:=[(b,gI)]) (T:=27) (fz:=(0,0)) k hs hk (Nat.le_refl _))
 rintro _ _ ⟨c,Hc,rfl,hC,rfl⟩
 (refine SL.l [3,4,5,6,7,8] ?_)
 refine W.k ?_
 refine aL (aNm ((4*len:Nat):Int)) ?_
 rintro _ Hd ⟨d,rfl,hD⟩
 refine W.k ?_
 (refine SW.l [12] [0,1,2,3,5,9] ?_;refine aX 4 ?_)
 refine aL (aO7 d (rg0 cnt) (aJ0 h0 h1)) ?_
 rintro _ _ ⟨tr,rfl,rfl⟩
 (refine bO [] ?_;refine aX 6 ?_)
 refine aL (aN3 c) ?_
 rintro _ _ ⟨s,m,rfl,rfl⟩
 (refine bO [] ?_;refine aX 7 ?_)
 refine aL aNi ?_
 rintro _ _ ⟨tb,rfl,rfl⟩
 (refine bO [] ?_;refine aX 8 ?_)
 refine aL (aMo tb) ?_
 rintro _ Hb ⟨bk,rfl,hB⟩
 have hb41:bQ (fun i=>[(0,1),(1,1),(2,1),(3,1),(4,2)][i]?) [.pointer none,.pointer none,.pointer none,.pointer none,.int .i64 0,.int .i64 0] [(0,ptv d),(1,ptv tr),(2,ptv s),(3,ptv bk),(4,iX p t)]=some [ptv d,ptv tr,ptv s,ptv bk,.int .i64 (p:Int),.int .i64 (t:Int)]:=rfl
 have hb56:bQ (fun i=>[(0,6),(6,1),(7,5),(12,1)][i]?) (List.replicate 4 (.pointer none)++[.int .i64 0,.int .i64 0]++List.replicate 4 (.pointer none)++[.int .i64 0,.int .i64 0]++[.pointer none]) [(0,.agg [ptv d,ptv tr,ptv s,ptv bk,.int .i64 (p:Int),.int .i64 (t:Int)].toArray)]=some [ptv d,ptv tr,ptv s,ptv bk,.int .i64 (p:Int),.int .i64 (t:Int),.pointer none,.pointer none,.pointer none,.pointer none,.int .i64 0,.int .i64 0,.pointer none]:=rfl
 (refine SL.l [10,11] ?_;refine cB 12 ?_;refine W.i fun b_=>?_;refine SG.l [13,14] ?_)
 rename_i bk4
 clear hb41 hb56
 refine aGx [2,3,4,7,11] ?_
 refine W.k ?_
 refine aL (aNV (4*len) om) ?_
 rintro _ HD ⟨rd,rfl,hDR⟩
 have hb97:bQ (fun i=>[(0,1),(1,32)][i]?) ([.int .u64 0]++List.replicate 32 (.int .u8 0)) [(0,.int .u64 cnt)]=some (rgc (rg0 cnt)):=rfl
 have hb101:bQ (fun i=>[(0,33),(33,1)][i]?) ([.int .u64 0]++List.replicate 32 (.int .u8 0)++[.pointer none]) [(0,.agg (rgc (rg0 cnt)).toArray),(1,ptv rd)]=some (rgc (rg0 cnt)++[ptv rd]):=rfl
 have hb108:∀ rc,bQ (fun i=>[(0,1),(1,1),(2,1),(3,3)][i]?) [.pointer none,.slice none 0 0,.bool false,.int .u64 0,.int .i64 0,.slice none 0 0] [(0,ptv rc)]=some [ptv rc,.slice none 0 0,.bool false,.int .u64 0,.int .i64 0,.slice none 0 0]:=fun rc=>rfl
 have hb53:∀ rtr rs,bQ (fun i=>[(0,1),(1,1),(2,1),(3,2)][i]?) [.pointer none,.pointer none,.pointer none,.int .i64 0,.int .i64 0] [(0,ptv rd),(1,ptv rtr),(2,ptv rs),(3,iX p t)]=some [ptv rd,ptv rtr,ptv rs,.int .i64 (p:Int),.int .i64 (t:Int)]:=fun _ _=>rfl
 refine W.k ?_
 (refine SW.l [15] [0,1,2,3,4,5] ?_;refine dL 7 rfl (xQ rfl rfl) ?_;refine SG.l [11] ?_;skip )
 refine fX 6 8 ?a ?b rfl rfl
 case' a=>
  refine xK fun rtr=>?_
  refine cU ?_
  refine aX 8 ?_
  refine aL (aHe (len:=16) (cap:=16) k (.inl hk)) ?_ (hpre:=fun w2 hs=>Rd.atB (Hc:=[]) (T:=27) (fz:=(0,0)) k hs hk (Nat.le_refl _))
  rintro _ HR ⟨rc,rfl,hR⟩
  have hbrc:=hb108 rc
  refine cU ?_
  refine dL 9 rfl (mH rfl rfl hbrc) ?_
  refine aX 10 ?_
  refine xK fun rs=>?_
 case' b=>
  refine aL (aHe (len:=16) (cap:=16) k (.inl hk)) ?_ (hpre:=fun w2 hs=>Rd.atB (Hc:=[]) (T:=27) (fz:=(0,0)) k hs hk (Nat.le_refl _))
  rintro _ HR ⟨rc,rfl,hR⟩
  have hbrc:=hb108 rc
  refine cU ?_
  refine dL 9 rfl (mH rfl rfl hbrc) ?_
  refine fX 6 10 ?c ?d rfl rfl
  case' c=>
   refine xK fun rtr=>?_
   refine cU ?_
   refine aX 10 ?_
   refine xK fun rs=>?_
  case' d=>
   refine xK fun rs=>?_
   refine cU ?_
   refine aX 6 ?_
   refine xK fun rtr=>?_
 all_goals
  (refine bO [] ?_;refine dL 12 rfl (mH rfl rfl (hb53 rtr rs)) ?_;refine SG.l [13,14] ?_;refine cB 15 ?_;refine W.i ?_;refine eI ?_)
  rw [show List.take 7 ([ptv d,ptv tr,ptv s,ptv bk,.int .i64 (p:Int),.int .i64 (t:Int),.pointer none,.pointer none,.pointer none,.pointer none,.int .i64 0,.int .i64 0,.pointer none]:List Value)++[ptv rd,ptv rtr,ptv rs,.int .i64 (p:Int),.int .i64 (t:Int)]++List.drop (7+5) ([ptv d,ptv tr,ptv s,ptv bk,.int .i64 (p:Int),.int .i64 (t:Int),.pointer none,.pointer none,.pointer none,.pointer none,.int .i64 0,.int .i64 0,.pointer none]:List Value)=[ptv d,ptv tr,ptv s,ptv bk,.int .i64 (p:Int),.int .i64 (t:Int),.pointer none,ptv rd,ptv rtr,ptv rs,.int .i64 (p:Int),.int .i64 (t:Int),.pointer none] from rfl]
  refine W.k ?_
  refine Fin.to ((b_,cl [ptv d,ptv tr,ptv s,ptv bk,.int .i64 (p:Int),.int .i64 (t:Int),.pointer none,ptv rd,ptv rtr,ptv rs,.int .i64 (p:Int),.int .i64 (t:Int),.pointer none] 43) ::
   (tr,cl (trc d (rg0 cnt)) 225)::(s,cl [ptv c,.map (some m),.slice none 0 0] 229)::(m,mo [])::(b,gI) ::
   (rtr,cl (rgc (rg0 cnt)++[ptv rd]) 128)::(rs,cl [ptv rc,.slice none 0 0,.bool false,.int .u64 0,.int .i64 0,.slice none 0 0] 135) ::
   (Hd++(Hb++(Hc++(HD++HR))))) ?_
  refine F.f1 ⟨b_,rfl,?_⟩
  exact⟨d,tr,s,m,bk,tb,c,b,rd,rtr,rs,rc,Hd,Hb,Hc,HD,HR,hD,hB,hC,hDR,hR,rfl⟩
abbrev xL(d tr s bk p t:Nat):Value:=.agg #[ptv d,ptv tr,ptv s,ptv bk,.int .i64 (p:Int),.int .i64 (t:Int)]
def Dv.blk(σ:Dv)(k:Nat):List UInt8:=σ.loadB (256*k:Nat) 256
end
section
attribute [local irreducible] SW SL SQ SH SA SS Pu Fin
def rtc(e:Nat)(r:Rg):List Value:=rgc r++[.pointer (some ⟨e,0,none⟩)]
theorem aId(e:Nat){r:Rg}(h:r.Ok):((rtc e r).drop 0).take 33=rgc r∧(rgc r).length=33∧(rtc e r)[33]?=some (.pointer (some ⟨e,0,none⟩))∧(rtc e r)[0]?=some (.int .u64 r.c)∧(rtc e r).length=34∧((rtc e r).drop 1).take 32=r.root.map bv:=by
 have hl:=pE h
 refine⟨?_,hl,?_,rfl,by simp [rtc,hl],?_⟩
 ·rw [rtc,bH,dT hl]
 ·rw [rtc,aS om,hl];rfl
 ·show ((r.root.map bv++_).take 32)=_
  rw [dT (by simpa using h.len)]
theorem aLL(e:Nat){r r':Rg}(h:r.Ok)(h':r'.Ok):(rtc e r).take 0++rgc r'++(rtc e r).drop (0+33)=rtc e r':=by
 rw [rtc,cQ,List.nil_append,gS (by rw [pE h])];rfl
theorem aJ4(tp p:Nat)(r r':Rg)(h:r.Ok)(h':r'.Ok){σ:Dv}{H:Hp}(hD:lU p σ H):Tri prog 203 [.pointer (some ⟨tp,0,none⟩),.agg (rgc r').toArray] ((tp,cl (rtc p r) 128)::H) (fun _=>True)
  (fun v H'=>v=.int .i64 (vJ σ r r')∧∃ H2,H'=(tp,cl (rtc p (rT σ r r')) 128)::H2∧lU p (vI σ r r') H2):=by
 obtain⟨f1,f2,f3,f4,f5,f6⟩:=aId p h
 have hl':=pE h'
 have hr':((rgc r').drop 0).take 33=rgc r':=by rw [bH,aB om]
 have fp:=aLL p h h'
 have hdo:=aNN hD
 have hD2:=hD
 have b1:0+33≤(rtc p r).length:=om
 obtain⟨hO,bl,bn,bp,bm,vp,va,Hq,Ha,h1,h2,rfl⟩:=hD2
 refine Tri.mk func203 rfl ntmps203 rfl fun w hw=>?_
 refine W.k fun b_=>?_
 cases hd:σ.down
 ·rw [hd] at hdo
  refine W.k ?_
  (refine SW.l [] [0,1,2,3,4,5,6] ?_;(first|refine dL 7 rfl (Pu.t (tO rfl rfl rfl rfl) (by dsimp only [rD];first|done|omega)) ?_|refine dL 7 rfl (Pu.f (tO rfl rfl rfl rfl) (by dsimp only [rD];first|done|omega)) ?_|refine dL 7 rfl (tO rfl rfl rfl rfl) ?_|refine dL 7 rfl (aMf rfl rfl rfl) ?_);refine eI ?_)
  repeat' (first|(refine W.go ?_;try intro b_)  | (refine W.cs (fun h_=>?_) (fun h_=>?_) <;> dsimp only [rD] at h_)|(refine aCS rfl (fun h_=>?_) (fun h_=>?_) <;> (try dsimp only [rD] at h_))|refine lC rfl (fun h_=>?_) (fun h_=>?_))
  ·refine Fin.rm b_ ?_
   refine F.f1 ?_
   exact⟨by simp [vJ,hd,h_],_,by simp [rT,hd,h_];rfl,by simpa [vI,hd,h_] using hD⟩
  ·refine aL hdo ?_
   rintro _ H2 ⟨rfl,hD2⟩
   have hD3:lU p (vI σ r r') H2:=by simpa [vI,hd,h_] using hD2
   by_cases he:σ.dooE=0
   ·refine W.k ?_
    refine Fin.rm b_ ?_;rw [fp];refine Fin.perm cO ?_;refine F.f1 ?_;exact⟨by simp [vJ,hd,h_,he],H2,by simp [rT,hd,h_,he],hD3⟩
   ·refine W.k ?_
    refine Fin.rm b_ ?_;refine Fin.perm cO ?_;refine F.f1 ?_;exact⟨by simp [vJ,hd,h_],H2,by simp [rT,hd,h_,he],hD3⟩
 ·rw [hd] at hdo
  refine W.k ?_
  refine Fin.rm b_ ?_;refine F.f1 ?_;exact⟨by simp [vJ,hd],_,by simp [rT,hd];rfl,by simpa [vI,hd] using hD⟩
end
end Go.Proofs.YtnigolgkkjidiaaGreat
