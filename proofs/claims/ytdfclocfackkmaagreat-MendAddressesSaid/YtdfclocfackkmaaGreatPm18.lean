/- The document's own device: its model. -/
import Derived.Test.YtdfclocfackkmaaGreatPm17
import Derived.Test.YtdfclocfackkmaaGreatPm15
import Derived.Test.YtdfclocfackkmaaGreatPm16
set_option linter.unusedVariables false
set_option linter.unusedSimpArgs false
set_option linter.unusedSectionVars false
set_option maxHeartbeats 1600000
namespace Go.Proofs.YtdfclocfackkmaaGreat
open Go Go.Proofs.Tryz
section
attribute [local irreducible] SW SL SQ SH SA Pu Fin
def rl(ws:List Wd):LV:=ws.flatMap fun w=>w.lasts.map bv
def rn(ws:List Wd):LV:=ws.flatMap fun w=>w.now.map bv
def rp(ws:List Wd):LV:=ws.map fun w=>.bool w.pend
def rm(ws:List Wd):LV:=ws.map fun w=>.bool w.mark
theorem aET{ws:List Wd}(h:∀ w∈ws,w.Ok):(rn ws).length=8*ws.length:=by rw [rn,lX _ 8 _ (fun w hw=>by simpa using (h w hw).1.2)];omega
theorem aER{ws:List Wd}(h:∀ w∈ws,w.Ok):(rl ws).length=8*ws.length:=by rw [rl,lX _ 8 _ (fun w hw=>by simpa using (h w hw).1.1)];omega
def gS(p:Nat)(C:Dv)(H:Hp):Prop:=
 C.Ok/\∃ bl bn bp bm vp va Hq Ha,Sl 5 1 vp (C.picks.map bv) Hq/\Sl 245 3 va (C.acts.flatMap ac) Ha /\
  H=(p,cl [.slice (some ⟨bl,0,none⟩) C.len C.len,.slice (some ⟨bn,0,none⟩) C.len C.len,.slice (some ⟨bp,0,none⟩) C.ws.length C.ws.length,.slice (some ⟨bm,0,none⟩) C.ws.length C.ws.length,.bool C.down,.int .i64 C.fuse,vp,va] 133) ::
   (bl,cl (rl C.ws) 5)::(bn,cl (rn C.ws) 5)::(bp,cl (rp C.ws) 4)::(bm,cl (rm C.ws) 4)::(Hq++Ha)
theorem aK9{p:Nat}{C:Dv}{H:Hp}(hD:gS p C H):Tri prog 14 [.pointer (some ⟨p,0,none⟩)] H NT (fun v H'=>v=.tuple #[]/\gS p C.on H'):=by obtain⟨hO,bl,bn,bp,bm,vp,va,Hq,Ha,h1,h2,rfl⟩:=hD;have hof:One vp:=h1.one;have hoa:One va:=h2.one;refine Tri.mt func14 ntmps14 fun w hw=>?_;(refine W.o ?_;repeat intro b_);exact Fin.s0 (.inr rfl) rfl ⟨rfl,Dv.on_ok hO,bl,bn,bp,bm,vp,va,Hq,Ha,h1,h2,rfl⟩
theorem wT{p:Nat}{C:Dv}{H:Hp}(hD:gS p C H)(x n:Int):Tri prog 188 [.pointer (some ⟨p,0,none⟩),.int .i64 x,.int .i64 n] H NT (fun v H'=>v=.int .i64 (C.rdy x n)/\H'=H):=by
 obtain⟨hO,bl,bn,bp,bm,vp,va,Hq,Ha,h1,h2,rfl⟩:=hD;have hof:One vp:=h1.one;have hoa:One va:=h2.one;have hn:C.len<=65536:=by have:=hO.n;simp only [Dv.len];omega
 refine Tri.mt func188 ntmps188 fun w hw=>?_;repeat' (first|(refine W.ow ?_;try intro b_)  | refine dP (oV rfl rfl rfl) rfl rfl (fun h_=>?_) (fun h_=>?_)|refine dP (oU rfl rfl rfl) rfl rfl (fun h_=>?_) (fun h_=>?_)|refine dP (oS rfl rfl rfl) rfl rfl (fun h_=>?_) (fun h_=>?_)|refine dP (oR rfl rfl rfl) rfl rfl (fun h_=>?_) (fun h_=>?_)|refine dP (mV rfl rfl rfl) rfl rfl (fun h_=>?_) (fun h_=>?_)|refine dP (oW rfl rfl rfl) rfl rfl (fun h_=>?_) (fun h_=>?_)|refine jG rfl (fun h_=>?_) (fun h_=>?_))
 all_goals (refine Fin.r1 (.inl rfl) rfl rfl _ ⟨?_,rfl⟩;unfold Dv.rdy;congr 1)
 all_goals (repeat' split)
 all_goals first|rfl|(exfalso;simp_all;done)|(exfalso;omega)
end
section
variable {P:Program}{C:Ctx}{A:Fr}{H H':Hp}{o:Oper}
theorem mM{t e n len cap l h b j m c:Nat}{x y y2:Operand}{k k2:IntKind}{i i2:Int}(ho:o.op=.slice t x (some y) (some y2) none)(hx:ev A x=some (.slice (some ⟨b,j,none⟩) len cap)) [ht:cC P t e n] (hy:ev A y=some (.int k i)) (hy2:ev A y2=some (.int k2 i2)) (hl:i=(l:Int)) (hh:i2=(h:Int)) (hlt:l<cap) (h2:h<=cap) (hm:l+m=h) {j':Nat} (hj:j+l*n=j') (hc:l+c=cap):Pu P C A H o (.slice (some ⟨b,j',none⟩) m c):=by
 have:=oF (P:=P) (C:=C) (H:=H) (vl:=none) (vh:=none) ho hx (ht:=ht) (l:=l) (h:=h) (.inr ⟨y,k,i,rfl,hy,hl⟩) (.inr ⟨y2,k2,i2,rfl,hy2,hh⟩) oQ h2;have e1:lI (some ⟨b,j,none⟩) cap l n=some ⟨b,j',none⟩:=by
  unfold lI;rw [if_neg oQ];simp only [Option.map_some,cR];subst hj;unfold Addr.add;split
  ·rename_i h0;rw [h0];rfl
  rfl
 have e2:h-l=m:=oQ;have e3:cap-l=c:=oQ;rw [e1,e2,e3] at this;exact this
end
section
attribute [local irreducible] SW SL SQ SH SA Pu Fin
theorem aAI{A B x y:LV}{m:Nat}(hA:A.length=m)(hx:x.length=8)(hy:y.length=8):(A++(x++B)).take m++y++(A++(x++B)).drop (m+y.length)=A++(y++B):=by subst hA;rw [cT rfl,<-cG,eR rfl,eR oQ,aT]
theorem aLa{A B x:LV}{m:Nat}(hA:A.length=m)(hx:x.length=8):((A++(x++B)).drop m).take (8*1)=x:=by subst hA;rw [eR rfl,cT oQ]
theorem aCV(d t:List Wd)(u:Wd):rl (d++u::t)=rl d++(u.lasts.map bv++rl t):=by simp [rl]
theorem aCX(d t:List Wd)(u:Wd):rn (d++u::t)=rn d++(u.now.map bv++rn t):=by simp [rn]
theorem aC0(d t:List Wd)(u:Wd):rp (d++u::t)=rp d++(.bool u.pend::rp t):=by simp [rp]
theorem aCW(d t:List Wd)(u:Wd):rm (d++u::t)=rm d++(.bool u.mark::rm t):=by simp [rm]
theorem uU(d:List Wd):(rp d).length=d.length:=by simp [rp]
theorem wP(d:List Wd):(rm d).length=d.length:=by simp [rm]
theorem wX{A B:LV}{m:Nat}{x y:Value}(hA:A.length=m):(A++(x::B)).set m y=A++(y::B):=by subst hA;simp
theorem aHF(b:UInt8):((b.toNat:Int).tmod 2=1)↔((b &&& 1) == 1)=true:=by
 have h1:((b &&& 1) == 1)=true↔b.toNat%2=1:=by rw [beq_iff_eq,<-kG,UInt8.toNat_and,UInt8.toNat_one,rH]
 rw [h1];have:((b.toNat:Int)).tmod 2=((b.toNat%2:Nat):Int):=by rw [vT];rfl
 rw [this];omega
def aBO(bl bn bp bm n:Nat)(d:Bool)(f:Int)(vp va:Value):Obj:=
 cl [.slice (some ⟨bl,0,none⟩) (8*n) (8*n),.slice (some ⟨bn,0,none⟩) (8*n) (8*n),.slice (some ⟨bp,0,none⟩) n n,.slice (some ⟨bm,0,none⟩) n n,.bool d,.int .i64 f,vp,va] 133
theorem aBG{p bl bn bp bm:Nat}{C:Dv}(hO:C.Ok)(vp va q:Value)(qs:LB):Tri prog 42 [.pointer (some ⟨p,0,none⟩),q] [(p,aBO bl bn bp bm C.ws.length C.down C.fuse vp va),(bl,cl (rl C.ws) 5),(bn,cl (rn C.ws) 5),(bp,cl (rp C.ws) 4),(bm,cl (rm C.ws) 4)] (fun w=>Rd [p,bl,bn,bp,bm] w 1 q (qs.map bv)) (fun v H'=>v=.tuple #[]/\H'=[(p,aBO bl bn bp bm (C.crash qs).ws.length (C.crash qs).down (C.crash qs).fuse vp va),(bl,cl (rl (C.crash qs).ws) 5),(bn,cl (rn (C.crash qs).ws) 5),(bp,cl (rp (C.crash qs).ws) 4),(bm,cl (rm (C.crash qs).ws) 4)]):=by
 unfold aBO;obtain⟨ws,dn,fu,pk,ak⟩:=C;have hn:=hO.n;have hok:=hO.ok;simp only at hn hok;refine Tri.mt func42 ntmps42 fun w hw=>?_;obtain⟨a,len,cap,rfl,hlen,hcap,hrd⟩:=hw;rw [aC,Nat.mul_one] at hlen;cases dn
 ·dsimp only;refine W.o ?_;refine zV (fun x:List Wd×List Wd×Nat=>[(0,.pointer (some ⟨p,0,none⟩)),(1,.slice a len cap),(4,.int .i64 x.2.2),(14,.int .i64 ws.length),(15,.int .i64 x.1.length)])
   (fun x=>[(p,aBO bl bn bp bm ws.length false fu vp va),(bl,cl (rl (x.1++x.2.1)) 5),(bn,cl (rn (x.1++x.2.1)) 5),(bp,cl (rp (x.1++x.2.1)) 4),(bm,cl (rm (x.1++x.2.1)) 4)])
   (fun x=>x.2.1.length) (fun x=>kB qs 0 ws=x.1++kB qs x.2.2 x.2.1/\x.1.length+x.2.1.length=ws.length/\x.2.2<=x.1.length/\(∀ w∈x.1++x.2.1,w.Ok))
   ([],ws,0) ⟨rfl,rfl,rfl,rfl,rfl,trivial⟩ (by dsimp only [List.nil_append,aBO];infer_instance) ⟨rfl,by simp,Nat.le_refl _,hok⟩ ?_
  rintro⟨done,todo,j⟩ ⟨hc,hl,hj,hk⟩;dsimp only [aBO] at hc hl hj hk |-;cases todo with
  | nil=>
   have hl2:done.length=ws.length:=by simpa using hl
   refine W.o ?_
   refine Fin.s0 (.inr rfl) rfl ⟨rfl,?_⟩
   simp [Dv.crash,hc,kB,hl2]
  | cons u t=>
   have hl2:done.length+(t.length+1)=ws.length:=by simpa using hl
   have hu:u.Ok:=hk u (by simp)
   rw [aCV,aCX,aC0,aCW]
   have hpg:(rp done++(.bool u.pend::rp t))[done.length]?=some (.bool u.pend):=by
    rw [aV (by rw [uU];exact Nat.le_refl _),uU];simp
   refine W.o ?_
   refine bN (gV rfl rfl rfl oQ oQ (j':=done.length) oQ) rfl rfl ?_
   refine W.o ?_
   have hlp:done.length<(rp done++(Value.bool u.pend::rp t)).length:=by rw [aB,uU];simp
   have hlm:done.length<(rm done++(Value.bool u.mark::rm t)).length:=by rw [aB,wP];simp
   have hdk:∀ w∈done,w.Ok:=fun w hw=>hk w (by simp [hw])
   have hA:=aER hdk
   have hB:=aET hdk
   obtain⟨la,no,pe,ma⟩:=u
   dsimp only at hpg hlp hlm
   cases pe
   ·have hma:ma=false:=by
     cases ma with
     | false=>rfl
     | true=>exact absurd (hu.2 rfl) (by simp)
    subst hma
    refine W.o ?_
    refine bN (gV rfl rfl rfl oQ oQ (j':=done.length) oQ) rfl rfl ?_
    refine W.o ?_
    refine bN (gV rfl rfl rfl oQ oQ (j':=done.length) oQ) rfl rfl ?_
    refine W.o ?_
    rw [wX (uU done),wX (wP done)]
    refine rW.eq (done++[⟨la,no,false,false⟩],t,j) (by simp) ⟨rfl,rfl,rfl,rfl,?_,trivial⟩ ?_ ⟨?_,?_,?_,?_⟩
    ·simp [lk,pt]
    ·simp [aCV,aCX,aC0,aCW,aBO]
    ·rw [hc];simp [kB]
    ·simp;omega
    ·simp;omega
    ·simpa using hk
   ·have h8n:(no.map bv).length=8:=by simpa using hu.1.2
    have h8l:(la.map bv).length=8:=by simpa using hu.1.1
    rcases fS len with h0|h0
    ·subst h0
     have hq:qs=[]:=bI hlen
     have hbt:yT qs j=false:=by subst hq;simp [yT]
     have hLL:=hu.1.1
     refine W.o ?_
     refine mH [p] 99 kQ ?_
     (refine SA.take 0 rfl kQ (fun _ _ _ h=>Fin.np h) rfl rfl (fA rfl rfl) ?_;refine SA.take 1 rfl kQ (fun _ _ _ h=>Fin.np h) rfl rfl (rP rfl rfl) ?_;refine SA.take 2 rfl kQ (fun _ _ _ h=>Fin.np h) rfl rfl (gJ rfl rfl rfl) ?_;refine SA.take 3 rfl kQ (fun _ _ _ h=>Fin.np h) rfl rfl (jD rfl rfl rfl) ?_;refine SA.take 4 rfl kQ (fun _ _ _ h=>Fin.np h) rfl rfl (fA rfl rfl) ?_;refine SA.take 5 rfl kQ (fun _ _ _ h=>Fin.np h) rfl rfl (kK rfl rfl rfl (w64 oQ)) ?_;refine SA.take 6 rfl kQ (fun _ _ _ h=>Fin.np h) rfl rfl (fA rfl rfl) ?_;refine SA.take 7 rfl kQ (fun _ _ _ h=>Fin.np h) rfl rfl (kK rfl rfl rfl (w64 oQ)) ?_;refine SA.take 8 rfl kQ (fun _ _ _ h=>Fin.np h) rfl rfl (tK rfl rfl rfl (w64 oQ)) ?_)
     refine SA.take 9 rfl kQ (fun _ _ _ h=>Fin.np h) rfl rfl (mM (l:=8*done.length) (m:=8) (h:=8*done.length+8) (j':=8*done.length) (c:=8*ws.length-8*done.length) rfl rfl rfl rfl oQ oQ oQ oQ oQ oQ oQ) ?_
     (refine SA.take 10 rfl kQ (fun _ _ _ h=>Fin.np h) rfl rfl (fA rfl rfl) ?_;refine SA.take 11 rfl kQ (fun _ _ _ h=>Fin.np h) rfl rfl (rP rfl rfl) ?_;refine SA.take 12 rfl kQ (fun _ _ _ h=>Fin.np h) rfl rfl (gJ rfl rfl rfl) ?_;refine SA.take 13 rfl kQ (fun _ _ _ h=>Fin.np h) rfl rfl (jD rfl rfl rfl) ?_;refine SA.take 14 rfl kQ (fun _ _ _ h=>Fin.np h) rfl rfl (fA rfl rfl) ?_;refine SA.take 15 rfl kQ (fun _ _ _ h=>Fin.np h) rfl rfl (kK rfl rfl rfl (w64 oQ)) ?_;refine SA.take 16 rfl kQ (fun _ _ _ h=>Fin.np h) rfl rfl (fA rfl rfl) ?_;refine SA.take 17 rfl kQ (fun _ _ _ h=>Fin.np h) rfl rfl (kK rfl rfl rfl (w64 oQ)) ?_;refine SA.take 18 rfl kQ (fun _ _ _ h=>Fin.np h) rfl rfl (tK rfl rfl rfl (w64 oQ)) ?_)
     refine SA.take 19 rfl kQ (fun _ _ _ h=>Fin.np h) rfl rfl (mM (l:=8*done.length) (m:=8) (h:=8*done.length+8) (j':=8*done.length) (c:=8*ws.length-8*done.length) rfl rfl rfl rfl oQ oQ oQ oQ oQ oQ oQ) ?_
     refine SA.one 20 rfl kQ ?_
     refine zS (m:=8) (ys:=la.map bv) rfl rfl rfl rfl rfl (fun w2 hs=>(eQ.block (m:=8) (size:=1) (hs.at (b:=bl)) (aLa hA h8l) (by simpa using h8l)) w2 rfl) (by rw [aB,aB];omega) (aAI hB h8n h8l) ?_
     refine jB ?_
     refine Beh.mk ?_
     refine SA.done kQ ?_
     refine W.o ?_
     refine bN (gV rfl rfl rfl oQ oQ (j':=done.length) oQ) rfl rfl ?_
     refine W.o ?_
     refine bN (gV rfl rfl rfl oQ oQ (j':=done.length) oQ) rfl rfl ?_
     refine W.o ?_
     rw [wX (uU done),wX (wP done)]
     refine rW.eq (done++[⟨la,la,false,false⟩],t,j+1) (by simp) ⟨rfl,rfl,rfl,rfl,?_,trivial⟩ ?_ ⟨?_,?_,?_,?_⟩
     ·simp [lk,pt]
     ·simp [aCV,aCX,aC0,aCW,aBO]
     ·rw [hc];simp only [kB,cond_true,Wd.crash];rw [hbt];simp
     ·simp;omega
     ·simp;omega
     ·have hk2:∀ w∈t,w.Ok:=fun w hw=>hk w (by simp [hw])
      intro w hw
      simp only [bJ,cD,dJ,or_false] at hw
      rcases hw with (hw|rfl)|hw
      ·exact hdk w hw
      ·exact⟨⟨hLL,hLL⟩,by simp⟩
      ·exact hk2 w hw
    ·obtain⟨b,o,l,T,fz,rfl,hb,hbk,hrow⟩:=hrd.resolve_left oQ
     obtain⟨x,hx⟩:∃ x,qs[j%qs.length]?=some x:=⟨_,aA (Nat.mod_lt _ oQ)⟩
     have hlx:l[o+(j%len)*1]?=some (bv x):=by
      have:=congrArg (fun z=>z[j%len]?) hrow
      rw [bD,if_pos (by have:=Nat.mod_lt j h0;omega),bH,aL,<-hlen,hx] at this
      rw [Nat.mul_one,<-hlen];exact this
     refine W.o ?_
     refine bN (aCO rfl rfl rfl oQ (r:=((j%len:Nat):Int)) (by rw [vT])) rfl rfl ?_
     refine bN (gV rfl rfl rfl oQ (by have:=Nat.mod_lt j h0;omega) (j':=o+(j%len)*1) (by rw [aS])) rfl rfl ?_
     refine bN (tP rfl rfl hb hbk hlx) rfl rfl ?_
     refine bN (aCO rfl rfl rfl dQ rfl) rfl rfl ?_
     by_cases hbit:((x &&& 1) == 1)=true
     ·have hbt:yT qs j=true:=by simp only [yT,hx,hbit]
      have hLL:=hu.1.2
      refine bN (Pu.t (mV rfl rfl rfl) ((aHF x).2 hbit)) rfl rfl ?_
      refine W.o ?_
      refine mH [p] 99 kQ ?_
      (refine SA.take 0 rfl kQ (fun _ _ _ h=>Fin.np h) rfl rfl (fA rfl rfl) ?_;refine SA.take 1 rfl kQ (fun _ _ _ h=>Fin.np h) rfl rfl (rP rfl rfl) ?_;refine SA.take 2 rfl kQ (fun _ _ _ h=>Fin.np h) rfl rfl (gJ rfl rfl rfl) ?_;refine SA.take 3 rfl kQ (fun _ _ _ h=>Fin.np h) rfl rfl (jD rfl rfl rfl) ?_;refine SA.take 4 rfl kQ (fun _ _ _ h=>Fin.np h) rfl rfl (fA rfl rfl) ?_;refine SA.take 5 rfl kQ (fun _ _ _ h=>Fin.np h) rfl rfl (kK rfl rfl rfl (w64 oQ)) ?_;refine SA.take 6 rfl kQ (fun _ _ _ h=>Fin.np h) rfl rfl (fA rfl rfl) ?_;refine SA.take 7 rfl kQ (fun _ _ _ h=>Fin.np h) rfl rfl (kK rfl rfl rfl (w64 oQ)) ?_;refine SA.take 8 rfl kQ (fun _ _ _ h=>Fin.np h) rfl rfl (tK rfl rfl rfl (w64 oQ)) ?_)
      refine SA.take 9 rfl kQ (fun _ _ _ h=>Fin.np h) rfl rfl (mM (l:=8*done.length) (m:=8) (h:=8*done.length+8) (j':=8*done.length) (c:=8*ws.length-8*done.length) rfl rfl rfl rfl oQ oQ oQ oQ oQ oQ oQ) ?_
      (refine SA.take 10 rfl kQ (fun _ _ _ h=>Fin.np h) rfl rfl (fA rfl rfl) ?_;refine SA.take 11 rfl kQ (fun _ _ _ h=>Fin.np h) rfl rfl (rP rfl rfl) ?_;refine SA.take 12 rfl kQ (fun _ _ _ h=>Fin.np h) rfl rfl (gJ rfl rfl rfl) ?_;refine SA.take 13 rfl kQ (fun _ _ _ h=>Fin.np h) rfl rfl (jD rfl rfl rfl) ?_;refine SA.take 14 rfl kQ (fun _ _ _ h=>Fin.np h) rfl rfl (fA rfl rfl) ?_;refine SA.take 15 rfl kQ (fun _ _ _ h=>Fin.np h) rfl rfl (kK rfl rfl rfl (w64 oQ)) ?_;refine SA.take 16 rfl kQ (fun _ _ _ h=>Fin.np h) rfl rfl (fA rfl rfl) ?_;refine SA.take 17 rfl kQ (fun _ _ _ h=>Fin.np h) rfl rfl (kK rfl rfl rfl (w64 oQ)) ?_;refine SA.take 18 rfl kQ (fun _ _ _ h=>Fin.np h) rfl rfl (tK rfl rfl rfl (w64 oQ)) ?_)
      refine SA.take 19 rfl kQ (fun _ _ _ h=>Fin.np h) rfl rfl (mM (l:=8*done.length) (m:=8) (h:=8*done.length+8) (j':=8*done.length) (c:=8*ws.length-8*done.length) rfl rfl rfl rfl oQ oQ oQ oQ oQ oQ oQ) ?_
      refine SA.one 20 rfl kQ ?_
      refine zS (m:=8) (ys:=no.map bv) rfl rfl rfl rfl rfl (fun w2 hs=>(eQ.block (m:=8) (size:=1) (hs.at (b:=bn)) (aLa hB h8n) (by simpa using h8n)) w2 rfl) (by rw [aB,aB];omega) (aAI hA h8l h8n) ?_
      refine jB ?_
      refine Beh.mk ?_
      refine SA.done kQ ?_
      refine W.o ?_
      refine mH [p] 99 kQ ?_
      (refine SA.take 0 rfl kQ (fun _ _ _ h=>Fin.np h) rfl rfl (fA rfl rfl) ?_;refine SA.take 1 rfl kQ (fun _ _ _ h=>Fin.np h) rfl rfl (rP rfl rfl) ?_;refine SA.take 2 rfl kQ (fun _ _ _ h=>Fin.np h) rfl rfl (gJ rfl rfl rfl) ?_;refine SA.take 3 rfl kQ (fun _ _ _ h=>Fin.np h) rfl rfl (jD rfl rfl rfl) ?_;refine SA.take 4 rfl kQ (fun _ _ _ h=>Fin.np h) rfl rfl (fA rfl rfl) ?_;refine SA.take 5 rfl kQ (fun _ _ _ h=>Fin.np h) rfl rfl (kK rfl rfl rfl (w64 oQ)) ?_;refine SA.take 6 rfl kQ (fun _ _ _ h=>Fin.np h) rfl rfl (fA rfl rfl) ?_;refine SA.take 7 rfl kQ (fun _ _ _ h=>Fin.np h) rfl rfl (kK rfl rfl rfl (w64 oQ)) ?_;refine SA.take 8 rfl kQ (fun _ _ _ h=>Fin.np h) rfl rfl (tK rfl rfl rfl (w64 oQ)) ?_)
      refine SA.take 9 rfl kQ (fun _ _ _ h=>Fin.np h) rfl rfl (mM (l:=8*done.length) (m:=8) (h:=8*done.length+8) (j':=8*done.length) (c:=8*ws.length-8*done.length) rfl rfl rfl rfl oQ oQ oQ oQ oQ oQ oQ) ?_
      (refine SA.take 10 rfl kQ (fun _ _ _ h=>Fin.np h) rfl rfl (fA rfl rfl) ?_;refine SA.take 11 rfl kQ (fun _ _ _ h=>Fin.np h) rfl rfl (rP rfl rfl) ?_;refine SA.take 12 rfl kQ (fun _ _ _ h=>Fin.np h) rfl rfl (gJ rfl rfl rfl) ?_;refine SA.take 13 rfl kQ (fun _ _ _ h=>Fin.np h) rfl rfl (jD rfl rfl rfl) ?_;refine SA.take 14 rfl kQ (fun _ _ _ h=>Fin.np h) rfl rfl (fA rfl rfl) ?_;refine SA.take 15 rfl kQ (fun _ _ _ h=>Fin.np h) rfl rfl (kK rfl rfl rfl (w64 oQ)) ?_;refine SA.take 16 rfl kQ (fun _ _ _ h=>Fin.np h) rfl rfl (fA rfl rfl) ?_;refine SA.take 17 rfl kQ (fun _ _ _ h=>Fin.np h) rfl rfl (kK rfl rfl rfl (w64 oQ)) ?_;refine SA.take 18 rfl kQ (fun _ _ _ h=>Fin.np h) rfl rfl (tK rfl rfl rfl (w64 oQ)) ?_)
      refine SA.take 19 rfl kQ (fun _ _ _ h=>Fin.np h) rfl rfl (mM (l:=8*done.length) (m:=8) (h:=8*done.length+8) (j':=8*done.length) (c:=8*ws.length-8*done.length) rfl rfl rfl rfl oQ oQ oQ oQ oQ oQ oQ) ?_
      refine SA.one 20 rfl kQ ?_
      refine zS (m:=8) (ys:=no.map bv) rfl rfl rfl rfl rfl (fun w2 hs=>(eQ.block (m:=8) (size:=1) (hs.at (b:=bl)) (aLa hA h8n) (by simpa using h8n)) w2 rfl) (by rw [aB,aB];omega) (aAI hB h8n h8n) ?_
      refine jB ?_
      refine Beh.mk ?_
      refine SA.done kQ ?_
      refine W.o ?_
      refine bN (gV rfl rfl rfl oQ oQ (j':=done.length) oQ) rfl rfl ?_
      refine W.o ?_
      refine bN (gV rfl rfl rfl oQ oQ (j':=done.length) oQ) rfl rfl ?_
      refine W.o ?_
      rw [wX (uU done),wX (wP done)]
      refine rW.eq (done++[⟨no,no,false,false⟩],t,j+1) (by simp) ⟨rfl,rfl,rfl,rfl,?_,trivial⟩ ?_ ⟨?_,?_,?_,?_⟩
      ·simp [lk,pt]
      ·simp [aCV,aCX,aC0,aCW,aBO]
      ·rw [hc];simp only [kB,cond_true,Wd.crash];rw [hbt];simp
      ·simp;omega
      ·simp;omega
      ·have hk2:∀ w∈t,w.Ok:=fun w hw=>hk w (by simp [hw])
       intro w hw
       simp only [bJ,cD,dJ,or_false] at hw
       rcases hw with (hw|rfl)|hw
       ·exact hdk w hw
       ·exact⟨⟨hLL,hLL⟩,by simp⟩
       ·exact hk2 w hw
     ·have hbt:yT qs j=false:=by simp only [Bool.not_eq_true] at hbit;simp only [yT,hx,hbit]
      have hLL:=hu.1.1
      refine bN (Pu.f (mV rfl rfl rfl) (fun h=>hbit ((aHF x).1 h))) rfl rfl ?_
      refine W.o ?_
      refine mH [p] 99 kQ ?_
      (refine SA.take 0 rfl kQ (fun _ _ _ h=>Fin.np h) rfl rfl (fA rfl rfl) ?_;refine SA.take 1 rfl kQ (fun _ _ _ h=>Fin.np h) rfl rfl (rP rfl rfl) ?_;refine SA.take 2 rfl kQ (fun _ _ _ h=>Fin.np h) rfl rfl (gJ rfl rfl rfl) ?_;refine SA.take 3 rfl kQ (fun _ _ _ h=>Fin.np h) rfl rfl (jD rfl rfl rfl) ?_;refine SA.take 4 rfl kQ (fun _ _ _ h=>Fin.np h) rfl rfl (fA rfl rfl) ?_;refine SA.take 5 rfl kQ (fun _ _ _ h=>Fin.np h) rfl rfl (kK rfl rfl rfl (w64 oQ)) ?_;refine SA.take 6 rfl kQ (fun _ _ _ h=>Fin.np h) rfl rfl (fA rfl rfl) ?_;refine SA.take 7 rfl kQ (fun _ _ _ h=>Fin.np h) rfl rfl (kK rfl rfl rfl (w64 oQ)) ?_;refine SA.take 8 rfl kQ (fun _ _ _ h=>Fin.np h) rfl rfl (tK rfl rfl rfl (w64 oQ)) ?_)
      refine SA.take 9 rfl kQ (fun _ _ _ h=>Fin.np h) rfl rfl (mM (l:=8*done.length) (m:=8) (h:=8*done.length+8) (j':=8*done.length) (c:=8*ws.length-8*done.length) rfl rfl rfl rfl oQ oQ oQ oQ oQ oQ oQ) ?_
      (refine SA.take 10 rfl kQ (fun _ _ _ h=>Fin.np h) rfl rfl (fA rfl rfl) ?_;refine SA.take 11 rfl kQ (fun _ _ _ h=>Fin.np h) rfl rfl (rP rfl rfl) ?_;refine SA.take 12 rfl kQ (fun _ _ _ h=>Fin.np h) rfl rfl (gJ rfl rfl rfl) ?_;refine SA.take 13 rfl kQ (fun _ _ _ h=>Fin.np h) rfl rfl (jD rfl rfl rfl) ?_;refine SA.take 14 rfl kQ (fun _ _ _ h=>Fin.np h) rfl rfl (fA rfl rfl) ?_;refine SA.take 15 rfl kQ (fun _ _ _ h=>Fin.np h) rfl rfl (kK rfl rfl rfl (w64 oQ)) ?_;refine SA.take 16 rfl kQ (fun _ _ _ h=>Fin.np h) rfl rfl (fA rfl rfl) ?_;refine SA.take 17 rfl kQ (fun _ _ _ h=>Fin.np h) rfl rfl (kK rfl rfl rfl (w64 oQ)) ?_;refine SA.take 18 rfl kQ (fun _ _ _ h=>Fin.np h) rfl rfl (tK rfl rfl rfl (w64 oQ)) ?_)
      refine SA.take 19 rfl kQ (fun _ _ _ h=>Fin.np h) rfl rfl (mM (l:=8*done.length) (m:=8) (h:=8*done.length+8) (j':=8*done.length) (c:=8*ws.length-8*done.length) rfl rfl rfl rfl oQ oQ oQ oQ oQ oQ oQ) ?_
      refine SA.one 20 rfl kQ ?_
      refine zS (m:=8) (ys:=la.map bv) rfl rfl rfl rfl rfl (fun w2 hs=>(eQ.block (m:=8) (size:=1) (hs.at (b:=bl)) (aLa hA h8l) (by simpa using h8l)) w2 rfl) (by rw [aB,aB];omega) (aAI hB h8n h8l) ?_
      refine jB ?_
      refine Beh.mk ?_
      refine SA.done kQ ?_
      refine W.o ?_
      refine bN (gV rfl rfl rfl oQ oQ (j':=done.length) oQ) rfl rfl ?_
      refine W.o ?_
      refine bN (gV rfl rfl rfl oQ oQ (j':=done.length) oQ) rfl rfl ?_
      refine W.o ?_
      rw [wX (uU done),wX (wP done)]
      refine rW.eq (done++[⟨la,la,false,false⟩],t,j+1) (by simp) ⟨rfl,rfl,rfl,rfl,?_,trivial⟩ ?_ ⟨?_,?_,?_,?_⟩
      ·simp [lk,pt]
      ·simp [aCV,aCX,aC0,aCW,aBO]
      ·rw [hc];simp only [kB,cond_true,Wd.crash];rw [hbt];simp
      ·simp;omega
      ·simp;omega
      ·have hk2:∀ w∈t,w.Ok:=fun w hw=>hk w (by simp [hw])
       intro w hw
       simp only [bJ,cD,dJ,or_false] at hw
       rcases hw with (hw|rfl)|hw
       ·exact hdk w hw
       ·exact⟨⟨hLL,hLL⟩,by simp⟩
       ·exact hk2 w hw
 dsimp only;refine W.o ?_;refine Fin.s0 (.inl rfl) rfl ⟨rfl,rfl⟩
theorem aEP{p:Nat}{C:Dv}{H:Hp}(hD:gS p C H)(hnd:C.down=false)(k x n:Int):Tri prog 198 [.pointer (some ⟨p,0,none⟩),.int .i64 k,.int .i64 x,.int .i64 n] H NT (fun v H'=>v=.int .i64 C.actE/\gS p (C.act (k,x,n)) H'):=by
 obtain⟨hO,bl,bn,bp,bm,vp,va,Hq,Ha,h1,h2,rfl⟩:=hD;have hf0:=hO.f0;have hf1:=hO.f1;have ha:=hO.a;have hof:One vp:=h1.one;obtain⟨aa,la,ca,rfl,hla⟩:=h2.form;have hla2:la=C.acts.length:=by rw [lX ac 3 _ (fun x _=>rfl)] at hla;omega
 subst hla2;refine Tri.mt func198 ntmps198 fun w hw=>?_;by_cases c1:C.fuse=1
 ·have hc:=aBG (p:=p) (bl:=bl) (bn:=bn) (bp:=bp) (bm:=bm) hO vp (.slice aa C.acts.length ca) vp C.picks;unfold aBO at hc;refine W.o ?_;refine aFo [p,bl,bn,bp,bm] rfl rfl rfl rfl hc (fun w hs=>Rd.ownB [p,bl,bn,bp,bm] h1 hs) ?_;rintro _ _ ⟨rfl,rfl⟩;refine W.o ?_;have he:C.act (k,x,n)=C.crash C.picks:=by simp [Dv.act,c1,Dv.crash,hnd]
  rw [he];exact Fin.s1 (.inl rfl) rfl rfl ⟨by simp [Dv.actE,c1],Dv.crash_ok _ hO,bl,bn,bp,bm,vp,_,Hq,Ha,by unfold Dv.crash;rw [hnd];exact h1,by unfold Dv.crash;rw [hnd];exact h2,rfl⟩
 by_cases c0:1<C.fuse
 ·refine W.o ?_;by_cases c2:C.acts.length<16384
  ·refine W.o ?_;refine iE (n:=3) rfl rfl rfl rfl (by rfl) dQ (by rfl) dQ (fun b2=>?_);refine SL.append (n:=3) (m:=1) (ys:=ac (k,x,n)) Ha rfl rfl rfl rfl rfl h2 (fun w hs=>eQ.block (hs.at (b:=b2)) rfl rfl) rfl rfl dQ dQ ?_ (fun v2 Ha2 h3=>?_)
   ·rw [hla];simp [ac];omega
   have hov:One v2:=h3.one;refine W.o ?_;refine Fin.rm b2 ?_;have hl2:(C.acts++[(k,x,n)]).flatMap ac=C.acts.flatMap ac++ac (k,x,n):=by simp
   rw [<-hl2] at h3;have c3:0<C.fuse:=oQ;have he:C.act (k,x,n)=({ C with fuse:=(C.fuse-1),acts:=C.acts++[(k,x,n)] }:Dv):=by simp [Dv.act,Dv.push,c1,c2,c3]
   rw [he];exact Fin.perm cA (Fin.s1 (.inl rfl) rfl rfl ⟨by simp [Dv.actE,c1],⟨hO.n,hO.ok,by dsimp only;omega,by dsimp only;omega,by simp;omega⟩,bl,bn,bp,bm,vp,v2,Hq,Ha2,h1,h3,by rw [aG];rfl⟩)
  refine W.o ?_;have c3:0<C.fuse:=oQ;have he:C.act (k,x,n)=({ C with fuse:=(C.fuse-1) }:Dv):=by simp [Dv.act,Dv.push,c1,c2,c3]
  rw [he];exact Fin.s1 (.inl rfl) rfl rfl ⟨by simp [Dv.actE,c1],Dv.fuse_ok _ hO oQ oQ,bl,bn,bp,bm,vp,_,Hq,Ha,h1,h2,rfl⟩
 refine W.o ?_;by_cases c2:C.acts.length<16384
 ·refine W.o ?_;refine iE (n:=3) rfl rfl rfl rfl (by rfl) dQ (by rfl) dQ (fun b2=>?_);refine SL.append (n:=3) (m:=1) (ys:=ac (k,x,n)) Ha rfl rfl rfl rfl rfl h2 (fun w hs=>eQ.block (hs.at (b:=b2)) rfl rfl) rfl rfl dQ dQ ?_ (fun v2 Ha2 h3=>?_)
  ·rw [hla];simp [ac];omega
  have hov:One v2:=h3.one;refine W.o ?_;refine Fin.rm b2 ?_;have hl2:(C.acts++[(k,x,n)]).flatMap ac=C.acts.flatMap ac++ac (k,x,n):=by simp
  rw [<-hl2] at h3;have c3:¬ 0<C.fuse:=oQ;have he:C.act (k,x,n)=({ C with fuse:=C.fuse,acts:=C.acts++[(k,x,n)] }:Dv):=by simp [Dv.act,Dv.push,c2,c3]
  rw [he];exact Fin.perm cA (Fin.s1 (.inl rfl) rfl rfl ⟨by simp [Dv.actE,c1],⟨hO.n,hO.ok,by dsimp only;omega,by dsimp only;omega,by simp;omega⟩,bl,bn,bp,bm,vp,v2,Hq,Ha2,h1,h3,by rw [aG];rfl⟩)
 refine W.o ?_;have c3:¬ 0<C.fuse:=oQ;have he:C.act (k,x,n)=({ C with fuse:=C.fuse }:Dv):=by simp [Dv.act,Dv.push,c2,c3]
 rw [he];exact Fin.s1 (.inl rfl) rfl rfl ⟨by simp [Dv.actE,c1],Dv.fuse_ok _ hO oQ oQ,bl,bn,bp,bm,vp,_,Hq,Ha,h1,h2,rfl⟩
theorem aDN(l r:Hp)(a b c d e:Nat×Obj):(l++a::b::c::d::e::r).Perm (a::b::c::d::e::(l++r)):=
 gP.trans ((gP.trans ((gP.trans ((gP.trans (List.perm_middle.cons d)).cons c)).cons b)).cons a)
theorem aOV{p:Nat}{C:Dv}{H:Hp}(hD:gS p C H):Tri prog 199 [.pointer (some ⟨p,0,none⟩)] H NT (fun v H'=>v=.int .i64 C.dooE/\gS p C.doo H'):=by
 have hr:=wT hD 0 0;rw [Dv.rdy00] at hr;refine Tri.mt func199 ntmps199 fun w hw=>?_;by_cases hd:C.down=true
 ·rw [if_pos hd] at hr;repeat' (first|(refine sB ?_;refine zT rfl rfl ?_)|(refine pB ?_;((refine nX _ rfl rfl rfl rfl hr (fun _ _=>trivial) ?_;rintro _ _ ⟨rfl,rfl⟩)))|(refine W.ow ?_;try intro b_)  | refine dP (oV rfl rfl rfl) rfl rfl (fun h_=>?_) (fun h_=>?_)|refine dP (oU rfl rfl rfl) rfl rfl (fun h_=>?_) (fun h_=>?_)|refine dP (oS rfl rfl rfl) rfl rfl (fun h_=>?_) (fun h_=>?_)|refine dP (oR rfl rfl rfl) rfl rfl (fun h_=>?_) (fun h_=>?_)|refine dP (mV rfl rfl rfl) rfl rfl (fun h_=>?_) (fun h_=>?_)|refine dP (oW rfl rfl rfl) rfl rfl (fun h_=>?_) (fun h_=>?_)|refine jG rfl (fun h_=>?_) (fun h_=>?_))
  rw [aG];exact Fin.s1 (.inl rfl) rfl rfl ⟨by simp [Dv.dooE,hd],by simpa [Dv.doo,hd] using hD⟩
 rw [if_neg hd] at hr;have ha:=aEP hD (by simpa using hd) 4 0 0;refine W.o ?_;refine nX _ rfl rfl rfl rfl hr (fun _ _=>trivial) ?_;rintro _ _ ⟨rfl,rfl⟩;refine W.o ?_;refine nX _ rfl rfl rfl rfl ha (fun _ _=>trivial) ?_;rintro _ _ ⟨rfl,hD2⟩;refine W.o ?_;rw [aG];exact Fin.s1 (.inl rfl) rfl rfl ⟨by simp [Dv.dooE,hd],by simpa [Dv.doo,hd] using hD2⟩
theorem aOR{p:Nat}{C:Dv}{H:Hp}(hD:gS p C H)(n:Int)(hn:n<=9223372036854775807)(v:Value)(qs:LB)(hq:qs.length<=1048576):Tri prog 44 [.pointer (some ⟨p,0,none⟩),.int .i64 n,v] H (fun w=>Rd (H.map Prod.fst) w 1 v (qs.map bv)) (fun v H'=>v=.tuple #[]/\gS p (C.arm n qs) H'):=by
 obtain⟨hO,bl,bn,bp,bm,vp,va,Hq,Ha,h1,h2,rfl⟩:=hD;have hof:One vp:=h1.one;have hoa:One va:=h2.one;refine Tri.mt func44 ntmps44 fun w hw=>?_;obtain⟨a,len,cap,rfl,hlen,hcap,hrd⟩:=id hw;have hlen2:qs.length=len:=by simpa using hlen
 by_cases c:n<0
 ·(refine W.o ?_;repeat intro b_);refine iE (n:=1) (r:=[]) rfl rfl rfl rfl (by rfl) dQ (by rfl) dQ (fun b2=>?_);(refine W.o ?_;repeat intro b_);refine SL.append (n:=1) (m:=len) (ys:=qs.map bv) (xs:=[]) [(b2,cl [] 5)] rfl rfl rfl rfl rfl (.inr ⟨b2,0,0,[],rfl,rfl,rfl,Nat.le_refl _,rfl⟩) (fun w2 hs=>Rd.srcAt hw (hs.tail (List.Perm.refl _))) hlen (by rfl) dQ dQ ?_ (fun v2 Ha2 h3=>?_)
  ·dsimp only [List.length_nil];rw [aC];omega
  have hov:One v2:=h3.one;(refine W.o ?_;repeat intro b_);have he:C.arm n qs=({ C with fuse:=0,picks:=qs }:Dv):=by simp only [Dv.arm];congr 1;omega
  rw [he];exact Fin.drop Hq (Fin.perm (aDN _ _ _ _ _ _ _) (Fin.s0 (.inr rfl) rfl ⟨rfl,⟨hO.n,hO.ok,by dsimp only;omega,by dsimp only;omega,hO.a⟩,bl,bn,bp,bm,v2,va,Ha2,Ha,h3,h2,rfl⟩))
 (refine W.o ?_;repeat intro b_);refine iE (n:=1) (r:=[]) rfl rfl rfl rfl (by rfl) dQ (by rfl) dQ (fun b2=>?_);(refine W.o ?_;repeat intro b_);refine SL.append (n:=1) (m:=len) (ys:=qs.map bv) (xs:=[]) [(b2,cl [] 5)] rfl rfl rfl rfl rfl (.inr ⟨b2,0,0,[],rfl,rfl,rfl,Nat.le_refl _,rfl⟩) (fun w2 hs=>Rd.srcAt hw (hs.tail (List.Perm.refl _))) hlen (by rfl) dQ dQ ?_ (fun v2 Ha2 h3=>?_)
 ·dsimp only [List.length_nil];rw [aC];omega
 have hov:One v2:=h3.one;(refine W.o ?_;repeat intro b_);have he:C.arm n qs=({ C with fuse:=n,picks:=qs }:Dv):=by simp only [Dv.arm];congr 1;omega
 rw [he];exact Fin.drop Hq (Fin.perm (aDN _ _ _ _ _ _ _) (Fin.s0 (.inr rfl) rfl ⟨rfl,⟨hO.n,hO.ok,by dsimp only;omega,by dsimp only;omega,hO.a⟩,bl,bn,bp,bm,v2,va,Ha2,Ha,h3,h2,rfl⟩))
theorem aO2(n:Int)(m:Nat)(hnm:n=m\/n<0/\m=0)(hm:m<=1024):Tri prog 34 [.int .i64 n] [] NT (fun v H'=>∃ p,v=.pointer (some ⟨p,0,none⟩)/\gS p (Dv.new m) H'):=by
 refine Tri.mt func34 ntmps34 fun w hw=>?_;rcases hnm with rfl|⟨hneg,rfl⟩
 ·refine W.o ?_;refine mH [] 99 kQ ?_;(refine SA.take 0 rfl kQ (fun _ _ _ h=>Fin.np h) rfl rfl (fA rfl rfl) ?_;refine SA.take 1 rfl kQ (fun _ _ _ h=>Fin.np h) rfl rfl (kK rfl rfl rfl (w64 oQ)) ?_;refine SA.take 3 rfl kQ (fun _ _ _ h=>Fin.np h) rfl rfl (fA rfl rfl) ?_;refine SA.take 4 rfl kQ (fun _ _ _ h=>Fin.np h) rfl rfl (kK rfl rfl rfl (w64 oQ)) ?_;refine SA.take 6 rfl kQ (fun _ _ _ h=>Fin.np h) rfl rfl (fA rfl rfl) ?_;refine SA.take 7 rfl kQ (fun _ _ _ h=>Fin.np h) rfl rfl (kK rfl rfl rfl (w64 oQ)) ?_;refine SA.take 9 rfl kQ (fun _ _ _ h=>Fin.np h) rfl rfl (fA rfl rfl) ?_;refine SA.take 10 rfl kQ (fun _ _ _ h=>Fin.np h) rfl rfl (kK rfl rfl rfl (w64 oQ)) ?_);refine aAN (fuel:=3) [(8,.int .i64 (64*m)),(11,.int .i64 (64*m)),(14,.int .i64 (8*m)),(17,.int .i64 (8*m))] 4
   [⟨2,9,fun b=>.slice (some ⟨b,0,none⟩) (64*m) (64*m),cl (zs [.int .u8 0] (64*m)) 5⟩,⟨5,12,fun b=>.slice (some ⟨b,0,none⟩) (64*m) (64*m),cl (zs [.int .u8 0] (64*m)) 5⟩,
    ⟨8,15,fun b=>.slice (some ⟨b,0,none⟩) (8*m) (8*m),cl (zs [.bool false] (8*m)) 4⟩,⟨11,18,fun b=>.slice (some ⟨b,0,none⟩) (8*m) (8*m),cl (zs [.bool false] (8*m)) 4⟩] [] _ _ _ rfl (by simp) (by simp) (by simp) (by simp) kQ trivial ⟨rfl,rfl,rfl,rfl,trivial⟩ ⟨_,List.Perm.refl _⟩ ?_ ?_
  ·intro x hx;simp only [cD,dJ,or_false] at hx;rcases hx with rfl|rfl|rfl|rfl
   ·exact⟨_,rfl,fun K A H hs hk=>SL.make (n:=1) (l:=64*m) (c:=64*m) rfl rfl rfl hs.1 hs.1 oQ oQ (by rfl) dQ (Nat.le_refl _) oQ dQ fun b=>jB (hk b)⟩
   ·exact⟨_,rfl,fun K A H hs hk=>SL.make (n:=1) (l:=64*m) (c:=64*m) rfl rfl rfl hs.2.1 hs.2.1 oQ oQ (by rfl) dQ (Nat.le_refl _) oQ dQ fun b=>jB (hk b)⟩
   ·exact⟨_,rfl,fun K A H hs hk=>SL.make (n:=1) (l:=8*m) (c:=8*m) rfl rfl rfl hs.2.2.1 hs.2.2.1 oQ oQ (by rfl) dQ (Nat.le_refl _) oQ dQ fun b=>jB (hk b)⟩
   exact⟨_,rfl,fun K A H hs hk=>SL.make (n:=1) (l:=8*m) (c:=8*m) rfl rfl rfl hs.2.2.2.1 hs.2.2.2.1 oQ oQ (by rfl) dQ (Nat.le_refl _) oQ dQ fun b=>jB (hk b)⟩
  intro f ρ' H' _ hf hp;simp only [cD,dJ,or_false,forall_eq_or_imp,forall_eq] at hf;obtain⟨f1,f2,f3,f4⟩:=hf;simp only [eE,mO,dX,List.nil_append] at hp;refine aDq [(9,.slice (some ⟨f 2,0,none⟩) (64*m) (64*m)),(12,.slice (some ⟨f 5,0,none⟩) (64*m) (64*m)),(15,.slice (some ⟨f 8,0,none⟩) (8*m) (8*m)),(18,.slice (some ⟨f 11,0,none⟩) (8*m) (8*m))] _ ⟨f1,f2,f3,f4,trivial⟩ hp ?_;refine SA.one 12 rfl kQ ?_;refine W.o ?_;refine Beh.mk ?_;refine SA.one 13 rfl kQ ?_;refine W.o fun b_=>?_;refine Beh.mk ?_;refine SA.one 14 rfl kQ ?_;refine W.o ?_;refine Beh.mk ?_;refine SA.done kQ ?_;refine W.o ?_;refine Fin.s1 (.inl rfl) rfl rfl ⟨b_,rfl,Dv.new_ok m,f 2,f 5,f 8,f 11,_,_,[],[],Sl.nil _ _,Sl.nil _ _,?_⟩;have hz:(Dv.new m).ws.length=8*m:=by simp [Dv.new];omega
  have hz2:(Dv.new m).len=64*m:=by rw [Dv.len,hz];omega
  have hws:(Dv.new m).ws=List.replicate (8*m) Wd.zero:=by simp only [Dv.new];congr 1;omega
  have e8:∀ (n:Nat) (v:Value),(List.replicate n (List.replicate 8 v)).flatten=List.replicate (8*n) v:=fun n v=>by rw [List.flatten_replicate_replicate];congr 1;omega
  have h1:rl (Dv.new m).ws=zs [.int .u8 0] (64*m):=by rw [hws,lJ,rl,gO,eG];show (List.replicate (8*m) (List.replicate 8 (Value.int .u8 0))).flatten=_;rw [e8];congr 1;omega
  have h2:rn (Dv.new m).ws=zs [.int .u8 0] (64*m):=by rw [hws,lJ,rn,gO,eG];show (List.replicate (8*m) (List.replicate 8 (Value.int .u8 0))).flatten=_;rw [e8];congr 1;omega
  have h3:rp (Dv.new m).ws=zs [.bool false] (8*m):=by rw [hws,lJ,rp,eG];rfl
  have h4:rm (Dv.new m).ws=zs [.bool false] (8*m):=by rw [hws,lJ,rm,eG];rfl
  rw [hz2,hz,h1,h2,h3,h4];rfl
 obtain⟨m,hm0⟩:∃ m:Nat,m=0:=⟨0,rfl⟩;rw [show (Dv.new ((0:Nat):Int))=Dv.new (m:Int) by rw [hm0]];have hm:m<=1024:=oQ;refine W.o ?_;refine aAS (r:=[(0,.int .i64 m)]) ⟨by rw [hm0];rfl,trivial⟩ (eY.nil _) ?_;refine mH [] 99 kQ ?_;(refine SA.take 0 rfl kQ (fun _ _ _ h=>Fin.np h) rfl rfl (fA rfl rfl) ?_;refine SA.take 1 rfl kQ (fun _ _ _ h=>Fin.np h) rfl rfl (kK rfl rfl rfl (w64 oQ)) ?_;refine SA.take 3 rfl kQ (fun _ _ _ h=>Fin.np h) rfl rfl (fA rfl rfl) ?_;refine SA.take 4 rfl kQ (fun _ _ _ h=>Fin.np h) rfl rfl (kK rfl rfl rfl (w64 oQ)) ?_;refine SA.take 6 rfl kQ (fun _ _ _ h=>Fin.np h) rfl rfl (fA rfl rfl) ?_;refine SA.take 7 rfl kQ (fun _ _ _ h=>Fin.np h) rfl rfl (kK rfl rfl rfl (w64 oQ)) ?_;refine SA.take 9 rfl kQ (fun _ _ _ h=>Fin.np h) rfl rfl (fA rfl rfl) ?_;refine SA.take 10 rfl kQ (fun _ _ _ h=>Fin.np h) rfl rfl (kK rfl rfl rfl (w64 oQ)) ?_);refine aAN (fuel:=3) [(8,.int .i64 (64*m)),(11,.int .i64 (64*m)),(14,.int .i64 (8*m)),(17,.int .i64 (8*m))] 4
  [⟨2,9,fun b=>.slice (some ⟨b,0,none⟩) (64*m) (64*m),cl (zs [.int .u8 0] (64*m)) 5⟩,⟨5,12,fun b=>.slice (some ⟨b,0,none⟩) (64*m) (64*m),cl (zs [.int .u8 0] (64*m)) 5⟩,
   ⟨8,15,fun b=>.slice (some ⟨b,0,none⟩) (8*m) (8*m),cl (zs [.bool false] (8*m)) 4⟩,⟨11,18,fun b=>.slice (some ⟨b,0,none⟩) (8*m) (8*m),cl (zs [.bool false] (8*m)) 4⟩] [] _ _ _ rfl (by simp) (by simp) (by simp) (by simp) kQ trivial ⟨rfl,rfl,rfl,rfl,trivial⟩ ⟨_,List.Perm.refl _⟩ ?_ ?_
 ·intro x hx;simp only [cD,dJ,or_false] at hx;rcases hx with rfl|rfl|rfl|rfl
  ·exact⟨_,rfl,fun K A H hs hk=>SL.make (n:=1) (l:=64*m) (c:=64*m) rfl rfl rfl hs.1 hs.1 oQ oQ (by rfl) dQ (Nat.le_refl _) oQ dQ fun b=>jB (hk b)⟩
  ·exact⟨_,rfl,fun K A H hs hk=>SL.make (n:=1) (l:=64*m) (c:=64*m) rfl rfl rfl hs.2.1 hs.2.1 oQ oQ (by rfl) dQ (Nat.le_refl _) oQ dQ fun b=>jB (hk b)⟩
  ·exact⟨_,rfl,fun K A H hs hk=>SL.make (n:=1) (l:=8*m) (c:=8*m) rfl rfl rfl hs.2.2.1 hs.2.2.1 oQ oQ (by rfl) dQ (Nat.le_refl _) oQ dQ fun b=>jB (hk b)⟩
  exact⟨_,rfl,fun K A H hs hk=>SL.make (n:=1) (l:=8*m) (c:=8*m) rfl rfl rfl hs.2.2.2.1 hs.2.2.2.1 oQ oQ (by rfl) dQ (Nat.le_refl _) oQ dQ fun b=>jB (hk b)⟩
 intro f ρ' H' _ hf hp;simp only [cD,dJ,or_false,forall_eq_or_imp,forall_eq] at hf;obtain⟨f1,f2,f3,f4⟩:=hf;simp only [eE,mO,dX,List.nil_append] at hp;refine aDq [(9,.slice (some ⟨f 2,0,none⟩) (64*m) (64*m)),(12,.slice (some ⟨f 5,0,none⟩) (64*m) (64*m)),(15,.slice (some ⟨f 8,0,none⟩) (8*m) (8*m)),(18,.slice (some ⟨f 11,0,none⟩) (8*m) (8*m))] _ ⟨f1,f2,f3,f4,trivial⟩ hp ?_;refine SA.one 12 rfl kQ ?_;refine W.o ?_;refine Beh.mk ?_;refine SA.one 13 rfl kQ ?_;refine W.o fun b_=>?_;refine Beh.mk ?_;refine SA.one 14 rfl kQ ?_;refine W.o ?_;refine Beh.mk ?_;refine SA.done kQ ?_;refine W.o ?_;refine Fin.s1 (.inl rfl) rfl rfl ⟨b_,rfl,Dv.new_ok m,f 2,f 5,f 8,f 11,_,_,[],[],Sl.nil _ _,Sl.nil _ _,?_⟩;have hz:(Dv.new m).ws.length=8*m:=by simp [Dv.new];omega
 have hz2:(Dv.new m).len=64*m:=by rw [Dv.len,hz];omega
 have hws:(Dv.new m).ws=List.replicate (8*m) Wd.zero:=by simp only [Dv.new];congr 1;omega
 have e8:∀ (n:Nat) (v:Value),(List.replicate n (List.replicate 8 v)).flatten=List.replicate (8*n) v:=fun n v=>by rw [List.flatten_replicate_replicate];congr 1;omega
 have h1:rl (Dv.new m).ws=zs [.int .u8 0] (64*m):=by rw [hws,lJ,rl,gO,eG];show (List.replicate (8*m) (List.replicate 8 (Value.int .u8 0))).flatten=_;rw [e8];congr 1;omega
 have h2:rn (Dv.new m).ws=zs [.int .u8 0] (64*m):=by rw [hws,lJ,rn,gO,eG];show (List.replicate (8*m) (List.replicate 8 (Value.int .u8 0))).flatten=_;rw [e8];congr 1;omega
 have h3:rp (Dv.new m).ws=zs [.bool false] (8*m):=by rw [hws,lJ,rp,eG];rfl
 have h4:rm (Dv.new m).ws=zs [.bool false] (8*m):=by rw [hws,lJ,rm,eG];rfl
 rw [hz2,hz,h1,h2,h3,h4];rfl
theorem aO3(m:Nat)(hm:m<=1024):Tri prog 34 [.int .i64 m] [] NT (fun v H'=>∃ p,v=.pointer (some ⟨p,0,none⟩)/\gS p (Dv.new m) H'):=aO2 m m (.inl rfl) hm
theorem aK4{p:Nat}{C:Dv}{H:Hp}(hD:gS p C H)(q:Value)(qs:LB):Tri prog 42 [.pointer (some ⟨p,0,none⟩),q] H (fun w=>Rd (H.map Prod.fst) w 1 q (qs.map bv)) (fun v H'=>v=.tuple #[]/\gS p (C.crash qs) H'):=by
 obtain⟨hO,bl,bn,bp,bm,vp,va,Hq,Ha,h1,h2,rfl⟩:=hD;have hlen:(C.crash qs).ws.length=C.ws.length:=by unfold Dv.crash;cases C.down <;> simp [uD]
 have hk:=aBG (p:=p) (bl:=bl) (bn:=bn) (bp:=bp) (bm:=bm) hO vp va q qs;unfold aBO at hk;refine (hk.frame (r:=Hq++Ha) (List.Perm.refl _) (fun w ho hr=>?_)).mono ?_
 ·obtain⟨a,len,cap,rfl,hl,hc,hb⟩:=hr;refine⟨a,len,cap,rfl,hl,hc,hb.imp id fun⟨b,o,l,T,fz,ha,hb,hk,hy⟩=>⟨b,o,l,T,fz,ha,hb,fun hm=>hk ?_,hy⟩⟩;simp only [cD,dJ,or_false] at hm;rcases hm with rfl|rfl|rfl|rfl|rfl <;> simp
 rintro v H' ⟨H1,rfl,rfl,rfl⟩;refine⟨rfl,Dv.crash_ok qs hO,bl,bn,bp,bm,vp,va,Hq,Ha,?_,?_,rfl⟩
 ·unfold Dv.crash;cases C.down <;> exact h1
 unfold Dv.crash;cases C.down <;> exact h2
end
section
attribute [local irreducible] SW SL SQ SH SA SS Pu Fin bS aN
theorem aPg(c:Nat):Tri prog 31 [.pointer (some ⟨c,0,none⟩)] [] NT (fun v H=>∃ s m,v=.pointer (some ⟨s,0,none⟩)/\H=[(s,cl [.pointer (some ⟨c,0,none⟩),.map (some m),.slice none 0 0] 123),(m,mo [])]):=by refine Tri.mt func31 ntmps31 fun w hw=>?_;have hb:∀ m:Nat,bV (fun i=>[(0,1),(1,1),(2,1)][i]?) [.pointer none,.map none,.slice none 0 0] [(0,.pointer (some ⟨c,0,none⟩)),(1,.map (some m))]=some [.pointer (some ⟨c,0,none⟩),.map (some m),.slice none 0 0]:=fun m=>rfl;refine W.k ?_;refine aNk fun m=>?_;have hbm:=hb m;refine W.k fun b_=>?_;refine Fin.to [(b_,cl [.pointer (some ⟨c,0,none⟩),.map (some m),.slice none 0 0] 123),(m,mo [])] ?_;exact F.f1 ⟨b_,m,rfl,rfl⟩
def rg0(cnt:Int):Rg:=⟨cnt,List.replicate 32 0⟩
theorem aBn{cnt:Int}(h0:0<=cnt)(h1:cnt<=18446744073709551615):(rg0 cnt).Ok:=⟨rfl,h0,h1⟩
def aJJ(pp:Nat)(P T:Int)(n:Nat)(k:LB)(cnt:Int)(H:Hp):Prop:=
 ∃ d tr s m bk tb c b rd rtr rs rc Hd Hb Hc HD HR,eX d (Dv.new (4*n:Nat)) Hd/\eP bk tb Bk.new Hb/\aD4 c b (k.length/4+6) (Aes.sched k) Hc/\gS rd (Dv.new (4*n:Nat)) HD/\aFb rc (k.length/4+6) (Rg.sched k) HR /\
  H=(pp,cl [ptv d,ptv tr,ptv s,ptv bk,.int .i64 P,.int .i64 T,.pointer none,ptv rd,ptv rtr,ptv rs,.int .i64 P,.int .i64 T,.pointer none] 52) ::
   (tr,cl (trc d (rg0 cnt)) 201)::(s,cl [ptv c,.map (some m),.slice none 0 0] 123)::(m,mo [])::(b,gK) ::
   (rtr,cl (rgc (rg0 cnt)++[ptv rd]) 100)::(rs,cl [ptv rc,.slice none 0 0,.bool false,.int .u64 0,.int .i64 0,.slice none 0 0] 107) ::
   (Hd++(Hb++(Hc++(HD++HR))))
abbrev aPw(pp p t:Nat)(k:LB)(cnt:Int)(H:Hp):Prop:=aJJ pp p t (Gm.total p t) k cnt H
theorem aFy{P T:Int}{n:Nat}{xs:LV}(hall:Tri prog 26 [.agg #[.int .i64 P,.int .i64 T]] [] NT (fun v H=>∃ Hs,Sl 184 2 v xs Hs/\H=Hs))(hpl:xs.length=n*2)(htot:n<=98)(k:LB)(hk:k.length=16){cnt:Int}(h0:0<=cnt)(h1:cnt<=18446744073709551615):Tri prog 7 [.agg #[.int .i64 P,.int .i64 T],.agg (cbs k).toArray,.int .u64 cnt] [] NT (fun v H=>∃ pp,v=ptv pp/\aJJ pp P T n k cnt H):=by
 refine Tri.mt func7 ntmps7 fun w hw=>?_;unfold aJJ;(refine W.k ?_;repeat intro b_);refine aF hall ?_;rintro v1 H1 ⟨Hs,hS,rfl⟩;obtain⟨a,len,cap,rfl,hl1⟩:=hS.form;have hl2:len=n:=oQ;subst hl2;(refine W.k ?_;repeat intro b_);rw [show (4:Int)*(len:Int)=((4*len:Nat):Int) by omega];(refine aNf [] [] ?_;refine dS 1 rfl (yI rfl rfl) ?_;refine aX 0 ?_);refine aF aKx ?_;rintro _ _ ⟨b,rfl,rfl⟩;(refine bB [] ?_;refine aX 2 ?_);rename_i bg;refine aF (aN0 (b:=b) (len:=16) (cap:=16) k (.inl hk)) ?_ (hpre:=fun w2 hs=>Rd.atB (Hc:=[(b,gK)]) (T:=22) (fz:=(0,0)) k hs hk (Nat.le_refl _));rintro _ _ ⟨c,Hc,rfl,hC,rfl⟩;(refine SL.l [3,4,5,6,7,8] ?_);(refine W.k ?_;repeat intro b_);refine aF (aOw ((4*len:Nat):Int)) ?_;rintro _ Hd ⟨d,rfl,hD⟩;(refine W.k ?_;repeat intro b_);(refine SW.l [12] [0,1,2,3,5,9] ?_;refine aX 4 ?_);refine aF (aQw d (rg0 cnt) (aBn h0 h1)) ?_;rintro _ _ ⟨tr,rfl,rfl⟩;(refine bB [] ?_;refine aX 6 ?_);refine aF (aPg c) ?_;rintro _ _ ⟨s,m,rfl,rfl⟩;(refine bB [] ?_;refine aX 7 ?_);refine aF aOs ?_;rintro _ _ ⟨tb,rfl,rfl⟩;(refine bB [] ?_;refine aX 8 ?_);refine aF (aNC tb) ?_;rintro _ Hb ⟨bk,rfl,hB⟩;have hb41:bV (fun i=>[(0,1),(1,1),(2,1),(3,1),(4,2)][i]?) [.pointer none,.pointer none,.pointer none,.pointer none,.int .i64 0,.int .i64 0] [(0,ptv d),(1,ptv tr),(2,ptv s),(3,ptv bk),(4,.agg #[.int .i64 P,.int .i64 T])]=some [ptv d,ptv tr,ptv s,ptv bk,.int .i64 P,.int .i64 T]:=rfl;have hb56:bV (fun i=>[(0,6),(6,1),(7,5),(12,1)][i]?) (List.replicate 4 (.pointer none)++[.int .i64 0,.int .i64 0]++List.replicate 4 (.pointer none)++[.int .i64 0,.int .i64 0]++[.pointer none]) [(0,.agg [ptv d,ptv tr,ptv s,ptv bk,.int .i64 P,.int .i64 T].toArray)]=some [ptv d,ptv tr,ptv s,ptv bk,.int .i64 P,.int .i64 T,.pointer none,.pointer none,.pointer none,.pointer none,.int .i64 0,.int .i64 0,.pointer none]:=rfl;(refine SL.l [10,11] ?_;refine bL 12 ?_;(refine W.i ?_;repeat intro b_);refine SG.l [13,14] ?_);rename_i bk4;clear hb41 hb56;refine aHB [2,3,4,7,11] ?_;(refine W.k ?_;repeat intro b_);refine aF (aO3 (4*len) oQ) ?_;rintro _ HD ⟨rd,rfl,hDR⟩;have hb97:bV (fun i=>[(0,1),(1,32)][i]?) ([.int .u64 0]++List.replicate 32 (.int .u8 0)) [(0,.int .u64 cnt)]=some (rgc (rg0 cnt)):=rfl;have hb101:bV (fun i=>[(0,33),(33,1)][i]?) ([.int .u64 0]++List.replicate 32 (.int .u8 0)++[.pointer none]) [(0,.agg (rgc (rg0 cnt)).toArray),(1,ptv rd)]=some (rgc (rg0 cnt)++[ptv rd]):=rfl;have hb108:∀ rc,bV (fun i=>[(0,1),(1,1),(2,1),(3,3)][i]?) [.pointer none,.slice none 0 0,.bool false,.int .u64 0,.int .i64 0,.slice none 0 0] [(0,ptv rc)]=some [ptv rc,.slice none 0 0,.bool false,.int .u64 0,.int .i64 0,.slice none 0 0]:=fun rc=>rfl;have hb53:∀ rtr rs,bV (fun i=>[(0,1),(1,1),(2,1),(3,2)][i]?) [.pointer none,.pointer none,.pointer none,.int .i64 0,.int .i64 0] [(0,ptv rd),(1,ptv rtr),(2,ptv rs),(3,.agg #[.int .i64 P,.int .i64 T])]=some [ptv rd,ptv rtr,ptv rs,.int .i64 P,.int .i64 T]:=fun _ _=>rfl;(refine W.k ?_;repeat intro b_);(refine SW.l [15] [0,1,2,3,4,5] ?_;refine dS 7 rfl (yI rfl rfl) ?_;refine SG.l [11] ?_;skip );refine iV 6 8 ?a ?b rfl rfl;case' a=>
  refine aBz fun rtr=>?_;refine dU ?_;refine aX 8 ?_;refine aF (aIf (len:=16) (cap:=16) k (.inl hk)) ?_ (hpre:=fun w2 hs=>Rd.atB (Hc:=[]) (T:=22) (fz:=(0,0)) k hs hk (Nat.le_refl _));rintro _ HR ⟨rc,rfl,hR⟩;have hbrc:=hb108 rc;refine dU ?_;refine dS 9 rfl (pQ rfl rfl hbrc) ?_;refine aX 10 ?_;refine aBz fun rs=>?_
 case' b=>
  refine aF (aIf (len:=16) (cap:=16) k (.inl hk)) ?_ (hpre:=fun w2 hs=>Rd.atB (Hc:=[]) (T:=22) (fz:=(0,0)) k hs hk (Nat.le_refl _));rintro _ HR ⟨rc,rfl,hR⟩;have hbrc:=hb108 rc;refine dU ?_;refine dS 9 rfl (pQ rfl rfl hbrc) ?_;refine iV 6 10 ?c ?d rfl rfl;case' c=>
   refine aBz fun rtr=>?_;refine dU ?_;refine aX 10 ?_;refine aBz fun rs=>?_
  case' d=>
   refine aBz fun rs=>?_;refine dU ?_;refine aX 6 ?_;refine aBz fun rtr=>?_
 all_goals
  (refine bB [] ?_;refine dS 12 rfl (pQ rfl rfl (hb53 rtr rs)) ?_;refine SG.l [13,14] ?_;refine bL 15 ?_;(refine W.i ?_;repeat intro b_);refine SS.dn ?_);rw [show List.take 7 ([ptv d,ptv tr,ptv s,ptv bk,.int .i64 P,.int .i64 T,.pointer none,.pointer none,.pointer none,.pointer none,.int .i64 0,.int .i64 0,.pointer none]:LV)++[ptv rd,ptv rtr,ptv rs,.int .i64 P,.int .i64 T]++List.drop (7+5) ([ptv d,ptv tr,ptv s,ptv bk,.int .i64 P,.int .i64 T,.pointer none,.pointer none,.pointer none,.pointer none,.int .i64 0,.int .i64 0,.pointer none]:LV)=[ptv d,ptv tr,ptv s,ptv bk,.int .i64 P,.int .i64 T,.pointer none,ptv rd,ptv rtr,ptv rs,.int .i64 P,.int .i64 T,.pointer none] from rfl];(refine W.k ?_;repeat intro b_);refine Fin.to ((b_,cl [ptv d,ptv tr,ptv s,ptv bk,.int .i64 P,.int .i64 T,.pointer none,ptv rd,ptv rtr,ptv rs,.int .i64 P,.int .i64 T,.pointer none] 52) ::
   (tr,cl (trc d (rg0 cnt)) 201)::(s,cl [ptv c,.map (some m),.slice none 0 0] 123)::(m,mo [])::(b,gK) ::
   (rtr,cl (rgc (rg0 cnt)++[ptv rd]) 100)::(rs,cl [ptv rc,.slice none 0 0,.bool false,.int .u64 0,.int .i64 0,.slice none 0 0] 107) ::
   (Hd++(Hb++(Hc++(HD++HR))))) ?_
  refine F.f1 ⟨b_,rfl,?_⟩;exact⟨d,tr,s,m,bk,tb,c,b,rd,rtr,rs,rc,Hd,Hb,Hc,HD,HR,hD,hB,hC,hDR,hR,rfl⟩
theorem aL2{p t:Nat}(h:Gm.Ok p t)(k:LB)(hk:k.length=16){cnt:Int}(h0:0<=cnt)(h1:cnt<=18446744073709551615):Tri prog 7 [kM p t,.agg (cbs k).toArray,.int .u64 cnt] [] NT
  (fun v H=>∃ pp,v=ptv pp/\aPw pp p t k cnt H):=
 aFy (aAA h) (by rw [pR,Gm.all_len]) (Gm.total_le2 h) k hk h0 h1
abbrev vW(d tr s bk p t:Nat):Value:=.agg #[ptv d,ptv tr,ptv s,ptv bk,.int .i64 (p:Int),.int .i64 (t:Int)]
def Dv.blk(C:Dv)(k:Nat):LB:=C.loadB (256*k:Nat) 256
end
section
attribute [local irreducible] SW SL SQ SH SA Pu Fin
def qK(C:Dv)(r r':Rg):Dv:=if C.down=true then C else if r'.c<=r.c then C else C.doo
def oM(C:Dv)(r r':Rg):Rg:=if C.down=true then r else if r'.c<=r.c then r else if C.dooE=0 then r' else r
def qL(C:Dv)(r r':Rg):Int:=if C.down=true then 8 else if r'.c<=r.c then 3 else C.dooE
theorem aLm(tp p:Nat)(r r':Rg)(h:r.Ok)(h':r'.Ok){C:Dv}{H:Hp}(hD:eX p C H):Tri prog 148 [.pointer (some ⟨tp,0,none⟩),.agg (rgc r').toArray] ((tp,cl (trc p r) 201)::H) NT (fun v H'=>v=.int .i64 (qL C r r')/\∃ H2,H'=(tp,cl (trc p (oM C r r')) 201)::H2/\eX p (qK C r r') H2):=by
 obtain⟨f1,f2,f3,f4,f5,f6⟩:=aBv p h;have hl':=mR h';have hr':((rgc r').drop 0).take 33=rgc r':=by rw [bQ,aK oQ]
 have fp:=aM7 p h h';have hdn:=aHX hD;have hdo:=aPR hD;have b1:0+0+33<=(trc p r).length:=oQ;refine Tri.mt func148 ntmps148 fun w hw=>?_;refine W.o fun b_=>?_;refine dN H rfl rfl rfl rfl rfl rfl hdn (fun _ _=>trivial) ?_;rintro _ Hx ⟨rfl,rfl⟩;cases hd:C.down
 ·repeat' (first|(refine sB ?_;refine zT rfl rfl ?_)|(refine aDu ?_;refine bN (fA rfl rfl) rfl rfl ?_)|(refine aBy ?_;refine bN (rN rfl rfl) rfl rfl ?_)|(refine aFr ?_;refine bN (rP rfl rfl) rfl rfl ?_)|(refine aDr ?_;refine bN (gJ rfl rfl rfl) rfl rfl ?_)|(refine aDs ?_;(first|refine bN (jD rfl rfl rfl) rfl rfl ?_|refine bN (jD rfl rfl (by assumption)) rfl rfl ?_|refine bN (mL rfl rfl rfl rfl) rfl rfl ?_|refine bN (mL rfl rfl (by assumption) (by assumption)) rfl rfl ?_))|(refine aCd ?_;(first|refine bN (qF rfl rfl) rfl rfl ?_|refine bN (tO rfl rfl) rfl rfl ?_|refine bN (tN rfl rfl) rfl rfl ?_|refine bN (qE rfl rfl) rfl rfl ?_|refine bN (aGf rfl rfl rfl rfl) rfl rfl ?_|refine bN (aGg rfl rfl rfl rfl) rfl rfl ?_))|(refine aDv ?_;(first|refine bN (wN rfl rfl rfl) rfl rfl ?_|refine bN (wM rfl rfl rfl) rfl rfl ?_))|(refine aDt ?_;refine bN (rO rfl rfl rfl) rfl rfl ?_)|(refine aHz ?_;refine bN (aGh rfl rfl) rfl rfl ?_)|(refine aCc ?_;(first|refine bN (pQ rfl rfl (by rfl)) rfl rfl ?_|refine bN (nS rfl rfl (by rfl)) rfl rfl ?_))|(refine aFq ?_;(first|refine bN (sH rfl rfl rfl) rfl rfl ?_|refine bN (sH rfl rfl (by assumption)) rfl rfl ?_|refine bN (tM rfl rfl rfl) rfl rfl ?_))|(refine aFd ?_;refine bN (tK rfl rfl rfl (w64 oQ)) rfl rfl ?_)|(refine aFn ?_;refine bN (aDL rfl rfl rfl (w64 oQ)) rfl rfl ?_)|(refine aFj ?_;refine bN (kK rfl rfl rfl (w64 oQ)) rfl rfl ?_)|(refine aFl ?_;refine bN (aCN rfl rfl rfl dQ (w64 oQ)) rfl rfl ?_)|(refine aFm ?_;refine bN (aCO rfl rfl rfl dQ rfl) rfl rfl ?_)|(refine aFi ?_;(first|refine bN (Pu.t (oV rfl rfl rfl) oQ) rfl rfl ?_|refine bN (Pu.f (oV rfl rfl rfl) oQ) rfl rfl ?_|refine dP (oV rfl rfl rfl) rfl rfl (fun h_=>?_) (fun h_=>?_)))|(refine aFh ?_;(first|refine bN (Pu.t (oU rfl rfl rfl) oQ) rfl rfl ?_|refine bN (Pu.f (oU rfl rfl rfl) oQ) rfl rfl ?_|refine dP (oU rfl rfl rfl) rfl rfl (fun h_=>?_) (fun h_=>?_)))|(refine aFg ?_;(first|refine bN (Pu.t (oS rfl rfl rfl) oQ) rfl rfl ?_|refine bN (Pu.f (oS rfl rfl rfl) oQ) rfl rfl ?_|refine dP (oS rfl rfl rfl) rfl rfl (fun h_=>?_) (fun h_=>?_)))|(refine aFf ?_;(first|refine bN (Pu.t (oR rfl rfl rfl) oQ) rfl rfl ?_|refine bN (Pu.f (oR rfl rfl rfl) oQ) rfl rfl ?_|refine dP (oR rfl rfl rfl) rfl rfl (fun h_=>?_) (fun h_=>?_)))|(refine aFe ?_;(first|refine bN (aAq rfl rfl rfl) rfl rfl ?_|refine bN (tL rfl rfl rfl) rfl rfl ?_|refine bN (Pu.t (mV rfl rfl rfl) oQ) rfl rfl ?_|refine bN (Pu.f (mV rfl rfl rfl) oQ) rfl rfl ?_|refine dP (mV rfl rfl rfl) rfl rfl (fun h_=>?_) (fun h_=>?_)))|(refine aFk ?_;(first|refine bN (aAs rfl rfl rfl) rfl rfl ?_|refine bN (tQ rfl rfl rfl) rfl rfl ?_|refine bN (Pu.t (oW rfl rfl rfl) oQ) rfl rfl ?_|refine bN (Pu.f (oW rfl rfl rfl) oQ) rfl rfl ?_|refine dP (oW rfl rfl rfl) rfl rfl (fun h_=>?_) (fun h_=>?_)))|(refine aFp ?_;(first|refine aGE rfl rfl rfl rfl (fun b_=>?_)|refine aCa rfl rfl rfl rfl (fun b_=>?_)))|(refine aCb ?_;refine SL.alloc rfl rfl rfl (fun b_=>?_))|(refine aCe ?_;(first|refine SL.store rfl rfl rfl rfl rfl (by first|assumption|exact fH rfl) ?_|refine yQ rfl rfl rfl rfl rfl (by first|assumption|rfl) (by rfl) ?_|refine uB rfl rfl rfl rfl rfl (by first|rfl|assumption) (by first|assumption|exact fH rfl) (by first|assumption|rfl) ?_))|refine jB ?_|refine pC ?_|refine mQ ?_|refine SW.block ?_|refine aAR rfl ?_|refine aAQ rfl ?_|refine aGL ?_|refine SW.skip ?_|refine aEb ?_|refine jG rfl (fun h_=>?_) (fun h_=>?_)|refine aGJ aPY kQ ?_|(refine SQ.isGd ?_;refine SQ.sk rfl rfl ?_)|(refine aIC ?_;refine gL (fA rfl rfl) rfl rfl ?_)|(refine aFs ?_;refine gL (rN rfl rfl) rfl rfl ?_)|(refine aJO ?_;refine gL (rP rfl rfl) rfl rfl ?_)|(refine aIA ?_;refine gL (gJ rfl rfl rfl) rfl rfl ?_)|(refine aIB ?_;(first|refine gL (jD rfl rfl rfl) rfl rfl ?_|refine gL (jD rfl rfl (by assumption)) rfl rfl ?_|refine gL (mL rfl rfl rfl rfl) rfl rfl ?_|refine gL (mL rfl rfl (by assumption) (by assumption)) rfl rfl ?_))|(refine SQ.isCallB ?_;(first|refine gL (qF rfl rfl) rfl rfl ?_|refine gL (tO rfl rfl) rfl rfl ?_|refine gL (tN rfl rfl) rfl rfl ?_|refine gL (qE rfl rfl) rfl rfl ?_|refine gL (aGf rfl rfl rfl rfl) rfl rfl ?_|refine gL (aGg rfl rfl rfl rfl) rfl rfl ?_))|(refine SQ.isPick ?_;(first|refine gL (wN rfl rfl rfl) rfl rfl ?_|refine gL (wM rfl rfl rfl) rfl rfl ?_))|(refine SQ.isMkFn ?_;refine gL (rO rfl rfl rfl) rfl rfl ?_)|(refine SQ.isUn ?_;refine gL (aGh rfl rfl) rfl rfl ?_)|(refine SQ.isBuild ?_;(first|refine gL (pQ rfl rfl (by rfl)) rfl rfl ?_|refine gL (nS rfl rfl (by rfl)) rfl rfl ?_))|(refine SQ.isFld ?_;(first|refine gL (sH rfl rfl rfl) rfl rfl ?_|refine gL (sH rfl rfl (by assumption)) rfl rfl ?_|refine gL (tM rfl rfl rfl) rfl rfl ?_))|(refine SQ.b_add ?_;refine gL (tK rfl rfl rfl (w64 oQ)) rfl rfl ?_)|(refine SQ.b_sub ?_;refine gL (aDL rfl rfl rfl (w64 oQ)) rfl rfl ?_)|(refine SQ.b_mul ?_;refine gL (kK rfl rfl rfl (w64 oQ)) rfl rfl ?_)|(refine SQ.b_quo ?_;refine gL (aCN rfl rfl rfl dQ (w64 oQ)) rfl rfl ?_)|(refine SQ.b_rem ?_;refine gL (aCO rfl rfl rfl dQ rfl) rfl rfl ?_)|(refine SQ.b_lss ?_;(first|refine gL (Pu.t (oV rfl rfl rfl) oQ) rfl rfl ?_|refine gL (Pu.f (oV rfl rfl rfl) oQ) rfl rfl ?_|refine aAO (oV rfl rfl rfl) rfl rfl (fun h_=>?_) (fun h_=>?_)))|(refine aJN ?_;(first|refine gL (Pu.t (oU rfl rfl rfl) oQ) rfl rfl ?_|refine gL (Pu.f (oU rfl rfl rfl) oQ) rfl rfl ?_|refine aAO (oU rfl rfl rfl) rfl rfl (fun h_=>?_) (fun h_=>?_)))|(refine SQ.b_gtr ?_;(first|refine gL (Pu.t (oS rfl rfl rfl) oQ) rfl rfl ?_|refine gL (Pu.f (oS rfl rfl rfl) oQ) rfl rfl ?_|refine aAO (oS rfl rfl rfl) rfl rfl (fun h_=>?_) (fun h_=>?_)))|(refine SQ.b_geq ?_;(first|refine gL (Pu.t (oR rfl rfl rfl) oQ) rfl rfl ?_|refine gL (Pu.f (oR rfl rfl rfl) oQ) rfl rfl ?_|refine aAO (oR rfl rfl rfl) rfl rfl (fun h_=>?_) (fun h_=>?_)))|(refine SQ.b_eql ?_;(first|refine gL (aAq rfl rfl rfl) rfl rfl ?_|refine gL (tL rfl rfl rfl) rfl rfl ?_|refine gL (Pu.t (mV rfl rfl rfl) oQ) rfl rfl ?_|refine gL (Pu.f (mV rfl rfl rfl) oQ) rfl rfl ?_|refine aAO (mV rfl rfl rfl) rfl rfl (fun h_=>?_) (fun h_=>?_)))|(refine SQ.b_neq ?_;(first|refine gL (aAs rfl rfl rfl) rfl rfl ?_|refine gL (tQ rfl rfl rfl) rfl rfl ?_|refine gL (Pu.t (oW rfl rfl rfl) oQ) rfl rfl ?_|refine gL (Pu.f (oW rfl rfl rfl) oQ) rfl rfl ?_|refine aAO (oW rfl rfl rfl) rfl rfl (fun h_=>?_) (fun h_=>?_)))|refine aNQ ?_)
  ·exact Fin.rm b_ (Fin.perm cA (Fin.s1 (.inl rfl) rfl rfl ⟨by simp [qL,hd,h_],Hx,by simp [oM,hd,h_],by simpa [qK,hd,h_] using hD⟩))
  refine W.o ?_;refine dN Hx rfl rfl rfl rfl rfl rfl hdo (fun _ _=>trivial) ?_;rintro _ H2 ⟨rfl,hD2⟩;have hD3:eX p (qK C r r') H2:=by simpa [qK,hd,h_] using hD2
  by_cases he:C.dooE=0
  ·refine W.o ?_;refine Fin.rm b_ (Fin.perm cA (Fin.s1 (.inl rfl) rfl rfl ⟨by simp [qL,hd,h_,he],H2,by simp [oM,hd,h_,he],hD3⟩))
  refine W.o ?_;refine Fin.rm b_ (Fin.perm cA (Fin.s1 (.inl rfl) rfl rfl ⟨by simp [qL,hd,h_],H2,by simp [oM,hd,h_,he],hD3⟩))
 refine W.o ?_;exact Fin.rm b_ (Fin.perm cA (Fin.s1 (.inl rfl) rfl rfl ⟨by simp [qL,hd],Hx,by simp [oM,hd],by simpa [qK,hd] using hD⟩))
def rgQ(l:LV):Prop:=
 (∃ n,(l.drop 0).take 1=[.int .u64 n])/\(((l.drop (0+1)).take 32).length=32/\∀ i,(i+1)*1<=((l.drop (0+1)).take 32).length->∃ n,((((l.drop (0+1)).take 32).drop (i*1)).take 1)=[.int .u8 n])/\l.length=33
instance regEq:EqS prog 93 rgQ where
 under:=by kernel_rfl
 held:=by kernel_rfl
 guard:=by kernel_rfl
 cov:=by
  refine⟨_,2,33,underlying93,dQ,?_⟩
  unfold rgQ
  refine Cov.cons (n:=1) (D':=1) (agg:=false) (p:=fun l=>∃ n,l=[.int .u64 n]) ?_ rfl ?_ ?_ ?_
  ·decide
  ·exact xV.int (t:=23) underlying23
  ·decide
  refine Cov.cons (n:=32) (D':=2) (agg:=true) (p:=fun l=>l.length=32/\∀ i,(i+1)*1<=l.length->∃ n,(l.drop (i*1)).take 1=[.int .u8 n]) ?_ rfl ?_ ?_ ?_
  ·decide
  ·exact xV.array (t:=91) (m:=32) (n:=1) underlying91 kQ rfl (xV.int (t:=5) underlying5)
  ·decide
  exact .nil 33
theorem aMQ{r:Rg}(h:r.Ok):rgQ (rgc r):=by
 have hl:=h.len;refine⟨⟨r.c,rfl⟩,⟨by simp [rgc,hl],fun i hi=>?_⟩,mR h⟩;have h1:((rgc r).drop (0+1)).take 32=r.root.map bv:=by show (r.root.map bv).take 32=_;rw [aK (by simp [hl])]
 rw [h1] at hi |-;simp only [aC,hl] at hi;have hi2:i<r.root.length:=oQ;refine⟨(r.root[i].toNat:Int),?_⟩;rw [Nat.mul_one,bK (by simpa using hi2)];simp [bv]
end
section
attribute [local irreducible] SW SL SQ SH SA SS Pu Fin
def rtc(e:Nat)(r:Rg):LV:=rgc r++[.pointer (some ⟨e,0,none⟩)]
theorem aBs(e:Nat){r:Rg}(h:r.Ok):((rtc e r).drop 0).take 33=rgc r/\(rgc r).length=33/\(rtc e r)[33]?=some (.pointer (some ⟨e,0,none⟩))/\(rtc e r)[0]?=some (.int .u64 r.c)/\(rtc e r).length=34/\((rtc e r).drop 1).take 32=r.root.map bv:=by
 have hl:=mR h;refine⟨?_,hl,?_,rfl,by simp [rtc,hl],?_⟩
 ·rw [rtc,bQ,cT hl]
 ·rw [rtc,aV oQ,hl];rfl
 show ((r.root.map bv++_).take 32)=_;rw [cT (by simpa using h.len)]
theorem aMU(e:Nat){r r':Rg}(h:r.Ok)(h':r'.Ok):(rtc e r).take 0++rgc r'++(rtc e r).drop (0+33)=rtc e r':=by rw [rtc,cU,List.nil_append,eR (by rw [mR h])];rfl
theorem aHk(tp p:Nat)(r r':Rg)(h:r.Ok)(h':r'.Ok){C:Dv}{H:Hp}(hD:gS p C H):Tri prog 125 [.pointer (some ⟨tp,0,none⟩),.agg (rgc r').toArray] ((tp,cl (rtc p r) 100)::H) NT (fun v H'=>v=.int .i64 (qL C r r')/\∃ H2,H'=(tp,cl (rtc p (oM C r r')) 100)::H2/\gS p (qK C r r') H2):=by
 obtain⟨f1,f2,f3,f4,f5,f6⟩:=aBs p h;have hl':=mR h';have hr':((rgc r').drop 0).take 33=rgc r':=by rw [bQ,aK oQ]
 have fp:=aMU p h h';have hdo:=aOV hD;have hD2:=hD;have b1:0+33<=(rtc p r).length:=oQ;obtain⟨hO,bl,bn,bp,bm,vp,va,Hq,Ha,h1,h2,rfl⟩:=hD2;refine Tri.mt func125 ntmps125 fun w hw=>?_;refine W.k fun b_=>?_;cases hd:C.down
 ·rw [hd] at hdo;refine W.k ?_;(refine SW.l [] [0,1,2,3,4,5,6] ?_;(first|refine dS 7 rfl (Pu.t (yG rfl rfl rfl rfl) (by dsimp only [xX];first|done|omega)) ?_|refine dS 7 rfl (Pu.f (yG rfl rfl rfl rfl) (by dsimp only [xX];first|done|omega)) ?_|refine dS 7 rfl (yG rfl rfl rfl rfl) ?_|refine dS 7 rfl (aKL rfl rfl rfl) ?_);refine SS.dn ?_);repeat' (first|(refine W.go ?_;try intro b_)  | (refine W.cs (fun h_=>?_) (fun h_=>?_) <;> dsimp only [xX] at h_)|(refine aAP rfl (fun h_=>?_) (fun h_=>?_) <;> (try dsimp only [xX] at h_))|refine jG rfl (fun h_=>?_) (fun h_=>?_))
  ·refine Fin.rm b_ ?_;refine F.f1 ?_;exact⟨by simp [qL,hd,h_],_,by simp [oM,hd,h_];rfl,by simpa [qK,hd,h_] using hD⟩
  refine aF hdo ?_;rintro _ H2 ⟨rfl,hD2⟩;have hD3:gS p (qK C r r') H2:=by simpa [qK,hd,h_] using hD2
  by_cases he:C.dooE=0
  ·refine W.k ?_;refine Fin.rm b_ ?_;rw [fp];refine Fin.perm cA ?_;refine F.f1 ?_;exact⟨by simp [qL,hd,h_,he],H2,by simp [oM,hd,h_,he],hD3⟩
  refine W.k ?_;refine Fin.rm b_ ?_;refine Fin.perm cA ?_;refine F.f1 ?_;exact⟨by simp [qL,hd,h_],H2,by simp [oM,hd,h_,he],hD3⟩
 rw [hd] at hdo;refine W.k ?_;refine Fin.rm b_ ?_;refine F.f1 ?_;exact⟨by simp [qL,hd],_,by simp [oM,hd];rfl,by simpa [qK,hd] using hD⟩
end
end Go.Proofs.YtdfclocfackkmaaGreat
