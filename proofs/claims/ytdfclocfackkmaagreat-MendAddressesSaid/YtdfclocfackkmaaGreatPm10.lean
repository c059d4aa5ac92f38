/- The sum of two, of all, of a block: the program's and the document's. -/
import Derived.Test.YtdfclocfackkmaaGreatPm9
set_option linter.unusedVariables false
set_option linter.unusedSimpArgs false
set_option linter.unusedSectionVars false
namespace Go.Proofs.YtdfclocfackkmaaGreat
open Go Go.Proofs.Tryz
section
attribute [local irreducible] SW SL SQ SH SA SS Pu Fin bS aN
theorem xC{K:List Nat}{vs:LV}{a1 a2 a3 a4:Option Addr}{l1 l2 l3 l4 c1 c2 c3 c4:Nat}{d1 d2 d3 d4:LB}{w:World}(hv:vs=[.slice a1 l1 c1,.slice a2 l2 c2,.slice a3 l3 c3,.slice a4 l4 c4])(h1:Rd K w 1 (.slice a1 l1 c1) (cbs d1))(h2:Rd K w 1 (.slice a2 l2 c2) (cbs d2))(h3:Rd K w 1 (.slice a3 l3 c3) (cbs d3))(h4:Rd K w 1 (.slice a4 l4 c4) (cbs d4)):∀ (i:Nat) (bs:LB),[d1,d2,d3,d4][i]?=some bs->∃ (a:Option Addr) (len cap:Nat),vs[i]?=some (Value.slice a len cap)/\Rd K w 1 (.slice a len cap) (cbs bs):=by
 intro i bs hi;have hi0:i=0\/i=1\/i=2\/i=3:=by have:=(aD.1 hi).1;simp at this;omega
 subst hv;rcases hi0 with rfl|rfl|rfl|rfl <;> cases hi
 ·exact⟨a1,l1,c1,rfl,h1⟩
 ·exact⟨a2,l2,c2,rfl,h2⟩
 ·exact⟨a3,l3,c3,rfl,h3⟩
 exact⟨a4,l4,c4,rfl,h4⟩
abbrev aCR(d i:Nat):Value:=.agg [(.int .i64 (d:Int):Value),.int .i64 (i:Int)].toArray
abbrev dgV(x:LB):Value:=.agg (cbs x).toArray
theorem bs4(a1 a2 a3 a4:Option Addr)(l1 l2 l3 l4 c1 c2 c3 c4:Nat):bV (fun i=>some (i*1,1)) (zs [.slice none 0 0] 4) [(0,.slice a1 l1 c1),(1,.slice a2 l2 c2),(2,.slice a3 l3 c3),(3,.slice a4 l4 c4)]=some [.slice a1 l1 c1,.slice a2 l2 c2,.slice a3 l3 c3,.slice a4 l4 c4]:=rfl
theorem aL5(a1 a2:Option Addr)(l1 l2 c1 c2:Nat):bV (fun i=>some (i*1,1)) (zs [.slice none 0 0] 2) [(0,.slice a1 l1 c1),(1,.slice a2 l2 c2)]=some [.slice a1 l1 c1,.slice a2 l2 c2]:=rfl
theorem b1'(x:UInt8):bV (fun i=>some (i*1,1)) (zs [Value.int .u8 0] 1) [(0,.int .u8 (x.toNat:Int))]=some (cbs [x]):=rfl
theorem lN{x:LB}(h:x.length=32):(cbs x).length=32:=by rw [aI,h]
theorem Rd.my{K:List Nat}{w0 w:World}{H Hc r:Hp}(b:Nat){len:Nat}{T:TypeId}(bs:LB)(hs:St K w0 H w) [hp:eY H (Hc++[(b,cl (cbs bs) T)]) r](hl:bs.length=len):Rd (Hc.map Prod.fst) w 1 (.slice (some ⟨b,0,none⟩) len len) (cbs bs):=
 Rd.atB (T:=T) (fz:=(0,0)) bs hs hl (Nat.le_refl _)
theorem aKA{b tp:Nat}{s:Bk}{H:Hp}(hB:eP b tp s H)(d i:Nat)(x y:LB)(hx:x.length=32)(hy:y.length=32):Tri prog 233 [.pointer (some ⟨b,0,none⟩),aCR d i,dgV x,dgV y] H NT (fun v H'=>v=dgV (oE d i x y)/\eP b tp (s.add (wK d i x y)) H'):=by
 refine Tri.mt func233 ntmps233 fun w hw=>?_;have hx1:=lN hx;have hy1:=lN hy;have hr:(cbs (oE d i x y)).length=32:=lN (xL ..);have hfl:[[UInt8.ofNat d],leN 4 (UInt64.ofNat i),x,y].flatten.length=69:=by simp [dV,hx,hy]
 refine W.k fun _ _ _ b_=>?_;rename_i bp bx by_;(refine SW.l [11,12,13] [0,1,2,3,5,6,7] ?_;refine dS 9 rfl (yI rfl rfl) ?_;refine dS 10 rfl (yI rfl rfl) ?_;skip );have hput:=yK 4 (UInt64.ofNat i) oQ oQ;have hS:∀ pv,Tri prog 183 [.pointer (some ⟨b,0,none⟩),.int .u8 ((1:UInt8).toNat:Int),pv] H (fun w=>RdS (H.map Prod.fst) w pv [[UInt8.ofNat d],leN 4 (UInt64.ofNat i),x,y]) (fun v H'=>v=dgV (oE d i x y)/\eP b tp (s.add (wK d i x y)) H'):=fun pv=>aGB hB 1 pv [[UInt8.ofNat d],leN 4 (UInt64.ofNat i),x,y] (by rw [hfl];decide) (by simp only [aW,List.length_nil];omega);refine iV 4 8 ?_ ?_ rfl rfl
 ·refine iQ (fun b1=>?_) (hr:=b1' _);refine dU ?_;refine aX 8 ?_;refine eC hput rfl ?_;rintro _ _ ⟨b2,rfl,rfl⟩;(refine bB [] ?_;refine bL 11 ?_);refine iQ (fun b3=>?_) (hr:=bs4 ..);(refine bB [] ?_;refine bL 12 ?_);refine eC (hS (.slice (some ⟨b3,0,none⟩) 4 4)) rfl ?_ (hpre:=fun w2 hs=>?_);rotate_left
  ·exact RdS.at (T:=31) (fz:=(0,0)) (Hc:=H) hs rfl (Nat.le_refl _) rfl (xC rfl (Rd.my (Hc:=H) (T:=5) b1 _ hs rfl) (Rd.my (Hc:=H) (T:=5) b2 _ hs (dV ..)) (Rd.my (Hc:=H) (T:=91) bx _ hs hx) (Rd.my (Hc:=H) (T:=91) by_ _ hs hy))
  rintro _ H' ⟨rfl,hB'⟩;(refine bB [] ?_;refine bL 13 ?_;refine W.i ?_;refine SS.dn ?_);refine W.k ?_;exact F.cH H' (cbs (oE d i x y)) ⟨rfl,hB'⟩
 refine eC hput rfl ?_;rintro _ _ ⟨b2,rfl,rfl⟩;refine dU ?_;refine aX 4 ?_;refine iQ (fun b1=>?_) (hr:=b1' _);(refine bB [] ?_;refine bL 11 ?_);refine iQ (fun b3=>?_) (hr:=bs4 ..);(refine bB [] ?_;refine bL 12 ?_);refine eC (hS (.slice (some ⟨b3,0,none⟩) 4 4)) rfl ?_ (hpre:=fun w2 hs=>?_);rotate_left
 ·exact RdS.at (T:=31) (fz:=(0,0)) (Hc:=H) hs rfl (Nat.le_refl _) rfl (xC rfl (Rd.my (Hc:=H) (T:=5) b1 _ hs rfl) (Rd.my (Hc:=H) (T:=5) b2 _ hs (dV ..)) (Rd.my (Hc:=H) (T:=91) bx _ hs hx) (Rd.my (Hc:=H) (T:=91) by_ _ hs hy))
 rintro _ H' ⟨rfl,hB'⟩;(refine bB [] ?_;refine bL 13 ?_;refine W.i ?_;refine SS.dn ?_);refine W.k ?_;exact F.cH H' (cbs (oE d i x y)) ⟨rfl,hB'⟩
theorem aO4{b tp:Nat}{s:Bk}{H:Hp}(hB:eP b tp s H)(n:Nat)(x:LB)(hx:x.length=32):Tri prog 200 [.pointer (some ⟨b,0,none⟩),.int .i64 (n:Int),dgV x] H NT (fun v H'=>v=dgV (Sha.sum (mW n x))/\eP b tp (s.add (mW n x)) H'):=by
 refine Tri.mt func200 ntmps200 fun w hw=>?_;have hx1:=lN hx;have hr:(cbs (Sha.sum (mW n x))).length=32:=lN (Sha.sum_len _);have hfl:[leN 4 (UInt64.ofNat n),x].flatten.length=36:=by simp [dV,hx]
 have hS:∀ pv,Tri prog 183 [.pointer (some ⟨b,0,none⟩),.int .u8 ((2:UInt8).toNat:Int),pv] H (fun w=>RdS (H.map Prod.fst) w pv [leN 4 (UInt64.ofNat n),x]) (fun v H'=>v=dgV (Sha.sum (mW n x))/\eP b tp (s.add (mW n x)) H'):=fun pv=>aGB hB 2 pv [leN 4 (UInt64.ofNat n),x] (by rw [hfl];decide) (by simp only [aW,List.length_nil];omega);refine W.k fun _ b_=>?_;rename_i bx;(refine SW.l [] [0,1,2] ?_;refine dS 4 rfl (yI rfl rfl) ?_;refine aX 3 ?_);refine eC (yK 4 (UInt64.ofNat n) oQ oQ) rfl ?_;rintro _ _ ⟨b2,rfl,rfl⟩;(refine bB [] ?_;refine aX 5 ?_);refine iQ (fun b3=>?_) (hr:=aL5 ..);(refine bB [] ?_;refine aX 6 ?_);refine eC (hS (.slice (some ⟨b3,0,none⟩) 2 2)) rfl ?_ (hpre:=fun w2 hs=>?_);rotate_left
 ·exact RdS.at (T:=31) (fz:=(0,0)) (Hc:=H) hs rfl (Nat.le_refl _) rfl (aE4 rfl (Rd.my (Hc:=H) (T:=5) b2 _ hs (dV ..)) (Rd.my (Hc:=H) (T:=91) bx _ hs hx))
 rintro _ H' ⟨rfl,hB'⟩;(refine bB [] ?_;refine aX 7 ?_;refine W.i ?_;refine SS.dn ?_);refine W.k ?_;exact F.cH H' (cbs (Sha.sum (mW n x))) ⟨rfl,hB'⟩
theorem aG7{b tp:Nat}{s:Bk}{H:Hp}(hB:eP b tp s H)(k:Nat)(v:Value)(x:LB)(hx:x.length<=1099511620000):Tri prog 109 [.pointer (some ⟨b,0,none⟩),.int .i64 (k:Int),v] H (fun w=>Rd (H.map Prod.fst) w 1 v (cbs x)) (fun v H'=>v=dgV (Sha.sum (fV k x))/\eP b tp (s.add (fV k x)) H'):=by
 refine Tri.mt func109 ntmps109 fun w hw=>?_;have hr:(cbs (Sha.sum (fV k x))).length=32:=lN (Sha.sum_len _);have hfl:[leN 4 (UInt64.ofNat k),x].flatten.length=4+x.length:=by simp [dV]
 have hS:∀ pv,Tri prog 183 [.pointer (some ⟨b,0,none⟩),.int .u8 ((0:UInt8).toNat:Int),pv] H (fun w=>RdS (H.map Prod.fst) w pv [leN 4 (UInt64.ofNat k),x]) (fun v H'=>v=dgV (Sha.sum (fV k x))/\eP b tp (s.add (fV k x)) H'):=fun pv=>aGB hB 0 pv [leN 4 (UInt64.ofNat k),x] (by rw [hfl];omega) (by simp only [aW,List.length_nil];omega);have hv1:=hw.isOne;have hw2:=hw;obtain⟨pa,pl,pc,rfl,-⟩:=hw.get;refine W.k fun b_=>?_;refine eC (yK 4 (UInt64.ofNat k) oQ oQ) rfl ?_;rintro _ _ ⟨b2,rfl,rfl⟩;have hb:=aL5 (some ⟨b2,0,none⟩) pa 4 pl 4 pc;refine W.k fun b_=>?_;refine eC (hS (.slice (some ⟨b_,0,none⟩) 2 2)) rfl ?_ (hpre:=fun w2 hs=>?_);rotate_left
 ·exact RdS.at (T:=31) (fz:=(0,0)) (Hc:=H) hs rfl (Nat.le_refl _) rfl (aE4 rfl (Rd.my (Hc:=H) (T:=5) b2 _ hs (dV ..)) (hw2.ro (Hc:=H) hs))
 rintro _ H' ⟨rfl,hB'⟩;refine W.k ?_;exact F.cH H' (cbs (Sha.sum (fV k x))) ⟨rfl,hB'⟩
theorem aMR(d i:Nat)(x y:LB)(hx:x.length=32)(hy:y.length=32):Tri prog 201 [.int .i64 (d:Int),.int .i64 (i:Int),dgV x,dgV y] [] NT (fun v H=>v=dgV (oE d i x y)/\H=[]):=by
 refine Tri.mt func201 ntmps201 fun w hw=>?_;have hx1:=lN hx;have hy1:=lN hy;have hr:(cbs (oE d i x y)).length=32:=lN (xL ..);have hfl:[[UInt8.ofNat d],leN 4 (UInt64.ofNat i),x,y].flatten.length=69:=by simp [dV,hx,hy]
 have hput:=wS 4 (UInt64.ofNat i) oQ;have hS:∀ pv,Tri prog 189 [.int .u8 ((1:UInt8).toNat:Int),pv] [] (fun w=>RdS [] w pv [[UInt8.ofNat d],leN 4 (UInt64.ofNat i),x,y]) (fun v H'=>v=dgV (oE d i x y)/\H'=[]):=fun pv=>aD7 1 pv [[UInt8.ofNat d],leN 4 (UInt64.ofNat i),x,y] (by rw [hfl];decide) (by simp only [aW,List.length_nil];omega);refine W.k fun _ _ b_=>?_;rename_i bx by_;(refine SW.l [] [0,1,3,4] ?_;refine dS 6 rfl (yI rfl rfl) ?_;refine dS 7 rfl (yI rfl rfl) ?_;skip );refine iV 2 5 ?_ ?_ rfl rfl
 ·refine iQ (fun b1=>?_) (hr:=b1' _);refine dU ?_;refine aX 5 ?_;refine eC hput rfl ?_;intro v2 H2 h2;have h21:=h2.isOne;obtain⟨a2,l2,c2,rfl,hl2⟩:=h2.form;(refine bB [] ?_;refine aX 8 ?_);refine iQ (fun b3=>?_) (hr:=bs4 ..);(refine bB [] ?_;refine aX 9 ?_);refine eC (hS (.slice (some ⟨b3,0,none⟩) 4 4)) rfl ?_ (hpre:=fun w2 hs=>?_);rotate_left
  ·exact RdS.at (T:=31) (fz:=(0,0)) (Hc:=[]) hs rfl (Nat.le_refl _) rfl (xC rfl (Rd.my (Hc:=[]) (T:=5) b1 _ hs rfl) (Rd.ownB [] h2 hs) (Rd.my (Hc:=[]) (T:=90) bx _ hs hx) (Rd.my (Hc:=[]) (T:=90) by_ _ hs hy))
  rintro _ _ ⟨rfl,rfl⟩;(refine bB [] ?_;refine aX 10 ?_;refine W.i ?_;refine SS.dn ?_);refine W.k ?_;exact F.c0 _ ⟨rfl,rfl⟩
 refine eC hput rfl ?_;intro v2 H2 h2;have h21:=h2.isOne;obtain⟨a2,l2,c2,rfl,hl2⟩:=h2.form;refine dU ?_;refine aX 2 ?_;refine iQ (fun b1=>?_) (hr:=b1' _);(refine bB [] ?_;refine aX 8 ?_);refine iQ (fun b3=>?_) (hr:=bs4 ..);(refine bB [] ?_;refine aX 9 ?_);refine eC (hS (.slice (some ⟨b3,0,none⟩) 4 4)) rfl ?_ (hpre:=fun w2 hs=>?_);rotate_left
 ·exact RdS.at (T:=31) (fz:=(0,0)) (Hc:=[]) hs rfl (Nat.le_refl _) rfl (xC rfl (Rd.my (Hc:=[]) (T:=5) b1 _ hs rfl) (Rd.ownB [] h2 hs) (Rd.my (Hc:=[]) (T:=90) bx _ hs hx) (Rd.my (Hc:=[]) (T:=90) by_ _ hs hy))
 rintro _ _ ⟨rfl,rfl⟩;(refine bB [] ?_;refine aX 10 ?_;refine W.i ?_;refine SS.dn ?_);refine W.k ?_;exact F.c0 _ ⟨rfl,rfl⟩
theorem aO7(n:Nat)(x:LB)(hx:x.length=32):Tri prog 131 [.int .i64 (n:Int),dgV x] [] NT (fun v H=>v=dgV (Sha.sum (mW n x))/\H=[]):=by
 refine Tri.mt func131 ntmps131 fun w hw=>?_;have hx1:=lN hx;have hr:(cbs (Sha.sum (mW n x))).length=32:=lN (Sha.sum_len _);have hfl:[leN 4 (UInt64.ofNat n),x].flatten.length=36:=by simp [dV,hx]
 have hS:∀ pv,Tri prog 189 [.int .u8 ((2:UInt8).toNat:Int),pv] [] (fun w=>RdS [] w pv [leN 4 (UInt64.ofNat n),x]) (fun v H'=>v=dgV (Sha.sum (mW n x))/\H'=[]):=fun pv=>aD7 2 pv [leN 4 (UInt64.ofNat n),x] (by rw [hfl];decide) (by simp only [aW,List.length_nil];omega);refine W.k fun _ b_=>?_;rename_i bx;(refine SW.l [] [0,1] ?_;refine dS 3 rfl (yI rfl rfl) ?_;refine aX 2 ?_);refine eC (wS 4 (UInt64.ofNat n) oQ) rfl ?_;intro v2 H2 h2;have h21:=h2.isOne;obtain⟨a2,l2,c2,rfl,hl2⟩:=h2.form;(refine bB [] ?_;refine aX 4 ?_);refine iQ (fun b3=>?_) (hr:=aL5 ..);(refine bB [] ?_;refine aX 5 ?_);refine eC (hS (.slice (some ⟨b3,0,none⟩) 2 2)) rfl ?_ (hpre:=fun w2 hs=>?_);rotate_left
 ·exact RdS.at (T:=31) (fz:=(0,0)) (Hc:=[]) hs rfl (Nat.le_refl _) rfl (aE4 rfl (Rd.ownB [] h2 hs) (Rd.my (Hc:=[]) (T:=90) bx _ hs hx))
 rintro _ _ ⟨rfl,rfl⟩;(refine bB [] ?_;refine aX 6 ?_;refine W.i ?_;refine SS.dn ?_);refine W.k ?_;exact F.c0 _ ⟨rfl,rfl⟩
theorem aB2(k:Nat)(v:Value)(x:LB)(hx:x.length<=1099511620000):Tri prog 113 [.int .i64 (k:Int),v] [] (fun w=>Rd [] w 1 v (cbs x)) (fun v H=>v=dgV (Sha.sum (fV k x))/\H=[]):=by
 refine Tri.mt func113 ntmps113 fun w hw=>?_;have hr:(cbs (Sha.sum (fV k x))).length=32:=lN (Sha.sum_len _);have hfl:[leN 4 (UInt64.ofNat k),x].flatten.length=4+x.length:=by simp [dV]
 have hS:∀ pv,Tri prog 189 [.int .u8 ((0:UInt8).toNat:Int),pv] [] (fun w=>RdS [] w pv [leN 4 (UInt64.ofNat k),x]) (fun v H'=>v=dgV (Sha.sum (fV k x))/\H'=[]):=fun pv=>aD7 0 pv [leN 4 (UInt64.ofNat k),x] (by rw [hfl];omega) (by simp only [aW,List.length_nil];omega);have hv1:=hw.isOne;have hw2:=hw;obtain⟨pa,pl,pc,rfl,-⟩:=hw.get;refine W.k fun b_=>?_;refine eC (wS 4 (UInt64.ofNat k) oQ) rfl ?_;intro v2 H2 h2;have h21:=h2.isOne;obtain⟨a2,l2,c2,rfl,hl2⟩:=h2.form;have hb:=aL5 a2 pa l2 pl c2 pc;refine W.k fun b_=>?_;refine eC (hS (.slice (some ⟨b_,0,none⟩) 2 2)) rfl ?_ (hpre:=fun w2 hs=>?_);rotate_left
 ·exact RdS.at (T:=31) (fz:=(0,0)) (Hc:=[]) hs rfl (Nat.le_refl _) rfl (aE4 rfl (Rd.ownB [] h2 hs) (hw2.ro (Hc:=[]) hs))
 rintro _ _ ⟨rfl,rfl⟩;refine W.k ?_;exact F.c0 _ ⟨rfl,rfl⟩
end
end Go.Proofs.YtdfclocfackkmaaGreat
