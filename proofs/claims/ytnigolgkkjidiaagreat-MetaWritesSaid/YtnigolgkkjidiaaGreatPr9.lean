/- The sum of two, of all, of a block: the program's and the document's. -/
import Derived.Test.YtnigolgkkjidiaaGreatPr6
set_option linter.unusedVariables false
set_option linter.unusedSimpArgs false
set_option linter.unusedSectionVars false
namespace Go.Proofs.YtnigolgkkjidiaaGreat
open Go Go.Proofs.Tryz
section
attribute [local irreducible] SW SL SQ SH SA SS Pu Fin bZ aT
theorem uK{K:List Nat}{vs:List Value}{a1 a2 a3 a4:Option Addr}{l1 l2 l3 l4 c1 c2 c3 c4:Nat}{d1 d2 d3 d4:List UInt8}{w:World}(hv:vs=[.slice a1 l1 c1,.slice a2 l2 c2,.slice a3 l3 c3,.slice a4 l4 c4])(h1:Rd K w 1 (.slice a1 l1 c1) (cbs d1))(h2:Rd K w 1 (.slice a2 l2 c2) (cbs d2))(h3:Rd K w 1 (.slice a3 l3 c3) (cbs d3))(h4:Rd K w 1 (.slice a4 l4 c4) (cbs d4)) :
  ∀ (i:Nat) (bs:List UInt8),[d1,d2,d3,d4][i]?=some bs→∃ (a:Option Addr) (len cap:Nat),vs[i]?=some (Value.slice a len cap)∧Rd K w 1 (.slice a len cap) (cbs bs):=by
 intro i bs hi
 have hi0:i=0∨i=1∨i=2∨i=3:=by
  have:=(aG.1 hi).1
  simp at this;omega
 subst hv
 rcases hi0 with rfl|rfl|rfl|rfl <;> cases hi
 ·exact⟨a1,l1,c1,rfl,h1⟩
 ·exact⟨a2,l2,c2,rfl,h2⟩
 ·exact⟨a3,l3,c3,rfl,h3⟩
 ·exact⟨a4,l4,c4,rfl,h4⟩
abbrev aNH(d i:Nat):Value:=.agg [(.int .i64 (d:Int):Value),.int .i64 (i:Int)].toArray
abbrev dgV(x:List UInt8):Value:=.agg (cbs x).toArray
theorem bs4(a1 a2 a3 a4:Option Addr)(l1 l2 l3 l4 c1 c2 c3 c4:Nat):bQ (fun i=>some (i*1,1)) (zs [.slice none 0 0] 4) [(0,.slice a1 l1 c1),(1,.slice a2 l2 c2),(2,.slice a3 l3 c3),(3,.slice a4 l4 c4)]=some [.slice a1 l1 c1,.slice a2 l2 c2,.slice a3 l3 c3,.slice a4 l4 c4]:=rfl
theorem aKX(a1 a2:Option Addr)(l1 l2 c1 c2:Nat):bQ (fun i=>some (i*1,1)) (zs [.slice none 0 0] 2) [(0,.slice a1 l1 c1),(1,.slice a2 l2 c2)]=some [.slice a1 l1 c1,.slice a2 l2 c2]:=rfl
theorem b1'(x:UInt8):bQ (fun i=>some (i*1,1)) (zs [Value.int .u8 0] 1) [(0,.int .u8 (x.toNat:Int))]=some (cbs [x]):=rfl
theorem pZ{x:List UInt8}(h:x.length=32):(cbs x).length=32:=by rw [aI,h]
theorem Rd.my{K:List Nat}{w0 w:World}{H Hc r:Hp}(b:Nat){len:Nat}{T:TypeId}(bs:List UInt8)(hs:St K w0 H w) [hp:fI H (Hc++[(b,cl (cbs bs) T)]) r](hl:bs.length=len):Rd (Hc.map Prod.fst) w 1 (.slice (some ⟨b,0,none⟩) len len) (cbs bs):=
 Rd.atB (T:=T) (fz:=(0,0)) bs hs hl (Nat.le_refl _)
theorem aNn{b tp:Nat}{s:Bk}{H:Hp}(hB:fR b tp s H)(d i:Nat)(x y:List UInt8)(hx:x.length=32)(hy:y.length=32) :
  Tri prog 240 [.pointer (some ⟨b,0,none⟩),aNH d i,dgV x,dgV y] H (fun _=>True) (fun v H'=>v=dgV (vB d i x y)∧fR b tp (s.add (xO d i x y)) H'):=by
 refine Tri.mk func240 rfl ntmps240 rfl fun w hw=>?_
 have hx1:=pZ hx
 have hy1:=pZ hy
 have hr:(cbs (vB d i x y)).length=32:=pZ (aAC ..)
 have hfl:[[UInt8.ofNat d],leN 4 (UInt64.ofNat i),x,y].flatten.length=69:=by simp [cJ,hx,hy]
 refine W.k fun _ _ _ b_=>?_
 rename_i bp bx by_
 (refine SW.l [11,12,13] [0,1,2,3,5,6,7] ?_;refine dL 9 rfl (xQ rfl rfl) ?_;refine dL 10 rfl (xQ rfl rfl) ?_;skip )
 have hput:=rJ 4 (UInt64.ofNat i) om om
 have hS:∀ pv,Tri prog 141 [.pointer (some ⟨b,0,none⟩),.int .u8 ((1:UInt8).toNat:Int),pv] H (fun w=>RdS (H.map Prod.fst) w pv [[UInt8.ofNat d],leN 4 (UInt64.ofNat i),x,y]) (fun v H'=>v=dgV (vB d i x y)∧fR b tp (s.add (xO d i x y)) H'):=fun pv=>aFA hB 1 pv [[UInt8.ofNat d],leN 4 (UInt64.ofNat i),x,y] (by rw [hfl];decide) (by simp only [aW,dA];omega)
 refine fX 4 8 ?_ ?_ rfl rfl
 ·refine jO (fun b1=>?_) (hr:=b1' _)
  refine cU ?_
  refine aX 8 ?_
  refine dV hput rfl ?_
  rintro _ _ ⟨b2,rfl,rfl⟩
  (refine bO [] ?_;refine cB 11 ?_)
  refine jO (fun b3=>?_) (hr:=bs4 ..)
  (refine bO [] ?_;refine cB 12 ?_)
  refine dV (hS (.slice (some ⟨b3,0,none⟩) 4 4)) rfl ?_ (hpre:=fun w2 hs=>?_)
  rotate_left
  ·exact RdS.at (T:=50) (fz:=(0,0)) (Hc:=H) hs rfl (Nat.le_refl _) rfl (uK rfl (Rd.my (Hc:=H) (T:=5) b1 _ hs rfl) (Rd.my (Hc:=H) (T:=5) b2 _ hs (cJ ..)) (Rd.my (Hc:=H) (T:=119) bx _ hs hx) (Rd.my (Hc:=H) (T:=119) by_ _ hs hy))
  rintro _ H' ⟨rfl,hB'⟩
  (refine bO [] ?_;refine cB 13 ?_;refine W.i ?_;refine eI ?_)
  refine W.k ?_
  exact F.cH H' (cbs (vB d i x y)) ⟨rfl,hB'⟩
 ·refine dV hput rfl ?_
  rintro _ _ ⟨b2,rfl,rfl⟩
  refine cU ?_
  refine aX 4 ?_
  refine jO (fun b1=>?_) (hr:=b1' _)
  (refine bO [] ?_;refine cB 11 ?_)
  refine jO (fun b3=>?_) (hr:=bs4 ..)
  (refine bO [] ?_;refine cB 12 ?_)
  refine dV (hS (.slice (some ⟨b3,0,none⟩) 4 4)) rfl ?_ (hpre:=fun w2 hs=>?_)
  rotate_left
  ·exact RdS.at (T:=50) (fz:=(0,0)) (Hc:=H) hs rfl (Nat.le_refl _) rfl (uK rfl (Rd.my (Hc:=H) (T:=5) b1 _ hs rfl) (Rd.my (Hc:=H) (T:=5) b2 _ hs (cJ ..)) (Rd.my (Hc:=H) (T:=119) bx _ hs hx) (Rd.my (Hc:=H) (T:=119) by_ _ hs hy))
  rintro _ H' ⟨rfl,hB'⟩
  (refine bO [] ?_;refine cB 13 ?_;refine W.i ?_;refine eI ?_)
  refine W.k ?_
  exact F.cH H' (cbs (vB d i x y)) ⟨rfl,hB'⟩
theorem aNW{b tp:Nat}{s:Bk}{H:Hp}(hB:fR b tp s H)(n:Nat)(x:List UInt8)(hx:x.length=32) :
  Tri prog 195 [.pointer (some ⟨b,0,none⟩),.int .i64 (n:Int),dgV x] H (fun _=>True) (fun v H'=>v=dgV (Sha.sum (nE n x))∧fR b tp (s.add (nE n x)) H'):=by
 refine Tri.mk func195 rfl ntmps195 rfl fun w hw=>?_
 have hx1:=pZ hx
 have hr:(cbs (Sha.sum (nE n x))).length=32:=pZ (Sha.sum_len _)
 have hfl:[leN 4 (UInt64.ofNat n),x].flatten.length=36:=by simp [cJ,hx]
 have hS:∀ pv,Tri prog 141 [.pointer (some ⟨b,0,none⟩),.int .u8 ((2:UInt8).toNat:Int),pv] H (fun w=>RdS (H.map Prod.fst) w pv [leN 4 (UInt64.ofNat n),x]) (fun v H'=>v=dgV (Sha.sum (nE n x))∧fR b tp (s.add (nE n x)) H'):=fun pv=>aFA hB 2 pv [leN 4 (UInt64.ofNat n),x] (by rw [hfl];decide) (by simp only [aW,dA];omega)
 refine W.k fun _ b_=>?_
 rename_i bx
 (refine SW.l [] [0,1,2] ?_;refine dL 4 rfl (xQ rfl rfl) ?_;refine aX 3 ?_)
 refine dV (rJ 4 (UInt64.ofNat n) om om) rfl ?_
 rintro _ _ ⟨b2,rfl,rfl⟩
 (refine bO [] ?_;refine aX 5 ?_)
 refine jO (fun b3=>?_) (hr:=aKX ..)
 (refine bO [] ?_;refine aX 6 ?_)
 refine dV (hS (.slice (some ⟨b3,0,none⟩) 2 2)) rfl ?_ (hpre:=fun w2 hs=>?_)
 rotate_left
 ·exact RdS.at (T:=50) (fz:=(0,0)) (Hc:=H) hs rfl (Nat.le_refl _) rfl (aEk rfl (Rd.my (Hc:=H) (T:=5) b2 _ hs (cJ ..)) (Rd.my (Hc:=H) (T:=119) bx _ hs hx))
 rintro _ H' ⟨rfl,hB'⟩
 (refine bO [] ?_;refine aX 7 ?_;refine W.i ?_;refine eI ?_)
 refine W.k ?_
 exact F.cH H' (cbs (Sha.sum (nE n x))) ⟨rfl,hB'⟩
theorem aJf{b tp:Nat}{s:Bk}{H:Hp}(hB:fR b tp s H)(k:Nat)(v:Value)(x:List UInt8)(hx:x.length≤1099511620000) :
  Tri prog 72 [.pointer (some ⟨b,0,none⟩),.int .i64 (k:Int),v] H (fun w=>Rd (H.map Prod.fst) w 1 v (cbs x)) (fun v H'=>v=dgV (Sha.sum (kR k x))∧fR b tp (s.add (kR k x)) H'):=by
 refine Tri.mk func72 rfl ntmps72 rfl fun w hw=>?_
 have hr:(cbs (Sha.sum (kR k x))).length=32:=pZ (Sha.sum_len _)
 have hfl:[leN 4 (UInt64.ofNat k),x].flatten.length=4+x.length:=by simp [cJ]
 have hS:∀ pv,Tri prog 141 [.pointer (some ⟨b,0,none⟩),.int .u8 ((0:UInt8).toNat:Int),pv] H (fun w=>RdS (H.map Prod.fst) w pv [leN 4 (UInt64.ofNat k),x]) (fun v H'=>v=dgV (Sha.sum (kR k x))∧fR b tp (s.add (kR k x)) H'):=fun pv=>aFA hB 0 pv [leN 4 (UInt64.ofNat k),x] (by rw [hfl];omega) (by simp only [aW,dA];omega)
 have hv1:=hw.isOne
 have hw2:=hw
 obtain⟨pa,pl,pc,rfl,-⟩:=hw.get
 refine W.k fun b_=>?_
 refine dV (rJ 4 (UInt64.ofNat k) om om) rfl ?_
 rintro _ _ ⟨b2,rfl,rfl⟩
 have hb:=aKX (some ⟨b2,0,none⟩) pa 4 pl 4 pc
 refine W.k fun b_=>?_
 refine dV (hS (.slice (some ⟨b_,0,none⟩) 2 2)) rfl ?_ (hpre:=fun w2 hs=>?_)
 rotate_left
 ·exact RdS.at (T:=50) (fz:=(0,0)) (Hc:=H) hs rfl (Nat.le_refl _) rfl (aEk rfl (Rd.my (Hc:=H) (T:=5) b2 _ hs (cJ ..)) (hw2.ro (Hc:=H) hs))
 rintro _ H' ⟨rfl,hB'⟩
 refine W.k ?_
 exact F.cH H' (cbs (Sha.sum (kR k x))) ⟨rfl,hB'⟩
theorem aLI(d i:Nat)(x y:List UInt8)(hx:x.length=32)(hy:y.length=32) :
  Tri prog 280 [.int .i64 (d:Int),.int .i64 (i:Int),dgV x,dgV y] [] (fun _=>True) (fun v H=>v=dgV (vB d i x y)∧H=[]):=by
 refine Tri.mk func280 rfl ntmps280 rfl fun w hw=>?_
 have hx1:=pZ hx
 have hy1:=pZ hy
 have hr:(cbs (vB d i x y)).length=32:=pZ (aAC ..)
 have hfl:[[UInt8.ofNat d],leN 4 (UInt64.ofNat i),x,y].flatten.length=69:=by simp [cJ,hx,hy]
 have hput:=pA 4 (UInt64.ofNat i) om
 have hS:∀ pv,Tri prog 279 [.int .u8 ((1:UInt8).toNat:Int),pv] [] (fun w=>RdS [] w pv [[UInt8.ofNat d],leN 4 (UInt64.ofNat i),x,y]) (fun v H'=>v=dgV (vB d i x y)∧H'=[]):=fun pv=>aDs 1 pv [[UInt8.ofNat d],leN 4 (UInt64.ofNat i),x,y] (by rw [hfl];decide) (by simp only [aW,dA];omega)
 refine W.k fun _ _ b_=>?_
 rename_i bx by_
 (refine SW.l [] [0,1,3,4] ?_;refine dL 6 rfl (xQ rfl rfl) ?_;refine dL 7 rfl (xQ rfl rfl) ?_;skip )
 refine fX 2 5 ?_ ?_ rfl rfl
 ·refine jO (fun b1=>?_) (hr:=b1' _)
  refine cU ?_
  refine aX 5 ?_
  refine dV hput rfl ?_
  intro v2 H2 h2
  have h21:=h2.isOne
  obtain⟨a2,l2,c2,rfl,hl2⟩:=h2.form
  (refine bO [] ?_;refine aX 8 ?_)
  refine jO (fun b3=>?_) (hr:=bs4 ..)
  (refine bO [] ?_;refine aX 9 ?_)
  refine dV (hS (.slice (some ⟨b3,0,none⟩) 4 4)) rfl ?_ (hpre:=fun w2 hs=>?_)
  rotate_left
  ·exact RdS.at (T:=50) (fz:=(0,0)) (Hc:=[]) hs rfl (Nat.le_refl _) rfl (uK rfl (Rd.my (Hc:=[]) (T:=5) b1 _ hs rfl) (Rd.ownB [] h2 hs) (Rd.my (Hc:=[]) (T:=118) bx _ hs hx) (Rd.my (Hc:=[]) (T:=118) by_ _ hs hy))
  rintro _ _ ⟨rfl,rfl⟩
  (refine bO [] ?_;refine aX 10 ?_;refine W.i ?_;refine eI ?_)
  refine W.k ?_
  exact F.c0 _ ⟨rfl,rfl⟩
 ·refine dV hput rfl ?_
  intro v2 H2 h2
  have h21:=h2.isOne
  obtain⟨a2,l2,c2,rfl,hl2⟩:=h2.form
  refine cU ?_
  refine aX 2 ?_
  refine jO (fun b1=>?_) (hr:=b1' _)
  (refine bO [] ?_;refine aX 8 ?_)
  refine jO (fun b3=>?_) (hr:=bs4 ..)
  (refine bO [] ?_;refine aX 9 ?_)
  refine dV (hS (.slice (some ⟨b3,0,none⟩) 4 4)) rfl ?_ (hpre:=fun w2 hs=>?_)
  rotate_left
  ·exact RdS.at (T:=50) (fz:=(0,0)) (Hc:=[]) hs rfl (Nat.le_refl _) rfl (uK rfl (Rd.my (Hc:=[]) (T:=5) b1 _ hs rfl) (Rd.ownB [] h2 hs) (Rd.my (Hc:=[]) (T:=118) bx _ hs hx) (Rd.my (Hc:=[]) (T:=118) by_ _ hs hy))
  rintro _ _ ⟨rfl,rfl⟩
  (refine bO [] ?_;refine aX 10 ?_;refine W.i ?_;refine eI ?_)
  refine W.k ?_
  exact F.c0 _ ⟨rfl,rfl⟩
theorem aNY(n:Nat)(x:List UInt8)(hx:x.length=32) :
  Tri prog 250 [.int .i64 (n:Int),dgV x] [] (fun _=>True) (fun v H=>v=dgV (Sha.sum (nE n x))∧H=[]):=by
 refine Tri.mk func250 rfl ntmps250 rfl fun w hw=>?_
 have hx1:=pZ hx
 have hr:(cbs (Sha.sum (nE n x))).length=32:=pZ (Sha.sum_len _)
 have hfl:[leN 4 (UInt64.ofNat n),x].flatten.length=36:=by simp [cJ,hx]
 have hS:∀ pv,Tri prog 279 [.int .u8 ((2:UInt8).toNat:Int),pv] [] (fun w=>RdS [] w pv [leN 4 (UInt64.ofNat n),x]) (fun v H'=>v=dgV (Sha.sum (nE n x))∧H'=[]):=fun pv=>aDs 2 pv [leN 4 (UInt64.ofNat n),x] (by rw [hfl];decide) (by simp only [aW,dA];omega)
 refine W.k fun _ b_=>?_
 rename_i bx
 (refine SW.l [] [0,1] ?_;refine dL 3 rfl (xQ rfl rfl) ?_;refine aX 2 ?_)
 refine dV (pA 4 (UInt64.ofNat n) om) rfl ?_
 intro v2 H2 h2
 have h21:=h2.isOne
 obtain⟨a2,l2,c2,rfl,hl2⟩:=h2.form
 (refine bO [] ?_;refine aX 4 ?_)
 refine jO (fun b3=>?_) (hr:=aKX ..)
 (refine bO [] ?_;refine aX 5 ?_)
 refine dV (hS (.slice (some ⟨b3,0,none⟩) 2 2)) rfl ?_ (hpre:=fun w2 hs=>?_)
 rotate_left
 ·exact RdS.at (T:=50) (fz:=(0,0)) (Hc:=[]) hs rfl (Nat.le_refl _) rfl (aEk rfl (Rd.ownB [] h2 hs) (Rd.my (Hc:=[]) (T:=118) bx _ hs hx))
 rintro _ _ ⟨rfl,rfl⟩
 (refine bO [] ?_;refine aX 6 ?_;refine W.i ?_;refine eI ?_)
 refine W.k ?_
 exact F.c0 _ ⟨rfl,rfl⟩
theorem aLG(k:Nat)(v:Value)(x:List UInt8)(hx:x.length≤1099511620000) :
  Tri prog 253 [.int .i64 (k:Int),v] [] (fun w=>Rd [] w 1 v (cbs x)) (fun v H=>v=dgV (Sha.sum (kR k x))∧H=[]):=by
 refine Tri.mk func253 rfl ntmps253 rfl fun w hw=>?_
 have hr:(cbs (Sha.sum (kR k x))).length=32:=pZ (Sha.sum_len _)
 have hfl:[leN 4 (UInt64.ofNat k),x].flatten.length=4+x.length:=by simp [cJ]
 have hS:∀ pv,Tri prog 279 [.int .u8 ((0:UInt8).toNat:Int),pv] [] (fun w=>RdS [] w pv [leN 4 (UInt64.ofNat k),x]) (fun v H'=>v=dgV (Sha.sum (kR k x))∧H'=[]):=fun pv=>aDs 0 pv [leN 4 (UInt64.ofNat k),x] (by rw [hfl];omega) (by simp only [aW,dA];omega)
 have hv1:=hw.isOne
 have hw2:=hw
 obtain⟨pa,pl,pc,rfl,-⟩:=hw.get
 refine W.k fun b_=>?_
 refine dV (pA 4 (UInt64.ofNat k) om) rfl ?_
 intro v2 H2 h2
 have h21:=h2.isOne
 obtain⟨a2,l2,c2,rfl,hl2⟩:=h2.form
 have hb:=aKX a2 pa l2 pl c2 pc
 refine W.k fun b_=>?_
 refine dV (hS (.slice (some ⟨b_,0,none⟩) 2 2)) rfl ?_ (hpre:=fun w2 hs=>?_)
 rotate_left
 ·exact RdS.at (T:=50) (fz:=(0,0)) (Hc:=[]) hs rfl (Nat.le_refl _) rfl (aEk rfl (Rd.ownB [] h2 hs) (hw2.ro (Hc:=[]) hs))
 rintro _ _ ⟨rfl,rfl⟩
 refine W.k ?_
 exact F.c0 _ ⟨rfl,rfl⟩
end
end Go.Proofs.YtnigolgkkjidiaaGreat
