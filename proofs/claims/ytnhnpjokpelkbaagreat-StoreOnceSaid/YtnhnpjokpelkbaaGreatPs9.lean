/- The sum of two, of all, of a block: the program's and the document's. -/
import Derived.Test.YtnhnpjokpelkbaaGreatPs8
set_option linter.unusedVariables false
set_option linter.unusedSimpArgs false
set_option linter.unusedSectionVars false
namespace Go.Proofs.YtnhnpjokpelkbaaGreat
open Go Go.Proofs.Tryz
section
attribute [local irreducible] SW SL SQ SH SA SS Pu Fin bZ aQ
theorem xT{K:List Nat}{vs:List Value}{a1 a2 a3 a4:Option Addr}{l1 l2 l3 l4 c1 c2 c3 c4:Nat}{d1 d2 d3 d4:List UInt8}{w:World}(hv:vs=[.slice a1 l1 c1,.slice a2 l2 c2,.slice a3 l3 c3,.slice a4 l4 c4])(h1:Rd K w 1 (.slice a1 l1 c1) (cbs d1))(h2:Rd K w 1 (.slice a2 l2 c2) (cbs d2))(h3:Rd K w 1 (.slice a3 l3 c3) (cbs d3))(h4:Rd K w 1 (.slice a4 l4 c4) (cbs d4)) :
  ∀ (i:Nat) (bs:List UInt8),[d1,d2,d3,d4][i]?=some bs→∃ (a:Option Addr) (len cap:Nat),vs[i]?=some (Value.slice a len cap)∧Rd K w 1 (.slice a len cap) (cbs bs):=by
 intro i bs hi
 have hi0:i=0∨i=1∨i=2∨i=3:=by
  have:=(aE.1 hi).1
  simp at this;omega
 subst hv
 rcases hi0 with rfl|rfl|rfl|rfl <;> cases hi
 ·exact⟨a1,l1,c1,rfl,h1⟩
 ·exact⟨a2,l2,c2,rfl,h2⟩
 ·exact⟨a3,l3,c3,rfl,h3⟩
 ·exact⟨a4,l4,c4,rfl,h4⟩
abbrev aCG(d i:Nat):Value:=.agg [(.int .i64 (d:Int):Value),.int .i64 (i:Int)].toArray
abbrev dgV(x:List UInt8):Value:=.agg (cbs x).toArray
theorem bs4(a1 a2 a3 a4:Option Addr)(l1 l2 l3 l4 c1 c2 c3 c4:Nat):bS (fun i=>some (i*1,1)) (zs [.slice none 0 0] 4) [(0,.slice a1 l1 c1),(1,.slice a2 l2 c2),(2,.slice a3 l3 c3),(3,.slice a4 l4 c4)]=some [.slice a1 l1 c1,.slice a2 l2 c2,.slice a3 l3 c3,.slice a4 l4 c4]:=rfl
theorem aLG(a1 a2:Option Addr)(l1 l2 c1 c2:Nat):bS (fun i=>some (i*1,1)) (zs [.slice none 0 0] 2) [(0,.slice a1 l1 c1),(1,.slice a2 l2 c2)]=some [.slice a1 l1 c1,.slice a2 l2 c2]:=rfl
theorem b1'(x:UInt8):bS (fun i=>some (i*1,1)) (zs [Value.int .u8 0] 1) [(0,.int .u8 (x.toNat:Int))]=some (cbs [x]):=rfl
theorem oI{x:List UInt8}(h:x.length=32):(cbs x).length=32:=by rw [aI,h]
theorem Rd.my{K:List Nat}{w0 w:World}{H Hc r:Hp}(b:Nat){len:Nat}{T:TypeId}(bs:List UInt8)(hs:St K w0 H w) [hp:fT H (Hc++[(b,cl (cbs bs) T)]) r](hl:bs.length=len):Rd (Hc.map Prod.fst) w 1 (.slice (some ⟨b,0,none⟩) len len) (cbs bs):=
 Rd.atB (T:=T) (fz:=(0,0)) bs hs hl (Nat.le_refl _)
theorem aKa{b tp:Nat}{s:Bk}{H:Hp}(hB:eR b tp s H)(d i:Nat)(x y:List UInt8)(hx:x.length=32)(hy:y.length=32) :
  Tri prog 173 [.pointer (some ⟨b,0,none⟩),aCG d i,dgV x,dgV y] H (fun _=>True) (fun v H'=>v=dgV (oZ d i x y)∧eR b tp (s.add (wZ d i x y)) H'):=by
 refine Tri.mk func173 rfl ntmps173 rfl fun w hw=>?_
 have hx1:=oI hx
 have hy1:=oI hy
 have hr:(cbs (oZ d i x y)).length=32:=oI (yB ..)
 have hfl:[[UInt8.ofNat d],leN 4 (UInt64.ofNat i),x,y].flatten.length=69:=by simp [dY,hx,hy]
 refine W.k fun _ _ _ b_=>?_
 rename_i bp bx by_
 (refine SW.l [11,12,13] [0,1,2,3,5,6,7] ?_;refine dN 9 rfl (yT rfl rfl) ?_;refine dN 10 rfl (yT rfl rfl) ?_;skip )
 have hput:=yV 4 (UInt64.ofNat i) oQ oQ
 have hS:∀ pv,Tri prog 85 [.pointer (some ⟨b,0,none⟩),.int .u8 ((1:UInt8).toNat:Int),pv] H (fun w=>RdS (H.map Prod.fst) w pv [[UInt8.ofNat d],leN 4 (UInt64.ofNat i),x,y]) (fun v H'=>v=dgV (oZ d i x y)∧eR b tp (s.add (wZ d i x y)) H'):=fun pv=>aF7 hB 1 pv [[UInt8.ofNat d],leN 4 (UInt64.ofNat i),x,y] (by rw [hfl];decide) (by simp only [aW,List.length_nil];omega)
 refine jD 4 8 ?_ ?_ rfl rfl
 ·refine iQ (fun b1=>?_) (hr:=b1' _)
  refine dX ?_
  refine aX 8 ?_
  refine eU hput rfl ?_
  rintro _ _ ⟨b2,rfl,rfl⟩
  (refine bK [] ?_;refine bV 11 ?_)
  refine iQ (fun b3=>?_) (hr:=bs4 ..)
  (refine bK [] ?_;refine bV 12 ?_)
  refine eU (hS (.slice (some ⟨b3,0,none⟩) 4 4)) rfl ?_ (hpre:=fun w2 hs=>?_)
  rotate_left
  ·exact RdS.at (T:=23) (fz:=(0,0)) (Hc:=H) hs rfl (Nat.le_refl _) rfl (xT rfl (Rd.my (Hc:=H) (T:=5) b1 _ hs rfl) (Rd.my (Hc:=H) (T:=5) b2 _ hs (dY ..)) (Rd.my (Hc:=H) (T:=55) bx _ hs hx) (Rd.my (Hc:=H) (T:=55) by_ _ hs hy))
  rintro _ H' ⟨rfl,hB'⟩
  (refine bK [] ?_;refine bV 13 ?_;refine W.i ?_;refine SS.dn ?_)
  refine W.k ?_
  exact F.cH H' (cbs (oZ d i x y)) ⟨rfl,hB'⟩
 ·refine eU hput rfl ?_
  rintro _ _ ⟨b2,rfl,rfl⟩
  refine dX ?_
  refine aX 4 ?_
  refine iQ (fun b1=>?_) (hr:=b1' _)
  (refine bK [] ?_;refine bV 11 ?_)
  refine iQ (fun b3=>?_) (hr:=bs4 ..)
  (refine bK [] ?_;refine bV 12 ?_)
  refine eU (hS (.slice (some ⟨b3,0,none⟩) 4 4)) rfl ?_ (hpre:=fun w2 hs=>?_)
  rotate_left
  ·exact RdS.at (T:=23) (fz:=(0,0)) (Hc:=H) hs rfl (Nat.le_refl _) rfl (xT rfl (Rd.my (Hc:=H) (T:=5) b1 _ hs rfl) (Rd.my (Hc:=H) (T:=5) b2 _ hs (dY ..)) (Rd.my (Hc:=H) (T:=55) bx _ hs hx) (Rd.my (Hc:=H) (T:=55) by_ _ hs hy))
  rintro _ H' ⟨rfl,hB'⟩
  (refine bK [] ?_;refine bV 13 ?_;refine W.i ?_;refine SS.dn ?_)
  refine W.k ?_
  exact F.cH H' (cbs (oZ d i x y)) ⟨rfl,hB'⟩
theorem aOB{b tp:Nat}{s:Bk}{H:Hp}(hB:eR b tp s H)(n:Nat)(x:List UInt8)(hx:x.length=32) :
  Tri prog 126 [.pointer (some ⟨b,0,none⟩),.int .i64 (n:Int),dgV x] H (fun _=>True) (fun v H'=>v=dgV (Sha.sum (mH n x))∧eR b tp (s.add (mH n x)) H'):=by
 refine Tri.mk func126 rfl ntmps126 rfl fun w hw=>?_
 have hx1:=oI hx
 have hr:(cbs (Sha.sum (mH n x))).length=32:=oI (Sha.sum_len _)
 have hfl:[leN 4 (UInt64.ofNat n),x].flatten.length=36:=by simp [dY,hx]
 have hS:∀ pv,Tri prog 85 [.pointer (some ⟨b,0,none⟩),.int .u8 ((2:UInt8).toNat:Int),pv] H (fun w=>RdS (H.map Prod.fst) w pv [leN 4 (UInt64.ofNat n),x]) (fun v H'=>v=dgV (Sha.sum (mH n x))∧eR b tp (s.add (mH n x)) H'):=fun pv=>aF7 hB 2 pv [leN 4 (UInt64.ofNat n),x] (by rw [hfl];decide) (by simp only [aW,List.length_nil];omega)
 refine W.k fun _ b_=>?_
 rename_i bx
 (refine SW.l [] [0,1,2] ?_;refine dN 4 rfl (yT rfl rfl) ?_;refine aX 3 ?_)
 refine eU (yV 4 (UInt64.ofNat n) oQ oQ) rfl ?_
 rintro _ _ ⟨b2,rfl,rfl⟩
 (refine bK [] ?_;refine aX 5 ?_)
 refine iQ (fun b3=>?_) (hr:=aLG ..)
 (refine bK [] ?_;refine aX 6 ?_)
 refine eU (hS (.slice (some ⟨b3,0,none⟩) 2 2)) rfl ?_ (hpre:=fun w2 hs=>?_)
 rotate_left
 ·exact RdS.at (T:=23) (fz:=(0,0)) (Hc:=H) hs rfl (Nat.le_refl _) rfl (aEB rfl (Rd.my (Hc:=H) (T:=5) b2 _ hs (dY ..)) (Rd.my (Hc:=H) (T:=55) bx _ hs hx))
 rintro _ H' ⟨rfl,hB'⟩
 (refine bK [] ?_;refine aX 7 ?_;refine W.i ?_;refine SS.dn ?_)
 refine W.k ?_
 exact F.cH H' (cbs (Sha.sum (mH n x))) ⟨rfl,hB'⟩
theorem aGC{b tp:Nat}{s:Bk}{H:Hp}(hB:eR b tp s H)(k:Nat)(v:Value)(x:List UInt8)(hx:x.length≤1099511620000) :
  Tri prog 36 [.pointer (some ⟨b,0,none⟩),.int .i64 (k:Int),v] H (fun w=>Rd (H.map Prod.fst) w 1 v (cbs x)) (fun v H'=>v=dgV (Sha.sum (fC k x))∧eR b tp (s.add (fC k x)) H'):=by
 refine Tri.mk func36 rfl ntmps36 rfl fun w hw=>?_
 have hr:(cbs (Sha.sum (fC k x))).length=32:=oI (Sha.sum_len _)
 have hfl:[leN 4 (UInt64.ofNat k),x].flatten.length=4+x.length:=by simp [dY]
 have hS:∀ pv,Tri prog 85 [.pointer (some ⟨b,0,none⟩),.int .u8 ((0:UInt8).toNat:Int),pv] H (fun w=>RdS (H.map Prod.fst) w pv [leN 4 (UInt64.ofNat k),x]) (fun v H'=>v=dgV (Sha.sum (fC k x))∧eR b tp (s.add (fC k x)) H'):=fun pv=>aF7 hB 0 pv [leN 4 (UInt64.ofNat k),x] (by rw [hfl];omega) (by simp only [aW,List.length_nil];omega)
 have hv1:=hw.isOne
 have hw2:=hw
 obtain⟨pa,pl,pc,rfl,-⟩:=hw.get
 refine W.k fun b_=>?_
 refine eU (yV 4 (UInt64.ofNat k) oQ oQ) rfl ?_
 rintro _ _ ⟨b2,rfl,rfl⟩
 have hb:=aLG (some ⟨b2,0,none⟩) pa 4 pl 4 pc
 refine W.k fun b_=>?_
 refine eU (hS (.slice (some ⟨b_,0,none⟩) 2 2)) rfl ?_ (hpre:=fun w2 hs=>?_)
 rotate_left
 ·exact RdS.at (T:=23) (fz:=(0,0)) (Hc:=H) hs rfl (Nat.le_refl _) rfl (aEB rfl (Rd.my (Hc:=H) (T:=5) b2 _ hs (dY ..)) (hw2.ro (Hc:=H) hs))
 rintro _ H' ⟨rfl,hB'⟩
 refine W.k ?_
 exact F.cH H' (cbs (Sha.sum (fC k x))) ⟨rfl,hB'⟩
theorem aMv(d i:Nat)(x y:List UInt8)(hx:x.length=32)(hy:y.length=32) :
  Tri prog 202 [.int .i64 (d:Int),.int .i64 (i:Int),dgV x,dgV y] [] (fun _=>True) (fun v H=>v=dgV (oZ d i x y)∧H=[]):=by
 refine Tri.mk func202 rfl ntmps202 rfl fun w hw=>?_
 have hx1:=oI hx
 have hy1:=oI hy
 have hr:(cbs (oZ d i x y)).length=32:=oI (yB ..)
 have hfl:[[UInt8.ofNat d],leN 4 (UInt64.ofNat i),x,y].flatten.length=69:=by simp [dY,hx,hy]
 have hput:=xG 4 (UInt64.ofNat i) oQ
 have hS:∀ pv,Tri prog 200 [.int .u8 ((1:UInt8).toNat:Int),pv] [] (fun w=>RdS [] w pv [[UInt8.ofNat d],leN 4 (UInt64.ofNat i),x,y]) (fun v H'=>v=dgV (oZ d i x y)∧H'=[]):=fun pv=>aDT 1 pv [[UInt8.ofNat d],leN 4 (UInt64.ofNat i),x,y] (by rw [hfl];decide) (by simp only [aW,List.length_nil];omega)
 refine W.k fun _ _ b_=>?_
 rename_i bx by_
 (refine SW.l [] [0,1,3,4] ?_;refine dN 6 rfl (yT rfl rfl) ?_;refine dN 7 rfl (yT rfl rfl) ?_;skip )
 refine jD 2 5 ?_ ?_ rfl rfl
 ·refine iQ (fun b1=>?_) (hr:=b1' _)
  refine dX ?_
  refine aX 5 ?_
  refine eU hput rfl ?_
  intro v2 H2 h2
  have h21:=h2.isOne
  obtain⟨a2,l2,c2,rfl,hl2⟩:=h2.form
  (refine bK [] ?_;refine aX 8 ?_)
  refine iQ (fun b3=>?_) (hr:=bs4 ..)
  (refine bK [] ?_;refine aX 9 ?_)
  refine eU (hS (.slice (some ⟨b3,0,none⟩) 4 4)) rfl ?_ (hpre:=fun w2 hs=>?_)
  rotate_left
  ·exact RdS.at (T:=23) (fz:=(0,0)) (Hc:=[]) hs rfl (Nat.le_refl _) rfl (xT rfl (Rd.my (Hc:=[]) (T:=5) b1 _ hs rfl) (Rd.ownB [] h2 hs) (Rd.my (Hc:=[]) (T:=54) bx _ hs hx) (Rd.my (Hc:=[]) (T:=54) by_ _ hs hy))
  rintro _ _ ⟨rfl,rfl⟩
  (refine bK [] ?_;refine aX 10 ?_;refine W.i ?_;refine SS.dn ?_)
  refine W.k ?_
  exact F.c0 _ ⟨rfl,rfl⟩
 ·refine eU hput rfl ?_
  intro v2 H2 h2
  have h21:=h2.isOne
  obtain⟨a2,l2,c2,rfl,hl2⟩:=h2.form
  refine dX ?_
  refine aX 2 ?_
  refine iQ (fun b1=>?_) (hr:=b1' _)
  (refine bK [] ?_;refine aX 8 ?_)
  refine iQ (fun b3=>?_) (hr:=bs4 ..)
  (refine bK [] ?_;refine aX 9 ?_)
  refine eU (hS (.slice (some ⟨b3,0,none⟩) 4 4)) rfl ?_ (hpre:=fun w2 hs=>?_)
  rotate_left
  ·exact RdS.at (T:=23) (fz:=(0,0)) (Hc:=[]) hs rfl (Nat.le_refl _) rfl (xT rfl (Rd.my (Hc:=[]) (T:=5) b1 _ hs rfl) (Rd.ownB [] h2 hs) (Rd.my (Hc:=[]) (T:=54) bx _ hs hx) (Rd.my (Hc:=[]) (T:=54) by_ _ hs hy))
  rintro _ _ ⟨rfl,rfl⟩
  (refine bK [] ?_;refine aX 10 ?_;refine W.i ?_;refine SS.dn ?_)
  refine W.k ?_
  exact F.c0 _ ⟨rfl,rfl⟩
theorem aOD(n:Nat)(x:List UInt8)(hx:x.length=32) :
  Tri prog 135 [.int .i64 (n:Int),dgV x] [] (fun _=>True) (fun v H=>v=dgV (Sha.sum (mH n x))∧H=[]):=by
 refine Tri.mk func135 rfl ntmps135 rfl fun w hw=>?_
 have hx1:=oI hx
 have hr:(cbs (Sha.sum (mH n x))).length=32:=oI (Sha.sum_len _)
 have hfl:[leN 4 (UInt64.ofNat n),x].flatten.length=36:=by simp [dY,hx]
 have hS:∀ pv,Tri prog 200 [.int .u8 ((2:UInt8).toNat:Int),pv] [] (fun w=>RdS [] w pv [leN 4 (UInt64.ofNat n),x]) (fun v H'=>v=dgV (Sha.sum (mH n x))∧H'=[]):=fun pv=>aDT 2 pv [leN 4 (UInt64.ofNat n),x] (by rw [hfl];decide) (by simp only [aW,List.length_nil];omega)
 refine W.k fun _ b_=>?_
 rename_i bx
 (refine SW.l [] [0,1] ?_;refine dN 3 rfl (yT rfl rfl) ?_;refine aX 2 ?_)
 refine eU (xG 4 (UInt64.ofNat n) oQ) rfl ?_
 intro v2 H2 h2
 have h21:=h2.isOne
 obtain⟨a2,l2,c2,rfl,hl2⟩:=h2.form
 (refine bK [] ?_;refine aX 4 ?_)
 refine iQ (fun b3=>?_) (hr:=aLG ..)
 (refine bK [] ?_;refine aX 5 ?_)
 refine eU (hS (.slice (some ⟨b3,0,none⟩) 2 2)) rfl ?_ (hpre:=fun w2 hs=>?_)
 rotate_left
 ·exact RdS.at (T:=23) (fz:=(0,0)) (Hc:=[]) hs rfl (Nat.le_refl _) rfl (aEB rfl (Rd.ownB [] h2 hs) (Rd.my (Hc:=[]) (T:=54) bx _ hs hx))
 rintro _ _ ⟨rfl,rfl⟩
 (refine bK [] ?_;refine aX 6 ?_;refine W.i ?_;refine SS.dn ?_)
 refine W.k ?_
 exact F.c0 _ ⟨rfl,rfl⟩
theorem aMt(k:Nat)(v:Value)(x:List UInt8)(hx:x.length≤1099511620000) :
  Tri prog 140 [.int .i64 (k:Int),v] [] (fun w=>Rd [] w 1 v (cbs x)) (fun v H=>v=dgV (Sha.sum (fC k x))∧H=[]):=by
 refine Tri.mk func140 rfl ntmps140 rfl fun w hw=>?_
 have hr:(cbs (Sha.sum (fC k x))).length=32:=oI (Sha.sum_len _)
 have hfl:[leN 4 (UInt64.ofNat k),x].flatten.length=4+x.length:=by simp [dY]
 have hS:∀ pv,Tri prog 200 [.int .u8 ((0:UInt8).toNat:Int),pv] [] (fun w=>RdS [] w pv [leN 4 (UInt64.ofNat k),x]) (fun v H'=>v=dgV (Sha.sum (fC k x))∧H'=[]):=fun pv=>aDT 0 pv [leN 4 (UInt64.ofNat k),x] (by rw [hfl];omega) (by simp only [aW,List.length_nil];omega)
 have hv1:=hw.isOne
 have hw2:=hw
 obtain⟨pa,pl,pc,rfl,-⟩:=hw.get
 refine W.k fun b_=>?_
 refine eU (xG 4 (UInt64.ofNat k) oQ) rfl ?_
 intro v2 H2 h2
 have h21:=h2.isOne
 obtain⟨a2,l2,c2,rfl,hl2⟩:=h2.form
 have hb:=aLG a2 pa l2 pl c2 pc
 refine W.k fun b_=>?_
 refine eU (hS (.slice (some ⟨b_,0,none⟩) 2 2)) rfl ?_ (hpre:=fun w2 hs=>?_)
 rotate_left
 ·exact RdS.at (T:=23) (fz:=(0,0)) (Hc:=[]) hs rfl (Nat.le_refl _) rfl (aEB rfl (Rd.ownB [] h2 hs) (hw2.ro (Hc:=[]) hs))
 rintro _ _ ⟨rfl,rfl⟩
 refine W.k ?_
 exact F.c0 _ ⟨rfl,rfl⟩
end
end Go.Proofs.YtnhnpjokpelkbaaGreat
