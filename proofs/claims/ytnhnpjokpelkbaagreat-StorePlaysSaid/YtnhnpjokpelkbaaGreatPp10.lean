/- The sum of two, of all, of a block: the program's and the document's. -/
import Derived.Test.YtnhnpjokpelkbaaGreatPp9
set_option linter.unusedVariables false
set_option linter.unusedSimpArgs false
set_option linter.unusedSectionVars false
namespace Go.Proofs.YtnhnpjokpelkbaaGreat
open Go Go.Proofs.Tryz
section
attribute [local irreducible] SW SL SQ SH SA SS Pu Fin bT aQ
theorem xE{K:List Nat}{vs:List Value}{a1 a2 a3 a4:Option Addr}{l1 l2 l3 l4 c1 c2 c3 c4:Nat}{d1 d2 d3 d4:List UInt8}{w:World}(hv:vs=[.slice a1 l1 c1,.slice a2 l2 c2,.slice a3 l3 c3,.slice a4 l4 c4])(h1:Rd K w 1 (.slice a1 l1 c1) (cbs d1))(h2:Rd K w 1 (.slice a2 l2 c2) (cbs d2))(h3:Rd K w 1 (.slice a3 l3 c3) (cbs d3))(h4:Rd K w 1 (.slice a4 l4 c4) (cbs d4)) :
  ∀ (i:Nat) (bs:List UInt8),[d1,d2,d3,d4][i]?=some bs→∃ (a:Option Addr) (len cap:Nat),vs[i]?=some (Value.slice a len cap)∧Rd K w 1 (.slice a len cap) (cbs bs):=by
 intro i bs hi
 have hi0:i=0∨i=1∨i=2∨i=3:=by
  have:=(aE.1 hi).1
  simp at this;omega
 subst hv
 rcases hi0 with rfl|rfl|rfl|rfl <;> cases hi
 ·exact⟨a1,l1,c1,rfl,h1⟩
 ·exact⟨a2,l2,c2,rfl,h2⟩
 ·exact⟨a3,l3,c3,rfl,h3⟩
 ·exact⟨a4,l4,c4,rfl,h4⟩
abbrev aCz(d i:Nat):Value:=.agg [(.int .i64 (d:Int):Value),.int .i64 (i:Int)].toArray
abbrev dgV(x:List UInt8):Value:=.agg (cbs x).toArray
theorem bs4(a1 a2 a3 a4:Option Addr)(l1 l2 l3 l4 c1 c2 c3 c4:Nat):bX (fun i=>some (i*1,1)) (zs [.slice none 0 0] 4) [(0,.slice a1 l1 c1),(1,.slice a2 l2 c2),(2,.slice a3 l3 c3),(3,.slice a4 l4 c4)]=some [.slice a1 l1 c1,.slice a2 l2 c2,.slice a3 l3 c3,.slice a4 l4 c4]:=rfl
theorem aLr(a1 a2:Option Addr)(l1 l2 c1 c2:Nat):bX (fun i=>some (i*1,1)) (zs [.slice none 0 0] 2) [(0,.slice a1 l1 c1),(1,.slice a2 l2 c2)]=some [.slice a1 l1 c1,.slice a2 l2 c2]:=rfl
theorem b1'(x:UInt8):bX (fun i=>some (i*1,1)) (zs [Value.int .u8 0] 1) [(0,.int .u8 (x.toNat:Int))]=some (cbs [x]):=rfl
theorem lV{x:List UInt8}(h:x.length=32):(cbs x).length=32:=by rw [aI,h]
theorem Rd.my{K:List Nat}{w0 w:World}{H Hc r:Hp}(b:Nat){len:Nat}{T:TypeId}(bs:List UInt8)(hs:St K w0 H w) [hp:fA H (Hc++[(b,cl (cbs bs) T)]) r](hl:bs.length=len):Rd (Hc.map Prod.fst) w 1 (.slice (some ⟨b,0,none⟩) len len) (cbs bs):=
 Rd.atB (T:=T) (fz:=(0,0)) bs hs hl (Nat.le_refl _)
theorem aJ0{b tp:Nat}{s:Bk}{H:Hp}(hB:eV b tp s H)(d i:Nat)(x y:List UInt8)(hx:x.length=32)(hy:y.length=32) :
  Tri prog 173 [.pointer (some ⟨b,0,none⟩),aCz d i,dgV x,dgV y] H (fun _=>True) (fun v H'=>v=dgV (oV d i x y)∧eV b tp (s.add (wM d i x y)) H'):=by
 refine Tri.mk func173 rfl ntmps173 rfl fun w hw=>?_
 have hx1:=lV hx
 have hy1:=lV hy
 have hr:(cbs (oV d i x y)).length=32:=lV (xM ..)
 have hfl:[[UInt8.ofNat d],leN 4 (UInt64.ofNat i),x,y].flatten.length=69:=by simp [eC,hx,hy]
 refine W.k fun _ _ _ b_=>?_
 rename_i bp bx by_
 (refine SW.l [11,12,13] [0,1,2,3,5,6,7] ?_;refine dZ 9 rfl (yJ rfl rfl) ?_;refine dZ 10 rfl (yJ rfl rfl) ?_;skip )
 have hput:=yK 4 (UInt64.ofNat i) oQ oQ
 have hS:∀ pv,Tri prog 85 [.pointer (some ⟨b,0,none⟩),.int .u8 ((1:UInt8).toNat:Int),pv] H (fun w=>RdS (H.map Prod.fst) w pv [[UInt8.ofNat d],leN 4 (UInt64.ofNat i),x,y]) (fun v H'=>v=dgV (oV d i x y)∧eV b tp (s.add (wM d i x y)) H'):=fun pv=>aF8 hB 1 pv [[UInt8.ofNat d],leN 4 (UInt64.ofNat i),x,y] (by rw [hfl];decide) (by simp only [aX,List.length_nil];omega)
 refine jA 4 8 ?_ ?_ rfl rfl
 ·refine iS (fun b1=>?_) (hr:=b1' _)
  refine eB ?_
  refine bA 8 ?_
  refine eJ hput rfl ?_
  rintro _ _ ⟨b2,rfl,rfl⟩
  (refine bC [] ?_;refine bO 11 ?_)
  refine iS (fun b3=>?_) (hr:=bs4 ..)
  (refine bC [] ?_;refine bO 12 ?_)
  refine eJ (hS (.slice (some ⟨b3,0,none⟩) 4 4)) rfl ?_ (hpre:=fun w2 hs=>?_)
  rotate_left
  ·exact RdS.at (T:=23) (fz:=(0,0)) (Hc:=H) hs rfl (Nat.le_refl _) rfl (xE rfl (Rd.my (Hc:=H) (T:=5) b1 _ hs rfl) (Rd.my (Hc:=H) (T:=5) b2 _ hs (eC ..)) (Rd.my (Hc:=H) (T:=55) bx _ hs hx) (Rd.my (Hc:=H) (T:=55) by_ _ hs hy))
  rintro _ H' ⟨rfl,hB'⟩
  (refine bC [] ?_;refine bO 13 ?_;refine W.i ?_;refine SS.dn ?_)
  refine W.k ?_
  exact F.cH H' (cbs (oV d i x y)) ⟨rfl,hB'⟩
 ·refine eJ hput rfl ?_
  rintro _ _ ⟨b2,rfl,rfl⟩
  refine eB ?_
  refine bA 4 ?_
  refine iS (fun b1=>?_) (hr:=b1' _)
  (refine bC [] ?_;refine bO 11 ?_)
  refine iS (fun b3=>?_) (hr:=bs4 ..)
  (refine bC [] ?_;refine bO 12 ?_)
  refine eJ (hS (.slice (some ⟨b3,0,none⟩) 4 4)) rfl ?_ (hpre:=fun w2 hs=>?_)
  rotate_left
  ·exact RdS.at (T:=23) (fz:=(0,0)) (Hc:=H) hs rfl (Nat.le_refl _) rfl (xE rfl (Rd.my (Hc:=H) (T:=5) b1 _ hs rfl) (Rd.my (Hc:=H) (T:=5) b2 _ hs (eC ..)) (Rd.my (Hc:=H) (T:=55) bx _ hs hx) (Rd.my (Hc:=H) (T:=55) by_ _ hs hy))
  rintro _ H' ⟨rfl,hB'⟩
  (refine bC [] ?_;refine bO 13 ?_;refine W.i ?_;refine SS.dn ?_)
  refine W.k ?_
  exact F.cH H' (cbs (oV d i x y)) ⟨rfl,hB'⟩
theorem aOk{b tp:Nat}{s:Bk}{H:Hp}(hB:eV b tp s H)(n:Nat)(x:List UInt8)(hx:x.length=32) :
  Tri prog 126 [.pointer (some ⟨b,0,none⟩),.int .i64 (n:Int),dgV x] H (fun _=>True) (fun v H'=>v=dgV (Sha.sum (nF n x))∧eV b tp (s.add (nF n x)) H'):=by
 refine Tri.mk func126 rfl ntmps126 rfl fun w hw=>?_
 have hx1:=lV hx
 have hr:(cbs (Sha.sum (nF n x))).length=32:=lV (Sha.sum_len _)
 have hfl:[leN 4 (UInt64.ofNat n),x].flatten.length=36:=by simp [eC,hx]
 have hS:∀ pv,Tri prog 85 [.pointer (some ⟨b,0,none⟩),.int .u8 ((2:UInt8).toNat:Int),pv] H (fun w=>RdS (H.map Prod.fst) w pv [leN 4 (UInt64.ofNat n),x]) (fun v H'=>v=dgV (Sha.sum (nF n x))∧eV b tp (s.add (nF n x)) H'):=fun pv=>aF8 hB 2 pv [leN 4 (UInt64.ofNat n),x] (by rw [hfl];decide) (by simp only [aX,List.length_nil];omega)
 refine W.k fun _ b_=>?_
 rename_i bx
 (refine SW.l [] [0,1,2] ?_;refine dZ 4 rfl (yJ rfl rfl) ?_;refine bA 3 ?_)
 refine eJ (yK 4 (UInt64.ofNat n) oQ oQ) rfl ?_
 rintro _ _ ⟨b2,rfl,rfl⟩
 (refine bC [] ?_;refine bA 5 ?_)
 refine iS (fun b3=>?_) (hr:=aLr ..)
 (refine bC [] ?_;refine bA 6 ?_)
 refine eJ (hS (.slice (some ⟨b3,0,none⟩) 2 2)) rfl ?_ (hpre:=fun w2 hs=>?_)
 rotate_left
 ·exact RdS.at (T:=23) (fz:=(0,0)) (Hc:=H) hs rfl (Nat.le_refl _) rfl (aEE rfl (Rd.my (Hc:=H) (T:=5) b2 _ hs (eC ..)) (Rd.my (Hc:=H) (T:=55) bx _ hs hx))
 rintro _ H' ⟨rfl,hB'⟩
 (refine bC [] ?_;refine bA 7 ?_;refine W.i ?_;refine SS.dn ?_)
 refine W.k ?_
 exact F.cH H' (cbs (Sha.sum (nF n x))) ⟨rfl,hB'⟩
theorem aGC{b tp:Nat}{s:Bk}{H:Hp}(hB:eV b tp s H)(k:Nat)(v:Value)(x:List UInt8)(hx:x.length≤1099511620000) :
  Tri prog 36 [.pointer (some ⟨b,0,none⟩),.int .i64 (k:Int),v] H (fun w=>Rd (H.map Prod.fst) w 1 v (cbs x)) (fun v H'=>v=dgV (Sha.sum (fJ k x))∧eV b tp (s.add (fJ k x)) H'):=by
 refine Tri.mk func36 rfl ntmps36 rfl fun w hw=>?_
 have hr:(cbs (Sha.sum (fJ k x))).length=32:=lV (Sha.sum_len _)
 have hfl:[leN 4 (UInt64.ofNat k),x].flatten.length=4+x.length:=by simp [eC]
 have hS:∀ pv,Tri prog 85 [.pointer (some ⟨b,0,none⟩),.int .u8 ((0:UInt8).toNat:Int),pv] H (fun w=>RdS (H.map Prod.fst) w pv [leN 4 (UInt64.ofNat k),x]) (fun v H'=>v=dgV (Sha.sum (fJ k x))∧eV b tp (s.add (fJ k x)) H'):=fun pv=>aF8 hB 0 pv [leN 4 (UInt64.ofNat k),x] (by rw [hfl];omega) (by simp only [aX,List.length_nil];omega)
 have hv1:=hw.isOne
 have hw2:=hw
 obtain⟨pa,pl,pc,rfl,-⟩:=hw.get
 refine W.k fun b_=>?_
 refine eJ (yK 4 (UInt64.ofNat k) oQ oQ) rfl ?_
 rintro _ _ ⟨b2,rfl,rfl⟩
 have hb:=aLr (some ⟨b2,0,none⟩) pa 4 pl 4 pc
 refine W.k fun b_=>?_
 refine eJ (hS (.slice (some ⟨b_,0,none⟩) 2 2)) rfl ?_ (hpre:=fun w2 hs=>?_)
 rotate_left
 ·exact RdS.at (T:=23) (fz:=(0,0)) (Hc:=H) hs rfl (Nat.le_refl _) rfl (aEE rfl (Rd.my (Hc:=H) (T:=5) b2 _ hs (eC ..)) (hw2.ro (Hc:=H) hs))
 rintro _ H' ⟨rfl,hB'⟩
 refine W.k ?_
 exact F.cH H' (cbs (Sha.sum (fJ k x))) ⟨rfl,hB'⟩
theorem aL9(d i:Nat)(x y:List UInt8)(hx:x.length=32)(hy:y.length=32) :
  Tri prog 202 [.int .i64 (d:Int),.int .i64 (i:Int),dgV x,dgV y] [] (fun _=>True) (fun v H=>v=dgV (oV d i x y)∧H=[]):=by
 refine Tri.mk func202 rfl ntmps202 rfl fun w hw=>?_
 have hx1:=lV hx
 have hy1:=lV hy
 have hr:(cbs (oV d i x y)).length=32:=lV (xM ..)
 have hfl:[[UInt8.ofNat d],leN 4 (UInt64.ofNat i),x,y].flatten.length=69:=by simp [eC,hx,hy]
 have hput:=wT 4 (UInt64.ofNat i) oQ
 have hS:∀ pv,Tri prog 200 [.int .u8 ((1:UInt8).toNat:Int),pv] [] (fun w=>RdS [] w pv [[UInt8.ofNat d],leN 4 (UInt64.ofNat i),x,y]) (fun v H'=>v=dgV (oV d i x y)∧H'=[]):=fun pv=>aDR 1 pv [[UInt8.ofNat d],leN 4 (UInt64.ofNat i),x,y] (by rw [hfl];decide) (by simp only [aX,List.length_nil];omega)
 refine W.k fun _ _ b_=>?_
 rename_i bx by_
 (refine SW.l [] [0,1,3,4] ?_;refine dZ 6 rfl (yJ rfl rfl) ?_;refine dZ 7 rfl (yJ rfl rfl) ?_;skip )
 refine jA 2 5 ?_ ?_ rfl rfl
 ·refine iS (fun b1=>?_) (hr:=b1' _)
  refine eB ?_
  refine bA 5 ?_
  refine eJ hput rfl ?_
  intro v2 H2 h2
  have h21:=h2.isOne
  obtain⟨a2,l2,c2,rfl,hl2⟩:=h2.form
  (refine bC [] ?_;refine bA 8 ?_)
  refine iS (fun b3=>?_) (hr:=bs4 ..)
  (refine bC [] ?_;refine bA 9 ?_)
  refine eJ (hS (.slice (some ⟨b3,0,none⟩) 4 4)) rfl ?_ (hpre:=fun w2 hs=>?_)
  rotate_left
  ·exact RdS.at (T:=23) (fz:=(0,0)) (Hc:=[]) hs rfl (Nat.le_refl _) rfl (xE rfl (Rd.my (Hc:=[]) (T:=5) b1 _ hs rfl) (Rd.ownB [] h2 hs) (Rd.my (Hc:=[]) (T:=54) bx _ hs hx) (Rd.my (Hc:=[]) (T:=54) by_ _ hs hy))
  rintro _ _ ⟨rfl,rfl⟩
  (refine bC [] ?_;refine bA 10 ?_;refine W.i ?_;refine SS.dn ?_)
  refine W.k ?_
  exact F.c0 _ ⟨rfl,rfl⟩
 ·refine eJ hput rfl ?_
  intro v2 H2 h2
  have h21:=h2.isOne
  obtain⟨a2,l2,c2,rfl,hl2⟩:=h2.form
  refine eB ?_
  refine bA 2 ?_
  refine iS (fun b1=>?_) (hr:=b1' _)
  (refine bC [] ?_;refine bA 8 ?_)
  refine iS (fun b3=>?_) (hr:=bs4 ..)
  (refine bC [] ?_;refine bA 9 ?_)
  refine eJ (hS (.slice (some ⟨b3,0,none⟩) 4 4)) rfl ?_ (hpre:=fun w2 hs=>?_)
  rotate_left
  ·exact RdS.at (T:=23) (fz:=(0,0)) (Hc:=[]) hs rfl (Nat.le_refl _) rfl (xE rfl (Rd.my (Hc:=[]) (T:=5) b1 _ hs rfl) (Rd.ownB [] h2 hs) (Rd.my (Hc:=[]) (T:=54) bx _ hs hx) (Rd.my (Hc:=[]) (T:=54) by_ _ hs hy))
  rintro _ _ ⟨rfl,rfl⟩
  (refine bC [] ?_;refine bA 10 ?_;refine W.i ?_;refine SS.dn ?_)
  refine W.k ?_
  exact F.c0 _ ⟨rfl,rfl⟩
theorem aOn(n:Nat)(x:List UInt8)(hx:x.length=32) :
  Tri prog 135 [.int .i64 (n:Int),dgV x] [] (fun _=>True) (fun v H=>v=dgV (Sha.sum (nF n x))∧H=[]):=by
 refine Tri.mk func135 rfl ntmps135 rfl fun w hw=>?_
 have hx1:=lV hx
 have hr:(cbs (Sha.sum (nF n x))).length=32:=lV (Sha.sum_len _)
 have hfl:[leN 4 (UInt64.ofNat n),x].flatten.length=36:=by simp [eC,hx]
 have hS:∀ pv,Tri prog 200 [.int .u8 ((2:UInt8).toNat:Int),pv] [] (fun w=>RdS [] w pv [leN 4 (UInt64.ofNat n),x]) (fun v H'=>v=dgV (Sha.sum (nF n x))∧H'=[]):=fun pv=>aDR 2 pv [leN 4 (UInt64.ofNat n),x] (by rw [hfl];decide) (by simp only [aX,List.length_nil];omega)
 refine W.k fun _ b_=>?_
 rename_i bx
 (refine SW.l [] [0,1] ?_;refine dZ 3 rfl (yJ rfl rfl) ?_;refine bA 2 ?_)
 refine eJ (wT 4 (UInt64.ofNat n) oQ) rfl ?_
 intro v2 H2 h2
 have h21:=h2.isOne
 obtain⟨a2,l2,c2,rfl,hl2⟩:=h2.form
 (refine bC [] ?_;refine bA 4 ?_)
 refine iS (fun b3=>?_) (hr:=aLr ..)
 (refine bC [] ?_;refine bA 5 ?_)
 refine eJ (hS (.slice (some ⟨b3,0,none⟩) 2 2)) rfl ?_ (hpre:=fun w2 hs=>?_)
 rotate_left
 ·exact RdS.at (T:=23) (fz:=(0,0)) (Hc:=[]) hs rfl (Nat.le_refl _) rfl (aEE rfl (Rd.ownB [] h2 hs) (Rd.my (Hc:=[]) (T:=54) bx _ hs hx))
 rintro _ _ ⟨rfl,rfl⟩
 (refine bC [] ?_;refine bA 6 ?_;refine W.i ?_;refine SS.dn ?_)
 refine W.k ?_
 exact F.c0 _ ⟨rfl,rfl⟩
theorem aBN(k:Nat)(v:Value)(x:List UInt8)(hx:x.length≤1099511620000) :
  Tri prog 140 [.int .i64 (k:Int),v] [] (fun w=>Rd [] w 1 v (cbs x)) (fun v H=>v=dgV (Sha.sum (fJ k x))∧H=[]):=by
 refine Tri.mk func140 rfl ntmps140 rfl fun w hw=>?_
 have hr:(cbs (Sha.sum (fJ k x))).length=32:=lV (Sha.sum_len _)
 have hfl:[leN 4 (UInt64.ofNat k),x].flatten.length=4+x.length:=by simp [eC]
 have hS:∀ pv,Tri prog 200 [.int .u8 ((0:UInt8).toNat:Int),pv] [] (fun w=>RdS [] w pv [leN 4 (UInt64.ofNat k),x]) (fun v H'=>v=dgV (Sha.sum (fJ k x))∧H'=[]):=fun pv=>aDR 0 pv [leN 4 (UInt64.ofNat k),x] (by rw [hfl];omega) (by simp only [aX,List.length_nil];omega)
 have hv1:=hw.isOne
 have hw2:=hw
 obtain⟨pa,pl,pc,rfl,-⟩:=hw.get
 refine W.k fun b_=>?_
 refine eJ (wT 4 (UInt64.ofNat k) oQ) rfl ?_
 intro v2 H2 h2
 have h21:=h2.isOne
 obtain⟨a2,l2,c2,rfl,hl2⟩:=h2.form
 have hb:=aLr a2 pa l2 pl c2 pc
 refine W.k fun b_=>?_
 refine eJ (hS (.slice (some ⟨b_,0,none⟩) 2 2)) rfl ?_ (hpre:=fun w2 hs=>?_)
 rotate_left
 ·exact RdS.at (T:=23) (fz:=(0,0)) (Hc:=[]) hs rfl (Nat.le_refl _) rfl (aEE rfl (Rd.ownB [] h2 hs) (hw2.ro (Hc:=[]) hs))
 rintro _ _ ⟨rfl,rfl⟩
 refine W.k ?_
 exact F.c0 _ ⟨rfl,rfl⟩
end
end Go.Proofs.YtnhnpjokpelkbaaGreat
