/- The sum of two, of all, of a block: the program's and the document's. -/
import Derived.Test.YtmceanmblcadcaaGreatPn8
set_option linter.unusedVariables false
set_option linter.unusedSimpArgs false
set_option linter.unusedSectionVars false
namespace Go.Proofs.YtmceanmblcadcaaGreat
open Go Go.Proofs.Tryz
section
attribute [local irreducible] SW SL SQ SH SA SS Pu Fin bU aP
theorem tQ{K:List Nat}{vs:List Value}{a1 a2 a3 a4:Option Addr}{l1 l2 l3 l4 c1 c2 c3 c4:Nat}{d1 d2 d3 d4:List UInt8}{w:World}(hv:vs=[.slice a1 l1 c1,.slice a2 l2 c2,.slice a3 l3 c3,.slice a4 l4 c4])(h1:Rd K w 1 (.slice a1 l1 c1) (cbs d1))(h2:Rd K w 1 (.slice a2 l2 c2) (cbs d2))(h3:Rd K w 1 (.slice a3 l3 c3) (cbs d3))(h4:Rd K w 1 (.slice a4 l4 c4) (cbs d4)) :
  ∀ (i:Nat) (bs:List UInt8),[d1,d2,d3,d4][i]?=some bs→∃ (a:Option Addr) (len cap:Nat),vs[i]?=some (Value.slice a len cap)∧Rd K w 1 (.slice a len cap) (cbs bs):=by
 intro i bs hi
 have hi0:i=0∨i=1∨i=2∨i=3:=by
  have:=(aD.1 hi).1
  simp at this;omega
 subst hv
 rcases hi0 with rfl|rfl|rfl|rfl <;> cases hi
 ·exact⟨a1,l1,c1,rfl,h1⟩
 ·exact⟨a2,l2,c2,rfl,h2⟩
 ·exact⟨a3,l3,c3,rfl,h3⟩
 ·exact⟨a4,l4,c4,rfl,h4⟩
abbrev aJZ(d i:Nat):Value:=.agg [(.int .i64 (d:Int):Value),.int .i64 (i:Int)].toArray
abbrev dgV(x:List UInt8):Value:=.agg (cbs x).toArray
theorem bs4(a1 a2 a3 a4:Option Addr)(l1 l2 l3 l4 c1 c2 c3 c4:Nat):bP (fun i=>some (i*1,1)) (zs [.slice none 0 0] 4) [(0,.slice a1 l1 c1),(1,.slice a2 l2 c2),(2,.slice a3 l3 c3),(3,.slice a4 l4 c4)]=some [.slice a1 l1 c1,.slice a2 l2 c2,.slice a3 l3 c3,.slice a4 l4 c4]:=rfl
theorem aHB(a1 a2:Option Addr)(l1 l2 c1 c2:Nat):bP (fun i=>some (i*1,1)) (zs [.slice none 0 0] 2) [(0,.slice a1 l1 c1),(1,.slice a2 l2 c2)]=some [.slice a1 l1 c1,.slice a2 l2 c2]:=rfl
theorem b1'(x:UInt8):bP (fun i=>some (i*1,1)) (zs [Value.int .u8 0] 1) [(0,.int .u8 (x.toNat:Int))]=some (cbs [x]):=rfl
theorem nR{x:List UInt8}(h:x.length=32):(cbs x).length=32:=by rw [aF,h]
theorem Rd.my{K:List Nat}{w0 w:World}{H Hc r:Hp}(b:Nat){len:Nat}{T:TypeId}(bs:List UInt8)(hs:St K w0 H w) [hp:eY H (Hc++[(b,cl (cbs bs) T)]) r](hl:bs.length=len):Rd (Hc.map Prod.fst) w 1 (.slice (some ⟨b,0,none⟩) len len) (cbs bs):=
 Rd.atB (T:=T) (fz:=(0,0)) bs hs hl (Nat.le_refl _)
theorem aJG{b tp:Nat}{s:Bk}{H:Hp}(hB:fB b tp s H)(d i:Nat)(x y:List UInt8)(hx:x.length=32)(hy:y.length=32) :
  Tri prog 164 [.pointer (some ⟨b,0,none⟩),aJZ d i,dgV x,dgV y] H (fun _=>True) (fun v H'=>v=dgV (rX d i x y)∧fB b tp (s.add (uJ d i x y)) H'):=by
 refine Tri.mk func164 rfl ntmps164 rfl fun w hw=>?_
 have hx1:=nR hx
 have hy1:=nR hy
 have hr:(cbs (rX d i x y)).length=32:=nR (xI ..)
 have hfl:[[UInt8.ofNat d],leN 4 (UInt64.ofNat i),x,y].flatten.length=69:=by simp [dD,hx,hy]
 refine W.k fun _ _ _ b_=>?_
 rename_i bp bx by_
 (refine SW.l [11,12,13] [0,1,2,3,5,6,7] ?_;refine eW 9 rfl (uM rfl rfl) ?_;refine eW 10 rfl (uM rfl rfl) ?_;skip )
 have hput:=uO 4 (UInt64.ofNat i) oQ oQ
 have hS:∀ pv,Tri prog 82 [.pointer (some ⟨b,0,none⟩),.int .u8 ((1:UInt8).toNat:Int),pv] H (fun w=>RdS (H.map Prod.fst) w pv [[UInt8.ofNat d],leN 4 (UInt64.ofNat i),x,y]) (fun v H'=>v=dgV (rX d i x y)∧fB b tp (s.add (uJ d i x y)) H'):=fun pv=>aC1 hB 1 pv [[UInt8.ofNat d],leN 4 (UInt64.ofNat i),x,y] (by rw [hfl];decide) (by simp only [aY,cM];omega)
 refine gT 4 8 ?_ ?_ rfl rfl
 ·refine iO (fun b1=>?_) (hr:=b1' _)
  refine cW ?_
  refine aU 8 ?_
  refine dL hput rfl ?_
  rintro _ _ ⟨b2,rfl,rfl⟩
  (refine bI [] ?_;refine cQ 11 ?_)
  refine iO (fun b3=>?_) (hr:=bs4 ..)
  (refine bI [] ?_;refine cQ 12 ?_)
  refine dL (hS (.slice (some ⟨b3,0,none⟩) 4 4)) rfl ?_ (hpre:=fun w2 hs=>?_)
  rotate_left
  ·exact RdS.at (T:=23) (fz:=(0,0)) (Hc:=H) hs rfl (Nat.le_refl _) rfl (tQ rfl (Rd.my (Hc:=H) (T:=5) b1 _ hs rfl) (Rd.my (Hc:=H) (T:=5) b2 _ hs (dD ..)) (Rd.my (Hc:=H) (T:=55) bx _ hs hx) (Rd.my (Hc:=H) (T:=55) by_ _ hs hy))
  rintro _ H' ⟨rfl,hB'⟩
  (refine bI [] ?_;refine cQ 13 ?_;refine W.i ?_;refine eH ?_)
  refine W.k ?_
  exact F.cH H' (cbs (rX d i x y)) ⟨rfl,hB'⟩
 ·refine dL hput rfl ?_
  rintro _ _ ⟨b2,rfl,rfl⟩
  refine cW ?_
  refine aU 4 ?_
  refine iO (fun b1=>?_) (hr:=b1' _)
  (refine bI [] ?_;refine cQ 11 ?_)
  refine iO (fun b3=>?_) (hr:=bs4 ..)
  (refine bI [] ?_;refine cQ 12 ?_)
  refine dL (hS (.slice (some ⟨b3,0,none⟩) 4 4)) rfl ?_ (hpre:=fun w2 hs=>?_)
  rotate_left
  ·exact RdS.at (T:=23) (fz:=(0,0)) (Hc:=H) hs rfl (Nat.le_refl _) rfl (tQ rfl (Rd.my (Hc:=H) (T:=5) b1 _ hs rfl) (Rd.my (Hc:=H) (T:=5) b2 _ hs (dD ..)) (Rd.my (Hc:=H) (T:=55) bx _ hs hx) (Rd.my (Hc:=H) (T:=55) by_ _ hs hy))
  rintro _ H' ⟨rfl,hB'⟩
  (refine bI [] ?_;refine cQ 13 ?_;refine W.i ?_;refine eH ?_)
  refine W.k ?_
  exact F.cH H' (cbs (rX d i x y)) ⟨rfl,hB'⟩
theorem aKc{b tp:Nat}{s:Bk}{H:Hp}(hB:fB b tp s H)(n:Nat)(x:List UInt8)(hx:x.length=32) :
  Tri prog 124 [.pointer (some ⟨b,0,none⟩),.int .i64 (n:Int),dgV x] H (fun _=>True) (fun v H'=>v=dgV (Sha.sum (lJ n x))∧fB b tp (s.add (lJ n x)) H'):=by
 refine Tri.mk func124 rfl ntmps124 rfl fun w hw=>?_
 have hx1:=nR hx
 have hr:(cbs (Sha.sum (lJ n x))).length=32:=nR (Sha.sum_len _)
 have hfl:[leN 4 (UInt64.ofNat n),x].flatten.length=36:=by simp [dD,hx]
 have hS:∀ pv,Tri prog 82 [.pointer (some ⟨b,0,none⟩),.int .u8 ((2:UInt8).toNat:Int),pv] H (fun w=>RdS (H.map Prod.fst) w pv [leN 4 (UInt64.ofNat n),x]) (fun v H'=>v=dgV (Sha.sum (lJ n x))∧fB b tp (s.add (lJ n x)) H'):=fun pv=>aC1 hB 2 pv [leN 4 (UInt64.ofNat n),x] (by rw [hfl];decide) (by simp only [aY,cM];omega)
 refine W.k fun _ b_=>?_
 rename_i bx
 (refine SW.l [] [0,1,2] ?_;refine eW 4 rfl (uM rfl rfl) ?_;refine aU 3 ?_)
 refine dL (uO 4 (UInt64.ofNat n) oQ oQ) rfl ?_
 rintro _ _ ⟨b2,rfl,rfl⟩
 (refine bI [] ?_;refine aU 5 ?_)
 refine iO (fun b3=>?_) (hr:=aHB ..)
 (refine bI [] ?_;refine aU 6 ?_)
 refine dL (hS (.slice (some ⟨b3,0,none⟩) 2 2)) rfl ?_ (hpre:=fun w2 hs=>?_)
 rotate_left
 ·exact RdS.at (T:=23) (fz:=(0,0)) (Hc:=H) hs rfl (Nat.le_refl _) rfl (aBU rfl (Rd.my (Hc:=H) (T:=5) b2 _ hs (dD ..)) (Rd.my (Hc:=H) (T:=55) bx _ hs hx))
 rintro _ H' ⟨rfl,hB'⟩
 (refine bI [] ?_;refine aU 7 ?_;refine W.i ?_;refine eH ?_)
 refine W.k ?_
 exact F.cH H' (cbs (Sha.sum (lJ n x))) ⟨rfl,hB'⟩
theorem aGe{b tp:Nat}{s:Bk}{H:Hp}(hB:fB b tp s H)(k:Nat)(v:Value)(x:List UInt8)(hx:x.length≤1099511620000) :
  Tri prog 41 [.pointer (some ⟨b,0,none⟩),.int .i64 (k:Int),v] H (fun w=>Rd (H.map Prod.fst) w 1 v (cbs x)) (fun v H'=>v=dgV (Sha.sum (jG k x))∧fB b tp (s.add (jG k x)) H'):=by
 refine Tri.mk func41 rfl ntmps41 rfl fun w hw=>?_
 have hr:(cbs (Sha.sum (jG k x))).length=32:=nR (Sha.sum_len _)
 have hfl:[leN 4 (UInt64.ofNat k),x].flatten.length=4+x.length:=by simp [dD]
 have hS:∀ pv,Tri prog 82 [.pointer (some ⟨b,0,none⟩),.int .u8 ((0:UInt8).toNat:Int),pv] H (fun w=>RdS (H.map Prod.fst) w pv [leN 4 (UInt64.ofNat k),x]) (fun v H'=>v=dgV (Sha.sum (jG k x))∧fB b tp (s.add (jG k x)) H'):=fun pv=>aC1 hB 0 pv [leN 4 (UInt64.ofNat k),x] (by rw [hfl];omega) (by simp only [aY,cM];omega)
 have hv1:=hw.isOne
 have hw2:=hw
 obtain⟨pa,pl,pc,rfl,-⟩:=hw.get
 refine W.k fun b_=>?_
 refine dL (uO 4 (UInt64.ofNat k) oQ oQ) rfl ?_
 rintro _ _ ⟨b2,rfl,rfl⟩
 have hb:=aHB (some ⟨b2,0,none⟩) pa 4 pl 4 pc
 refine W.k fun b_=>?_
 refine dL (hS (.slice (some ⟨b_,0,none⟩) 2 2)) rfl ?_ (hpre:=fun w2 hs=>?_)
 rotate_left
 ·exact RdS.at (T:=23) (fz:=(0,0)) (Hc:=H) hs rfl (Nat.le_refl _) rfl (aBU rfl (Rd.my (Hc:=H) (T:=5) b2 _ hs (dD ..)) (hw2.ro (Hc:=H) hs))
 rintro _ H' ⟨rfl,hB'⟩
 refine W.k ?_
 exact F.cH H' (cbs (Sha.sum (jG k x))) ⟨rfl,hB'⟩
theorem aIg(d i:Nat)(x y:List UInt8)(hx:x.length=32)(hy:y.length=32) :
  Tri prog 269 [.int .i64 (d:Int),.int .i64 (i:Int),dgV x,dgV y] [] (fun _=>True) (fun v H=>v=dgV (rX d i x y)∧H=[]):=by
 refine Tri.mk func269 rfl ntmps269 rfl fun w hw=>?_
 have hx1:=nR hx
 have hy1:=nR hy
 have hr:(cbs (rX d i x y)).length=32:=nR (xI ..)
 have hfl:[[UInt8.ofNat d],leN 4 (UInt64.ofNat i),x,y].flatten.length=69:=by simp [dD,hx,hy]
 have hput:=tG 4 (UInt64.ofNat i) oQ
 have hS:∀ pv,Tri prog 268 [.int .u8 ((1:UInt8).toNat:Int),pv] [] (fun w=>RdS [] w pv [[UInt8.ofNat d],leN 4 (UInt64.ofNat i),x,y]) (fun v H'=>v=dgV (rX d i x y)∧H'=[]):=fun pv=>aBl 1 pv [[UInt8.ofNat d],leN 4 (UInt64.ofNat i),x,y] (by rw [hfl];decide) (by simp only [aY,cM];omega)
 refine W.k fun _ _ b_=>?_
 rename_i bx by_
 (refine SW.l [] [0,1,3,4] ?_;refine eW 6 rfl (uM rfl rfl) ?_;refine eW 7 rfl (uM rfl rfl) ?_;skip )
 refine gT 2 5 ?_ ?_ rfl rfl
 ·refine iO (fun b1=>?_) (hr:=b1' _)
  refine cW ?_
  refine aU 5 ?_
  refine dL hput rfl ?_
  intro v2 H2 h2
  have h21:=h2.isOne
  obtain⟨a2,l2,c2,rfl,hl2⟩:=h2.form
  (refine bI [] ?_;refine aU 8 ?_)
  refine iO (fun b3=>?_) (hr:=bs4 ..)
  (refine bI [] ?_;refine aU 9 ?_)
  refine dL (hS (.slice (some ⟨b3,0,none⟩) 4 4)) rfl ?_ (hpre:=fun w2 hs=>?_)
  rotate_left
  ·exact RdS.at (T:=23) (fz:=(0,0)) (Hc:=[]) hs rfl (Nat.le_refl _) rfl (tQ rfl (Rd.my (Hc:=[]) (T:=5) b1 _ hs rfl) (Rd.ownB [] h2 hs) (Rd.my (Hc:=[]) (T:=54) bx _ hs hx) (Rd.my (Hc:=[]) (T:=54) by_ _ hs hy))
  rintro _ _ ⟨rfl,rfl⟩
  (refine bI [] ?_;refine aU 10 ?_;refine W.i ?_;refine eH ?_)
  refine W.k ?_
  exact F.c0 _ ⟨rfl,rfl⟩
 ·refine dL hput rfl ?_
  intro v2 H2 h2
  have h21:=h2.isOne
  obtain⟨a2,l2,c2,rfl,hl2⟩:=h2.form
  refine cW ?_
  refine aU 2 ?_
  refine iO (fun b1=>?_) (hr:=b1' _)
  (refine bI [] ?_;refine aU 8 ?_)
  refine iO (fun b3=>?_) (hr:=bs4 ..)
  (refine bI [] ?_;refine aU 9 ?_)
  refine dL (hS (.slice (some ⟨b3,0,none⟩) 4 4)) rfl ?_ (hpre:=fun w2 hs=>?_)
  rotate_left
  ·exact RdS.at (T:=23) (fz:=(0,0)) (Hc:=[]) hs rfl (Nat.le_refl _) rfl (tQ rfl (Rd.my (Hc:=[]) (T:=5) b1 _ hs rfl) (Rd.ownB [] h2 hs) (Rd.my (Hc:=[]) (T:=54) bx _ hs hx) (Rd.my (Hc:=[]) (T:=54) by_ _ hs hy))
  rintro _ _ ⟨rfl,rfl⟩
  (refine bI [] ?_;refine aU 10 ?_;refine W.i ?_;refine eH ?_)
  refine W.k ?_
  exact F.c0 _ ⟨rfl,rfl⟩
theorem aKe(n:Nat)(x:List UInt8)(hx:x.length=32) :
  Tri prog 226 [.int .i64 (n:Int),dgV x] [] (fun _=>True) (fun v H=>v=dgV (Sha.sum (lJ n x))∧H=[]):=by
 refine Tri.mk func226 rfl ntmps226 rfl fun w hw=>?_
 have hx1:=nR hx
 have hr:(cbs (Sha.sum (lJ n x))).length=32:=nR (Sha.sum_len _)
 have hfl:[leN 4 (UInt64.ofNat n),x].flatten.length=36:=by simp [dD,hx]
 have hS:∀ pv,Tri prog 268 [.int .u8 ((2:UInt8).toNat:Int),pv] [] (fun w=>RdS [] w pv [leN 4 (UInt64.ofNat n),x]) (fun v H'=>v=dgV (Sha.sum (lJ n x))∧H'=[]):=fun pv=>aBl 2 pv [leN 4 (UInt64.ofNat n),x] (by rw [hfl];decide) (by simp only [aY,cM];omega)
 refine W.k fun _ b_=>?_
 rename_i bx
 (refine SW.l [] [0,1] ?_;refine eW 3 rfl (uM rfl rfl) ?_;refine aU 2 ?_)
 refine dL (tG 4 (UInt64.ofNat n) oQ) rfl ?_
 intro v2 H2 h2
 have h21:=h2.isOne
 obtain⟨a2,l2,c2,rfl,hl2⟩:=h2.form
 (refine bI [] ?_;refine aU 4 ?_)
 refine iO (fun b3=>?_) (hr:=aHB ..)
 (refine bI [] ?_;refine aU 5 ?_)
 refine dL (hS (.slice (some ⟨b3,0,none⟩) 2 2)) rfl ?_ (hpre:=fun w2 hs=>?_)
 rotate_left
 ·exact RdS.at (T:=23) (fz:=(0,0)) (Hc:=[]) hs rfl (Nat.le_refl _) rfl (aBU rfl (Rd.ownB [] h2 hs) (Rd.my (Hc:=[]) (T:=54) bx _ hs hx))
 rintro _ _ ⟨rfl,rfl⟩
 (refine bI [] ?_;refine aU 6 ?_;refine W.i ?_;refine eH ?_)
 refine W.k ?_
 exact F.c0 _ ⟨rfl,rfl⟩
theorem aIe(k:Nat)(v:Value)(x:List UInt8)(hx:x.length≤1099511620000) :
  Tri prog 229 [.int .i64 (k:Int),v] [] (fun w=>Rd [] w 1 v (cbs x)) (fun v H=>v=dgV (Sha.sum (jG k x))∧H=[]):=by
 refine Tri.mk func229 rfl ntmps229 rfl fun w hw=>?_
 have hr:(cbs (Sha.sum (jG k x))).length=32:=nR (Sha.sum_len _)
 have hfl:[leN 4 (UInt64.ofNat k),x].flatten.length=4+x.length:=by simp [dD]
 have hS:∀ pv,Tri prog 268 [.int .u8 ((0:UInt8).toNat:Int),pv] [] (fun w=>RdS [] w pv [leN 4 (UInt64.ofNat k),x]) (fun v H'=>v=dgV (Sha.sum (jG k x))∧H'=[]):=fun pv=>aBl 0 pv [leN 4 (UInt64.ofNat k),x] (by rw [hfl];omega) (by simp only [aY,cM];omega)
 have hv1:=hw.isOne
 have hw2:=hw
 obtain⟨pa,pl,pc,rfl,-⟩:=hw.get
 refine W.k fun b_=>?_
 refine dL (tG 4 (UInt64.ofNat k) oQ) rfl ?_
 intro v2 H2 h2
 have h21:=h2.isOne
 obtain⟨a2,l2,c2,rfl,hl2⟩:=h2.form
 have hb:=aHB a2 pa l2 pl c2 pc
 refine W.k fun b_=>?_
 refine dL (hS (.slice (some ⟨b_,0,none⟩) 2 2)) rfl ?_ (hpre:=fun w2 hs=>?_)
 rotate_left
 ·exact RdS.at (T:=23) (fz:=(0,0)) (Hc:=[]) hs rfl (Nat.le_refl _) rfl (aBU rfl (Rd.ownB [] h2 hs) (hw2.ro (Hc:=[]) hs))
 rintro _ _ ⟨rfl,rfl⟩
 refine W.k ?_
 exact F.c0 _ ⟨rfl,rfl⟩
end
end Go.Proofs.YtmceanmblcadcaaGreat
