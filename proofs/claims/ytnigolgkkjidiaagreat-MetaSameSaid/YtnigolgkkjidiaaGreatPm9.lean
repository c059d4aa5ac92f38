/- The sum of two, of all, of a block: the program's and the document's. -/
import Derived.Test.YtnigolgkkjidiaaGreatPm6
set_option linter.unusedVariables false
set_option linter.unusedSimpArgs false
set_option linter.unusedSectionVars false
namespace Go.Proofs.YtnigolgkkjidiaaGreat
open Go
attribute [local irreducible] SW SL SQ SH SA SS Pu Fin CutF HandF
theorem four_at{K:List Nat}{vs:List Value}{a1 a2 a3 a4:Option Addr}{l1 l2 l3 l4 c1 c2 c3 c4:Nat}{d1 d2 d3 d4:List UInt8}{w:World}(hv:vs=[.slice a1 l1 c1,.slice a2 l2 c2,.slice a3 l3 c3,.slice a4 l4 c4])(h1:Rd K w 1 (.slice a1 l1 c1) (cbs d1))(h2:Rd K w 1 (.slice a2 l2 c2) (cbs d2))(h3:Rd K w 1 (.slice a3 l3 c3) (cbs d3))(h4:Rd K w 1 (.slice a4 l4 c4) (cbs d4)) :
  ∀ (i:Nat) (bs:List UInt8),[d1,d2,d3,d4][i]?=some bs→∃ (a:Option Addr) (len cap:Nat),vs[i]?=some (Value.slice a len cap)∧Rd K w 1 (.slice a len cap) (cbs bs):=by
 intro i bs hi
 have hi0:i=0∨i=1∨i=2∨i=3:=by
  have:=(List.getElem?_eq_some_iff.1 hi).1
  simp at this;omega
 subst hv
 rcases hi0 with rfl|rfl|rfl|rfl <;> cases hi
 ·exact⟨a1,l1,c1,rfl,h1⟩
 ·exact⟨a2,l2,c2,rfl,h2⟩
 ·exact⟨a3,l3,c3,rfl,h3⟩
 ·exact⟨a4,l4,c4,rfl,h4⟩
abbrev placeV(d i:Nat):Value:=.agg [(.int .i64 (d:Int):Value),.int .i64 (i:Int)].toArray
abbrev dgV(x:List UInt8):Value:=.agg (cbs x).toArray
theorem bs4(a1 a2 a3 a4:Option Addr)(l1 l2 l3 l4 c1 c2 c3 c4:Nat):bfill (fun i=>some (i*1,1)) (zs [.slice none 0 0] 4) [(0,.slice a1 l1 c1),(1,.slice a2 l2 c2),(2,.slice a3 l3 c3),(3,.slice a4 l4 c4)]=some [.slice a1 l1 c1,.slice a2 l2 c2,.slice a3 l3 c3,.slice a4 l4 c4]:=rfl
theorem bs2'(a1 a2:Option Addr)(l1 l2 c1 c2:Nat):bfill (fun i=>some (i*1,1)) (zs [.slice none 0 0] 2) [(0,.slice a1 l1 c1),(1,.slice a2 l2 c2)]=some [.slice a1 l1 c1,.slice a2 l2 c2]:=rfl
theorem b1'(x:UInt8):bfill (fun i=>some (i*1,1)) (zs [Value.int .u8 0] 1) [(0,.int .u8 (x.toNat:Int))]=some (cbs [x]):=rfl
theorem cl32{x:List UInt8}(h:x.length=32):(cbs x).length=32:=by rw [cbs_len,h]
theorem Rd.my{K:List Nat}{w0 w:World}{H Hc r:Hp}(b:Nat){len:Nat}{T:TypeId}(bs:List UInt8)(hs:St K w0 H w) [hp:Part H (Hc++[(b,cl (cbs bs) T)]) r](hl:bs.length=len):Rd (Hc.map Prod.fst) w 1 (.slice (some ⟨b,0,none⟩) len len) (cbs bs):=
 Rd.atB (T:=T) (fz:=(0,0)) bs hs hl (Nat.le_refl _)
theorem node_p{b tp:Nat}{s:Bk}{H:Hp}(hB:BookP b tp s H)(d i:Nat)(x y:List UInt8)(hx:x.length=32)(hy:y.length=32) :
  Tri Tryz.prog 240 [.pointer (some ⟨b,0,none⟩),placeV d i,dgV x,dgV y] H (fun _=>True) (fun v H'=>v=dgV (nodeV d i x y)∧BookP b tp (s.add (nodeT d i x y)) H'):=by
 refine Tri.mk Tryz.func240 rfl Tryz.ntmps240 rfl fun w hw=>?_
 have hx1:=cl32 hx
 have hy1:=cl32 hy
 have hr:(cbs (nodeV d i x y)).length=32:=cl32 (nodeV_len ..)
 have hfl:[[UInt8.ofNat d],leN 4 (UInt64.ofNat i),x,y].flatten.length=69:=by simp [leN_len,hx,hy]
 repeat' (refine W.go ?_;try intro b_)
 rename_i bp bx by_
 (refine SW.regionS [11,12,13] ?_ (by kernel_rfl);refine SS.T 0 rfl ?_;refine SS.T 1 rfl ?_;(first|refine SS.ls 2 [3,4,11,12,13] rfl ?_|refine SS.sR 2 rfl ?_);refine SS.T 3 rfl ?_;refine SS.T 5 rfl ?_;(first|refine SS.ls 6 [7,8,11,12,13] rfl ?_|refine SS.sR 6 rfl ?_);refine SS.T 7 rfl ?_;refine SS.tw 9 rfl (p_sar rfl rfl) ?_;refine SS.tw 10 rfl (p_sar rfl rfl) ?_;skip )
 have hput:=put_n 4 (UInt64.ofNat i) (by omega) (by omega)
 have hS:∀ pv,Tri Tryz.prog 141 [.pointer (some ⟨b,0,none⟩),.int .u8 ((1:UInt8).toNat:Int),pv] H (fun w=>RdS (H.map Prod.fst) w pv [[UInt8.ofNat d],leN 4 (UInt64.ofNat i),x,y]) (fun v H'=>v=dgV (nodeV d i x y)∧BookP b tp (s.add (nodeT d i x y)) H'):=fun pv=>BSum_p hB 1 pv [[UInt8.ofNat d],leN 4 (UInt64.ofNat i),x,y] (by rw [hfl];decide) (by simp only [List.length_cons,List.length_nil];omega)
 refine SS.twoK 4 8 ?_ ?_ rfl rfl
 ·refine W.bsl (fun b1=>?_) (hr:=b1' _)
  refine SL.nilB ?_
  refine SS.effK 8 ?_ rfl (by kernel_rfl)
  refine W.callE hput rfl ?_
  rintro _ _ ⟨b2,rfl,rfl⟩
  (refine SL.nilB ?_;refine SS.effB 11 ?_ rfl (by kernel_rfl))
  refine W.bsl (fun b3=>?_) (hr:=bs4 ..)
  (refine SL.nilB ?_;refine SS.effB 12 ?_ rfl (by kernel_rfl))
  refine W.callE (hS (.slice (some ⟨b3,0,none⟩) 4 4)) rfl ?_ (hpre:=fun w2 hs=>?_)
  rotate_left
  ·exact RdS.at (T:=50) (fz:=(0,0)) (Hc:=H) hs rfl (Nat.le_refl _) rfl (four_at rfl (Rd.my (Hc:=H) (T:=5) b1 _ hs rfl) (Rd.my (Hc:=H) (T:=5) b2 _ hs (leN_len ..)) (Rd.my (Hc:=H) (T:=119) bx _ hs hx) (Rd.my (Hc:=H) (T:=119) by_ _ hs hy))
  rintro _ H' ⟨rfl,hB'⟩
  (refine SL.nilB ?_;refine SS.effB 13 ?_ rfl (by kernel_rfl);(repeat' (refine W.g1 ?_;try intro b_));refine SS.done ?_ (by kernel_rfl))
  repeat' (refine W.go ?_;try intro b_)
  exact F.cH H' (cbs (nodeV d i x y)) ⟨rfl,hB'⟩
 ·refine W.callE hput rfl ?_
  rintro _ _ ⟨b2,rfl,rfl⟩
  refine SL.nilB ?_
  refine SS.effK 4 ?_ rfl (by kernel_rfl)
  refine W.bsl (fun b1=>?_) (hr:=b1' _)
  (refine SL.nilB ?_;refine SS.effB 11 ?_ rfl (by kernel_rfl))
  refine W.bsl (fun b3=>?_) (hr:=bs4 ..)
  (refine SL.nilB ?_;refine SS.effB 12 ?_ rfl (by kernel_rfl))
  refine W.callE (hS (.slice (some ⟨b3,0,none⟩) 4 4)) rfl ?_ (hpre:=fun w2 hs=>?_)
  rotate_left
  ·exact RdS.at (T:=50) (fz:=(0,0)) (Hc:=H) hs rfl (Nat.le_refl _) rfl (four_at rfl (Rd.my (Hc:=H) (T:=5) b1 _ hs rfl) (Rd.my (Hc:=H) (T:=5) b2 _ hs (leN_len ..)) (Rd.my (Hc:=H) (T:=119) bx _ hs hx) (Rd.my (Hc:=H) (T:=119) by_ _ hs hy))
  rintro _ H' ⟨rfl,hB'⟩
  (refine SL.nilB ?_;refine SS.effB 13 ?_ rfl (by kernel_rfl);(repeat' (refine W.g1 ?_;try intro b_));refine SS.done ?_ (by kernel_rfl))
  repeat' (refine W.go ?_;try intro b_)
  exact F.cH H' (cbs (nodeV d i x y)) ⟨rfl,hB'⟩
theorem root_p{b tp:Nat}{s:Bk}{H:Hp}(hB:BookP b tp s H)(n:Nat)(x:List UInt8)(hx:x.length=32) :
  Tri Tryz.prog 195 [.pointer (some ⟨b,0,none⟩),.int .i64 (n:Int),dgV x] H (fun _=>True) (fun v H'=>v=dgV (Sha.sum (rootT n x))∧BookP b tp (s.add (rootT n x)) H'):=by
 refine Tri.mk Tryz.func195 rfl Tryz.ntmps195 rfl fun w hw=>?_
 have hx1:=cl32 hx
 have hr:(cbs (Sha.sum (rootT n x))).length=32:=cl32 (Sha.sum_len _)
 have hfl:[leN 4 (UInt64.ofNat n),x].flatten.length=36:=by simp [leN_len,hx]
 have hS:∀ pv,Tri Tryz.prog 141 [.pointer (some ⟨b,0,none⟩),.int .u8 ((2:UInt8).toNat:Int),pv] H (fun w=>RdS (H.map Prod.fst) w pv [leN 4 (UInt64.ofNat n),x]) (fun v H'=>v=dgV (Sha.sum (rootT n x))∧BookP b tp (s.add (rootT n x)) H'):=fun pv=>BSum_p hB 2 pv [leN 4 (UInt64.ofNat n),x] (by rw [hfl];decide) (by simp only [List.length_cons,List.length_nil];omega)
 repeat' (refine W.go ?_;try intro b_)
 rename_i bx
 (refine SW.regionS [] ?_ (by kernel_rfl);refine SS.T 0 rfl ?_;refine SS.T 1 rfl ?_;refine SS.T 2 rfl ?_;refine SS.tw 4 rfl (p_sar rfl rfl) ?_;refine SS.effK 3 ?_ rfl (by kernel_rfl))
 refine W.callE (put_n 4 (UInt64.ofNat n) (by omega) (by omega)) rfl ?_
 rintro _ _ ⟨b2,rfl,rfl⟩
 (refine SL.nilB ?_;refine SS.effK 5 ?_ rfl (by kernel_rfl))
 refine W.bsl (fun b3=>?_) (hr:=bs2' ..)
 (refine SL.nilB ?_;refine SS.effK 6 ?_ rfl (by kernel_rfl))
 refine W.callE (hS (.slice (some ⟨b3,0,none⟩) 2 2)) rfl ?_ (hpre:=fun w2 hs=>?_)
 rotate_left
 ·exact RdS.at (T:=50) (fz:=(0,0)) (Hc:=H) hs rfl (Nat.le_refl _) rfl (two_at rfl (Rd.my (Hc:=H) (T:=5) b2 _ hs (leN_len ..)) (Rd.my (Hc:=H) (T:=119) bx _ hs hx))
 rintro _ H' ⟨rfl,hB'⟩
 (refine SL.nilB ?_;refine SS.effK 7 ?_ rfl (by kernel_rfl);(repeat' (refine W.g1 ?_;try intro b_));refine SS.done ?_ (by kernel_rfl))
 repeat' (refine W.go ?_;try intro b_)
 exact F.cH H' (cbs (Sha.sum (rootT n x))) ⟨rfl,hB'⟩
theorem leaf_p{b tp:Nat}{s:Bk}{H:Hp}(hB:BookP b tp s H)(k:Nat)(v:Value)(x:List UInt8)(hx:x.length≤1099511620000) :
  Tri Tryz.prog 72 [.pointer (some ⟨b,0,none⟩),.int .i64 (k:Int),v] H (fun w=>Rd (H.map Prod.fst) w 1 v (cbs x)) (fun v H'=>v=dgV (Sha.sum (leafT k x))∧BookP b tp (s.add (leafT k x)) H'):=by
 refine Tri.mk Tryz.func72 rfl Tryz.ntmps72 rfl fun w hw=>?_
 have hr:(cbs (Sha.sum (leafT k x))).length=32:=cl32 (Sha.sum_len _)
 have hfl:[leN 4 (UInt64.ofNat k),x].flatten.length=4+x.length:=by simp [leN_len]
 have hS:∀ pv,Tri Tryz.prog 141 [.pointer (some ⟨b,0,none⟩),.int .u8 ((0:UInt8).toNat:Int),pv] H (fun w=>RdS (H.map Prod.fst) w pv [leN 4 (UInt64.ofNat k),x]) (fun v H'=>v=dgV (Sha.sum (leafT k x))∧BookP b tp (s.add (leafT k x)) H'):=fun pv=>BSum_p hB 0 pv [leN 4 (UInt64.ofNat k),x] (by rw [hfl];omega) (by simp only [List.length_cons,List.length_nil];omega)
 have hv1:=hw.isOne
 have hw2:=hw
 obtain⟨pa,pl,pc,rfl,-⟩:=hw.get
 repeat' (refine W.go ?_;try intro b_)
 refine W.callE (put_n 4 (UInt64.ofNat k) (by omega) (by omega)) rfl ?_
 rintro _ _ ⟨b2,rfl,rfl⟩
 have hb:=bs2' (some ⟨b2,0,none⟩) pa 4 pl 4 pc
 repeat' (refine W.go ?_;try intro b_)
 refine W.callE (hS (.slice (some ⟨b_,0,none⟩) 2 2)) rfl ?_ (hpre:=fun w2 hs=>?_)
 rotate_left
 ·exact RdS.at (T:=50) (fz:=(0,0)) (Hc:=H) hs rfl (Nat.le_refl _) rfl (two_at rfl (Rd.my (Hc:=H) (T:=5) b2 _ hs (leN_len ..)) (hw2.ro (Hc:=H) hs))
 rintro _ H' ⟨rfl,hB'⟩
 repeat' (refine W.go ?_;try intro b_)
 exact F.cH H' (cbs (Sha.sum (leafT k x))) ⟨rfl,hB'⟩
theorem rnode_p(d i:Nat)(x y:List UInt8)(hx:x.length=32)(hy:y.length=32) :
  Tri Tryz.prog 280 [.int .i64 (d:Int),.int .i64 (i:Int),dgV x,dgV y] [] (fun _=>True) (fun v H=>v=dgV (nodeV d i x y)∧H=[]):=by
 refine Tri.mk Tryz.func280 rfl Tryz.ntmps280 rfl fun w hw=>?_
 have hx1:=cl32 hx
 have hy1:=cl32 hy
 have hr:(cbs (nodeV d i x y)).length=32:=cl32 (nodeV_len ..)
 have hfl:[[UInt8.ofNat d],leN 4 (UInt64.ofNat i),x,y].flatten.length=69:=by simp [leN_len,hx,hy]
 have hput:=rput_n 4 (UInt64.ofNat i) (by omega)
 have hS:∀ pv,Tri Tryz.prog 279 [.int .u8 ((1:UInt8).toNat:Int),pv] [] (fun w=>RdS [] w pv [[UInt8.ofNat d],leN 4 (UInt64.ofNat i),x,y]) (fun v H'=>v=dgV (nodeV d i x y)∧H'=[]):=fun pv=>RSum4_p 1 pv [[UInt8.ofNat d],leN 4 (UInt64.ofNat i),x,y] (by rw [hfl];decide) (by simp only [List.length_cons,List.length_nil];omega)
 repeat' (refine W.go ?_;try intro b_)
 rename_i bx by_
 (refine SW.regionS [] ?_ (by kernel_rfl);refine SS.T 0 rfl ?_;refine SS.T 1 rfl ?_;refine SS.T 3 rfl ?_;refine SS.T 4 rfl ?_;refine SS.tw 6 rfl (p_sar rfl rfl) ?_;refine SS.tw 7 rfl (p_sar rfl rfl) ?_;skip )
 refine SS.twoK 2 5 ?_ ?_ rfl rfl
 ·refine W.bsl (fun b1=>?_) (hr:=b1' _)
  refine SL.nilB ?_
  refine SS.effK 5 ?_ rfl (by kernel_rfl)
  refine W.callE hput rfl ?_
  intro v2 H2 h2
  have h21:=h2.isOne
  obtain⟨a2,l2,c2,rfl,hl2⟩:=h2.form
  (refine SL.nilB ?_;refine SS.effK 8 ?_ rfl (by kernel_rfl))
  refine W.bsl (fun b3=>?_) (hr:=bs4 ..)
  (refine SL.nilB ?_;refine SS.effK 9 ?_ rfl (by kernel_rfl))
  refine W.callE (hS (.slice (some ⟨b3,0,none⟩) 4 4)) rfl ?_ (hpre:=fun w2 hs=>?_)
  rotate_left
  ·exact RdS.at (T:=50) (fz:=(0,0)) (Hc:=[]) hs rfl (Nat.le_refl _) rfl (four_at rfl (Rd.my (Hc:=[]) (T:=5) b1 _ hs rfl) (Rd.ownB [] h2 hs) (Rd.my (Hc:=[]) (T:=118) bx _ hs hx) (Rd.my (Hc:=[]) (T:=118) by_ _ hs hy))
  rintro _ _ ⟨rfl,rfl⟩
  (refine SL.nilB ?_;refine SS.effK 10 ?_ rfl (by kernel_rfl);(repeat' (refine W.g1 ?_;try intro b_));refine SS.done ?_ (by kernel_rfl))
  repeat' (refine W.go ?_;try intro b_)
  exact F.c0 _ ⟨rfl,rfl⟩
 ·refine W.callE hput rfl ?_
  intro v2 H2 h2
  have h21:=h2.isOne
  obtain⟨a2,l2,c2,rfl,hl2⟩:=h2.form
  refine SL.nilB ?_
  refine SS.effK 2 ?_ rfl (by kernel_rfl)
  refine W.bsl (fun b1=>?_) (hr:=b1' _)
  (refine SL.nilB ?_;refine SS.effK 8 ?_ rfl (by kernel_rfl))
  refine W.bsl (fun b3=>?_) (hr:=bs4 ..)
  (refine SL.nilB ?_;refine SS.effK 9 ?_ rfl (by kernel_rfl))
  refine W.callE (hS (.slice (some ⟨b3,0,none⟩) 4 4)) rfl ?_ (hpre:=fun w2 hs=>?_)
  rotate_left
  ·exact RdS.at (T:=50) (fz:=(0,0)) (Hc:=[]) hs rfl (Nat.le_refl _) rfl (four_at rfl (Rd.my (Hc:=[]) (T:=5) b1 _ hs rfl) (Rd.ownB [] h2 hs) (Rd.my (Hc:=[]) (T:=118) bx _ hs hx) (Rd.my (Hc:=[]) (T:=118) by_ _ hs hy))
  rintro _ _ ⟨rfl,rfl⟩
  (refine SL.nilB ?_;refine SS.effK 10 ?_ rfl (by kernel_rfl);(repeat' (refine W.g1 ?_;try intro b_));refine SS.done ?_ (by kernel_rfl))
  repeat' (refine W.go ?_;try intro b_)
  exact F.c0 _ ⟨rfl,rfl⟩
theorem rtop_p(n:Nat)(x:List UInt8)(hx:x.length=32) :
  Tri Tryz.prog 250 [.int .i64 (n:Int),dgV x] [] (fun _=>True) (fun v H=>v=dgV (Sha.sum (rootT n x))∧H=[]):=by
 refine Tri.mk Tryz.func250 rfl Tryz.ntmps250 rfl fun w hw=>?_
 have hx1:=cl32 hx
 have hr:(cbs (Sha.sum (rootT n x))).length=32:=cl32 (Sha.sum_len _)
 have hfl:[leN 4 (UInt64.ofNat n),x].flatten.length=36:=by simp [leN_len,hx]
 have hS:∀ pv,Tri Tryz.prog 279 [.int .u8 ((2:UInt8).toNat:Int),pv] [] (fun w=>RdS [] w pv [leN 4 (UInt64.ofNat n),x]) (fun v H'=>v=dgV (Sha.sum (rootT n x))∧H'=[]):=fun pv=>RSum4_p 2 pv [leN 4 (UInt64.ofNat n),x] (by rw [hfl];decide) (by simp only [List.length_cons,List.length_nil];omega)
 repeat' (refine W.go ?_;try intro b_)
 rename_i bx
 (refine SW.regionS [] ?_ (by kernel_rfl);refine SS.T 0 rfl ?_;refine SS.T 1 rfl ?_;refine SS.tw 3 rfl (p_sar rfl rfl) ?_;refine SS.effK 2 ?_ rfl (by kernel_rfl))
 refine W.callE (rput_n 4 (UInt64.ofNat n) (by omega)) rfl ?_
 intro v2 H2 h2
 have h21:=h2.isOne
 obtain⟨a2,l2,c2,rfl,hl2⟩:=h2.form
 (refine SL.nilB ?_;refine SS.effK 4 ?_ rfl (by kernel_rfl))
 refine W.bsl (fun b3=>?_) (hr:=bs2' ..)
 (refine SL.nilB ?_;refine SS.effK 5 ?_ rfl (by kernel_rfl))
 refine W.callE (hS (.slice (some ⟨b3,0,none⟩) 2 2)) rfl ?_ (hpre:=fun w2 hs=>?_)
 rotate_left
 ·exact RdS.at (T:=50) (fz:=(0,0)) (Hc:=[]) hs rfl (Nat.le_refl _) rfl (two_at rfl (Rd.ownB [] h2 hs) (Rd.my (Hc:=[]) (T:=118) bx _ hs hx))
 rintro _ _ ⟨rfl,rfl⟩
 (refine SL.nilB ?_;refine SS.effK 6 ?_ rfl (by kernel_rfl);(repeat' (refine W.g1 ?_;try intro b_));refine SS.done ?_ (by kernel_rfl))
 repeat' (refine W.go ?_;try intro b_)
 exact F.c0 _ ⟨rfl,rfl⟩
theorem rleaf_p(k:Nat)(v:Value)(x:List UInt8)(hx:x.length≤1099511620000) :
  Tri Tryz.prog 253 [.int .i64 (k:Int),v] [] (fun w=>Rd [] w 1 v (cbs x)) (fun v H=>v=dgV (Sha.sum (leafT k x))∧H=[]):=by
 refine Tri.mk Tryz.func253 rfl Tryz.ntmps253 rfl fun w hw=>?_
 have hr:(cbs (Sha.sum (leafT k x))).length=32:=cl32 (Sha.sum_len _)
 have hfl:[leN 4 (UInt64.ofNat k),x].flatten.length=4+x.length:=by simp [leN_len]
 have hS:∀ pv,Tri Tryz.prog 279 [.int .u8 ((0:UInt8).toNat:Int),pv] [] (fun w=>RdS [] w pv [leN 4 (UInt64.ofNat k),x]) (fun v H'=>v=dgV (Sha.sum (leafT k x))∧H'=[]):=fun pv=>RSum4_p 0 pv [leN 4 (UInt64.ofNat k),x] (by rw [hfl];omega) (by simp only [List.length_cons,List.length_nil];omega)
 have hv1:=hw.isOne
 have hw2:=hw
 obtain⟨pa,pl,pc,rfl,-⟩:=hw.get
 repeat' (refine W.go ?_;try intro b_)
 refine W.callE (rput_n 4 (UInt64.ofNat k) (by omega)) rfl ?_
 intro v2 H2 h2
 have h21:=h2.isOne
 obtain⟨a2,l2,c2,rfl,hl2⟩:=h2.form
 have hb:=bs2' a2 pa l2 pl c2 pc
 repeat' (refine W.go ?_;try intro b_)
 refine W.callE (hS (.slice (some ⟨b_,0,none⟩) 2 2)) rfl ?_ (hpre:=fun w2 hs=>?_)
 rotate_left
 ·exact RdS.at (T:=50) (fz:=(0,0)) (Hc:=[]) hs rfl (Nat.le_refl _) rfl (two_at rfl (Rd.ownB [] h2 hs) (hw2.ro (Hc:=[]) hs))
 rintro _ _ ⟨rfl,rfl⟩
 repeat' (refine W.go ?_;try intro b_)
 exact F.c0 _ ⟨rfl,rfl⟩
end Go.Proofs.YtnigolgkkjidiaaGreat
