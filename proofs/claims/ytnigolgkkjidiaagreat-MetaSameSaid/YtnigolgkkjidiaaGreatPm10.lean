/- The document's sums of levels, its root. -/
import Derived.Test.YtnigolgkkjidiaaGreatPm9
import Derived.Test.YtnigolgkkjidiaaGreatPm5
import Derived.Test.YtnigolgkkjidiaaGreatPm4
import Derived.Test.YtnigolgkkjidiaaGreatPm8
set_option linter.unusedVariables false
set_option linter.unusedSimpArgs false
set_option linter.unusedSectionVars false
set_option maxHeartbeats 1000000
namespace Go.Proofs.YtnigolgkkjidiaaGreat
open Go
attribute [local irreducible] SW SL SQ SH SA SS Pu Fin CutF HandF
theorem Rd.row{K:List Nat}{w:World}{v:Value}{L:List (List UInt8)}(h:Rd K w 32 v (cbs L.flatten))(hL:D32 L):∃ (a:Option Addr) (cap:Nat),v=.slice a L.length cap∧L.length≤cap ∧
  ∀ (i:Nat) (x:List UInt8),L[i]?=some x→∃ (b o:Nat) (l:List Value) (T:TypeId) (fz:Nat×Nat),a=some ⟨b,o,none⟩∧w.heap[b]?=some (.cells l.toArray T fz)∧b∉K∧(l.drop (o+i*32)).take 32=cbs x:=by
 obtain⟨a,len,cap,rfl,h1,h2,h3⟩:=h
 have hl:L.length=len:=by
  rw [cbs_len,flatN_len hL] at h1
  omega
 subst hl
 refine⟨a,cap,rfl,h2,fun i x hi=>?_⟩
 have hlt:i<L.length:=(List.getElem?_eq_some_iff.1 hi).1
 obtain⟨b,o,l,T,fz,rfl,hb,hk,hy⟩:=h3.resolve_left (by omega)
 refine⟨b,o,l,T,fz,rfl,hb,hk,?_⟩
 rw [← cbs_get hL hi,← hy,List.drop_take,List.take_take,List.drop_drop,Nat.min_eq_left (by omega)]
theorem rat_p(l:List (List UInt8))(hl:D32 l)(v:Value)(hn:l.length≤1099511627776):∀ (d i:Nat),(i+1)*2^d≤1099511627776 →
  Tri Tryz.prog 251 [v,.int .i64 (d:Int),.int .i64 (i:Int)] [] (fun w=>Rd [] w 32 v (cbs l.flatten)) (fun r H=>r=dgV (atV l d i)∧H=[]):=by
 intro d
 induction d with
 | zero=>
  intro i hi
  refine Tri.mk Tryz.func251 rfl Tryz.ntmps251 rfl fun w hw=>?_
  have hw2:=hw
  obtain⟨a,cap,rfl,hc,hg⟩:=hw.row hl
  have hr:=cl32 (atV_len hl 0 i)
  by_cases h:i<l.length
  ·obtain⟨b,o,lv,T,fz,rfl,hb,hk,hv⟩:=hg i _ (List.getElem?_eq_getElem h)
   have ha:atV l 0 i=l[i]:=by unfold atV;rw [List.getD_eq_getElem?_getD,List.getElem?_eq_getElem h];rfl
   rw [← ha] at hv
   repeat' (refine W.go ?_;try intro b_)
   exact F.c0 (cbs (atV l 0 i)) ⟨rfl,rfl⟩
  ·have ha:atV l 0 i=z32:=by unfold atV;rw [List.getD_eq_getElem?_getD,List.getElem?_eq_none (by omega)];rfl
   repeat' (refine W.go ?_;try intro b_)
   rw [ha]
   exact F.c0 (cbs z32) ⟨rfl,rfl⟩
 | succ d ih=>
  intro i hi
  refine Tri.mk Tryz.func251 rfl Tryz.ntmps251 rfl fun w hw=>?_
  have hw2:=hw
  obtain⟨a,cap,rfl,hc,hg⟩:=hw.row hl
  have hr:=cl32 (atV_len hl (d+1) i)
  have hx1:=atV_len hl d (2*i)
  have hx2:=atV_len hl d (2*i+1)
  rw [Nat.pow_succ] at hi
  have hb1:(2*i+1)*2^d≤(i+1)*(2^d*2):=by rw [← Nat.mul_assoc,Nat.mul_right_comm];exact Nat.mul_le_mul_right _ (by omega)
  have hb2:(2*i+1+1)*2^d≤(i+1)*(2^d*2):=by rw [← Nat.mul_assoc,Nat.mul_right_comm];exact Nat.mul_le_mul_right _ (by omega)
  have hi3:2*i+1≤(2*i+1)*2^d:=Nat.le_mul_of_pos_right _ (Nat.pow_pos (by omega))
  have hd3:d<2^d:=Nat.lt_two_pow_self
  have hd4:2^d≤(2*i+1)*2^d:=Nat.le_mul_of_pos_left _ (by omega)
  have h1:=ih (2*i) (by omega)
  have h2:=ih (2*i+1) (by omega)
  have e1:(((d+1:Nat):Int)-1)=(d:Int):=by omega
  have e2:((2*i:Nat):Int)=2*(i:Int):=by omega
  have e3:((2*i+1:Nat):Int)=2*(i:Int)+1:=by omega
  generalize (i+1)*(2^d*2)=X at hi hb1 hb2
  generalize (2*i+1)*2^d=Y at hb1 hi3 hd4
  generalize (2*i+1+1)*2^d=Z at hb2
  generalize 2^d=D at hd3 hd4
  repeat' (refine W.go ?_;try intro b_)
  refine W.callE h1 ?_ ?_ (hpre:=fun w2 hs=>hw2.ro (Hc:=[]) hs)
  ·rw [e1,e2]
  rintro _ _ ⟨rfl,rfl⟩
  repeat' (refine W.go ?_;try intro b_)
  refine W.callE h2 ?_ ?_ (hpre:=fun w2 hs=>hw2.ro (Hc:=[]) hs)
  ·rw [e1,e3]
  rintro _ _ ⟨rfl,rfl⟩
  repeat' (refine W.go ?_;try intro b_)
  refine W.call (rnode_p (d+1) i _ _ hx1 hx2) ?_
  rintro _ _ ⟨rfl,rfl⟩
  rw [show nodeV (d+1) i (atV l d (2*i)) (atV l d (2*i+1))=atV l (d+1) i from rfl]
  repeat' (refine W.go ?_;try intro b_)
  exact F.c0 (cbs (atV l (d+1) i)) ⟨rfl,rfl⟩
theorem rroot_p(l:List (List UInt8))(hl:D32 l)(v:Value)(hn:l.length≤1024) :
  Tri Tryz.prog 204 [v] [] (fun w=>Rd [] w 32 v (cbs l.flatten)) (fun r H=>r=dgV (rootV l)∧H=[]):=by
 refine Tri.mk Tryz.func204 rfl Tryz.ntmps204 rfl fun w hw=>?_
 have hw2:=hw
 obtain⟨a,cap,rfl,hc,hg⟩:=hw.row hl
 have hr:=cl32 (Sha.sum_len (rootT l.length (topV l)))
 have hd:dep l.length≤10:=dep_max (by simpa using hn)
 have hd2:2^dep l.length≤2^10:=Nat.pow_le_pow_right (by omega) hd
 have ht:(topV l).length=32:=atV_len hl _ _
 repeat' (refine W.go ?_;try intro b_)
 refine W.call (rdepth_p l.length (by omega)) ?_
 rintro _ _ ⟨rfl,rfl⟩
 repeat' (refine W.go ?_;try intro b_)
 refine W.callE (rat_p l hl (.slice a l.length cap) (by omega) (dep l.length) 0 (by omega)) rfl ?_ (hpre:=fun w2 hs=>hw2.ro (Hc:=[]) hs)
 rintro _ _ ⟨rfl,rfl⟩
 rw [show atV l (dep l.length) 0=topV l from rfl]
 repeat' (refine W.go ?_;try intro b_)
 refine W.call (rtop_p l.length _ ht) ?_
 rintro _ _ ⟨rfl,rfl⟩
 repeat' (refine W.go ?_;try intro b_)
 exact F.c0 (cbs (rootV l)) ⟨rfl,rfl⟩
structure Rw where
 b:Nat
 cap:Nat
 junk:List Value
 r:List (List UInt8)
def Rw.val(w:Rw):Value:=.slice (some ⟨w.b,0,none⟩) w.r.length w.cap
def Rw.hp(w:Rw):Nat×Obj:=(w.b,cl (cbs w.r.flatten++w.junk) 119)
def Rw.Ok(w:Rw):Prop:=D32 w.r∧w.junk.length=(w.cap-w.r.length)*32∧w.r.length≤w.cap
def RowsP(vs:List Value)(L:List (List (List UInt8)))(H:Hp):Prop:=∃ ws:List Rw,vs=ws.map Rw.val∧L=ws.map Rw.r∧H=ws.map Rw.hp∧∀ w∈ws,w.Ok
theorem RowsP.nil:RowsP [] [] []:=⟨[],rfl,rfl,rfl,by simp⟩
theorem RowsP.snoc{vs:List Value}{L:List (List (List UInt8))}{H:Hp}(h:RowsP vs L H)(w:Rw)(hw:w.Ok):RowsP (vs++[w.val]) (L++[w.r]) (H++[w.hp]):=by
 obtain⟨ws,rfl,rfl,rfl,h4⟩:=h
 refine⟨ws++[w],by simp,by simp,by simp,fun x hx=>?_⟩
 rcases List.mem_append.1 hx with h|h
 ·exact h4 x h
 ·rw [List.mem_singleton] at h;subst h;exact hw
theorem RowsP.new{vs:List Value}{L:List (List (List UInt8))}{H:Hp}(h:RowsP vs L H){b len:Nat}{r:List (List UInt8)}(hr:D32 r)(hl:r.length=len):RowsP (vs++[.slice (some ⟨b,0,none⟩) len len]) (L++[r]) (H++[(b,cl (cbs r.flatten) 119)]):=by
 subst hl
 have:=h.snoc ⟨b,r.length,[],r⟩ ⟨hr,by simp,Nat.le_refl _⟩
 simpa [Rw.val,Rw.hp] using this
theorem RowsP.len{vs:List Value}{L:List (List (List UInt8))}{H:Hp}(h:RowsP vs L H):vs.length=L.length:=by
 obtain⟨ws,rfl,rfl,rfl,h4⟩:=h
 simp
def TreeP(t b n:Nat)(L:List (List (List UInt8)))(H:Hp):Prop:=
 ∃ lv vs Hl Hw,H=(t,cl [.pointer (some ⟨b,0,none⟩),.int .i64 (n:Int),lv] 278)::(Hl++Hw)∧Sl 275 1 lv vs Hl∧RowsP vs L Hw
def Bk.adds(s:Bk)(ts:List (List UInt8)):Bk:=ts.foldl Bk.add s
theorem Bk.adds_one(s:Bk)(ts:List (List UInt8))(t:List UInt8):(s.adds ts).add t=s.adds (ts++[t]):=by simp [Bk.adds]
def levT(l:List (List UInt8))(D d:Nat)(i:Nat):List (List UInt8):=(List.range i).map fun i=>nodeT (d+1) i (atV l d (2*i)) (atV l d (2*i+1))
def txs(l:List (List UInt8))(D k i:Nat):List (List UInt8):=((List.range k).flatMap fun d=>levT l D d (2^(D-(d+1))))++levT l D k i
theorem txs_step(l:List (List UInt8))(D k i:Nat):txs l D k i++[nodeT (k+1) i (atV l k (2*i)) (atV l k (2*i+1))]=txs l D k (i+1):=by
 simp [txs,levT,List.range_succ]
theorem txs_next(l:List (List UInt8))(D k:Nat):txs l D k (2^(D-(k+1)))=txs l D (k+1) 0:=by
 simp [txs,levT,List.range_succ]
theorem txs_all(l:List (List UInt8))(D:Nat):txs l D D 0=textsV l D:=by
 simp [txs,levT,textsV]
def rowsV(l:List (List UInt8))(D k:Nat):List (List (List UInt8)):=(List.range k).map (rowV l D)
theorem rowsV_next(l:List (List UInt8))(D k:Nat):rowsV l D k++[rowV l D k]=rowsV l D (k+1):=by simp [rowsV,List.range_succ]
theorem zs32(n:Nat):zs (List.replicate 32 (.int .u8 0)) n=cbs (List.replicate n z32).flatten:=by
 unfold zs cbs
 rw [List.map_flatten,List.map_replicate,List.map_replicate]
 rfl
theorem z_32(n:Nat):D32 (List.replicate n z32):=by
 intro x hx
 rw [List.eq_of_mem_replicate hx];rfl
theorem row0(l:List (List UInt8)){D:Nat}(h:l.length≤2^D):rowV l D 0=l++List.replicate (2^D-l.length) z32:=by
 apply List.ext_getElem?
 intro i
 rcases Nat.lt_or_ge i (2^D) with h1|h1
 ·rw [rowV_get l (by simpa using h1)]
  unfold atV
  rw [List.getD_eq_getElem?_getD]
  rcases Nat.lt_or_ge i l.length with h2|h2
  ·rw [List.getElem?_append_left h2,List.getElem?_eq_getElem h2];rfl
  ·rw [List.getElem?_append_right h2,List.getElem?_eq_none h2,List.getElem?_replicate,if_pos (by omega)];rfl
 ·rw [List.getElem?_eq_none (by rw [rowV_len];simpa using h1),List.getElem?_eq_none (by simp;omega)]
theorem row0_cells(l:List (List UInt8))(hl:D32 l){D X:Nat}(hX:X=2^D)(h:l.length≤X):List.take 0 (cbs (List.replicate X z32).flatten)++cbs l.flatten++List.drop (0+(cbs l.flatten).length) (cbs (List.replicate X z32).flatten)=cbs (rowV l D 0).flatten:=by
 subst hX
 rw [row0 l h,List.take_zero,List.nil_append,Nat.zero_add,cbs_len,flatN_len hl,show List.replicate (2^D) z32=List.replicate l.length z32++List.replicate (2^D-l.length) z32 by rw [List.replicate_append_replicate];congr 1;omega,List.flatten_append,List.flatten_append,cbs_app,cbs_app]
 congr 1
 rw [List.drop_append_of_le_length (by rw [cbs_len,flatN_len (z_32 _)];simp),List.drop_of_length_le (by rw [cbs_len,flatN_len (z_32 _)];simp),List.nil_append]
def partV(l:List (List UInt8))(k Y i:Nat):List (List UInt8):=(List.range i).map (atV l (k+1))++List.replicate (Y-i) z32
theorem partV_32{l:List (List UInt8)}(hl:D32 l)(k Y i:Nat):D32 (partV l k Y i):=by
 intro x hx
 rcases List.mem_append.1 hx with h|h
 ·obtain⟨j,-,rfl⟩:=List.mem_map.1 h;exact atV_len hl _ _
 ·exact z_32 _ x h
theorem partV_len(l:List (List UInt8))(k:Nat){Y i:Nat}(h:i≤Y):(partV l k Y i).length=Y:=by simp [partV];omega
theorem partV_set(l:List (List UInt8))(k:Nat){Y i:Nat}(h:i<Y):(partV l k Y i).set i (atV l (k+1) i)=partV l k Y (i+1):=by
 unfold partV
 rw [List.set_append_right _ _ (by simp),List.length_map,List.length_range,Nat.sub_self,show Y-i=(Y-(i+1))+1 by omega,List.replicate_succ,List.set_cons_zero,List.range_succ]
 simp
theorem partV_0(l:List (List UInt8))(k Y:Nat):partV l k Y 0=List.replicate Y z32:=by simp [partV]
theorem partV_all(l:List (List UInt8))(D k:Nat):partV l k (2^(D-(k+1))) (2^(D-(k+1)))=rowV l D (k+1):=by simp [partV,rowV]
structure NS where
 k:Nat
 lv:Value
 vs:List Value
 Hl:Hp
 Hw:Hp
 b:Nat
 Hb:Hp
theorem new_p{b tp:Nat}{s:Bk}{Hb:Hp}(hB:BookP b tp s Hb)(v:Value)(l:List (List UInt8))(hl:D32 l)(h1:1≤l.length)(h2:l.length≤1024) :
  Tri Tryz.prog 193 [.pointer (some ⟨b,0,none⟩),v] Hb (fun w=>Rd (Hb.map Prod.fst) w 32 v (cbs l.flatten)) (fun r H'=>∃ t Ht Hb',r=.tuple #[.pointer (some ⟨t,0,none⟩),.int .i64 0]∧H'=Ht++Hb'∧TreeP t b l.length (rowsV l (dep l.length) (dep l.length+1)) Ht∧BookP b tp (s.adds (textsV l (dep l.length))) Hb'):=by
 refine Tri.mk Tryz.func193 rfl Tryz.ntmps193 rfl fun w hw=>?_
 have hw2:=hw
 obtain⟨a,cap,rfl,hc,hg⟩:=hw.row hl
 have hd:dep l.length≤10:=dep_max (by simpa using h2)
 have hle:=dep_le l.length
 have hdp:=depth_p l.length (by omega)
 generalize dep l.length=D at hd hle hdp ⊢
 obtain⟨X,hX⟩:∃ X,X=2^D:=⟨_,rfl⟩
 have hX2:X≤1024:=by rw [hX];exact Nat.pow_le_pow_right (n:=2) (by omega) hd
 rw [← hX] at hle
 have hbf:bfill (fun i=>[(0,1),(1,1),(2,1)][i]?) ([.pointer none]++[.int .i64 0]++[.slice none 0 0]) [(0,.pointer (some ⟨b,0,none⟩)),(1,.int .i64 (l.length:Int))]=some [.pointer (some ⟨b,0,none⟩),.int .i64 (l.length:Int),.slice none 0 0]:=rfl
 repeat' (first|(refine W.go ?_;try intro b_)|fail)
 refine W.call hdp ?_
 rintro _ _ ⟨rfl,rfl⟩
 haveI:=shl1 (d:=D) (by omega) hX
 have hrow:=row0_cells l hl hX hle
 repeat' (first|(refine W.gb ?_;try intro b_)|fail)
 rename_i t
 rw [zs32]
 refine W.cy (mm:=l.length) (ys:=cbs l.flatten) (fun w2 hs=>hw2.srcAt hs) ?_ (hfit:=by rw [cbs_len,cbs_len,flatN_len hl,flatN_len (z_32 _),List.length_replicate];omega)
 rw [hrow]
 repeat' (first|(refine W.gb ?_;try intro b_)|fail)
 rename_i nb
 rw [bs1]
 refine W.ap (ys:=[.slice (some ⟨nb,0,none⟩) X X]) (mm:=1) (Sl.nil _ _) (fun w2 hs=>(Sl.own 275 1 b_ (xs:=[.slice (some ⟨nb,0,none⟩) X X]) rfl).srcAt hs inferInstance) (fun lv0 Hl0 hv0=>?_) (hys:=rfl) (hbytes:=by simp)
 have h01:=hv0.isOne
 rw [List.nil_append] at hv0
 repeat' (first|(refine W.gb ?_;try intro b_)|fail)
 rw [show ([.pointer (some ⟨b,0,none⟩),.int .i64 (l.length:Int),.slice none 0 0]:List Value).set 2 lv0=[.pointer (some ⟨b,0,none⟩),.int .i64 (l.length:Int),lv0] from rfl]
 refine SW.cutH [0,6] ((t,cl [.pointer (some ⟨b,0,none⟩),.int .i64 (l.length:Int),lv0] 278)::(Hl0++((nb,cl (cbs (rowV l D 0).flatten) 119)::Hb))) (fun x:NS=>[]) (fun x:NS=>(t,cl [.pointer (some ⟨b,0,none⟩),.int .i64 (l.length:Int),x.lv] 278)::(x.Hl++(x.Hw++x.Hb)))
  (fun x=>Sl 275 1 x.lv x.vs x.Hl∧RowsP x.vs (rowsV l D (D+1)) x.Hw∧BookP b tp (s.adds (textsV l D)) x.Hb) ?_ ?_
 rotate_left
 ·rintro⟨k,lv,vs,Hl,Hw,nb2,Hb2⟩ ⟨hlv,hrw,hB2⟩
  dsimp only at hlv hrw hB2 ⊢
  repeat' (first|(refine W.go ?_;try intro b_)|fail)
  refine Fin.to (((t,cl [.pointer (some ⟨b,0,none⟩),.int .i64 (l.length:Int),lv] 278)::(Hl++Hw))++Hb2) ?_
  refine F.f2 ?_
  exact⟨t,_,Hb2,rfl,rfl,⟨lv,vs,Hl,Hw,rfl,hlv,hrw⟩,hB2⟩
 ·subst hX
  repeat' (first|(refine W.go ?_;try intro b_)|fail)
  refine SW.loopF [0,6] (fun x:NS=>[(7,.slice (some ⟨x.b,0,none⟩) (2^(D-x.k)) (2^(D-x.k)))]) (fun x=>(t,cl [.pointer (some ⟨b,0,none⟩),.int .i64 (l.length:Int),x.lv] 278)::(x.Hl++(x.Hw++(x.b,cl (cbs (rowV l D x.k).flatten) 119)::x.Hb))) (fun x=>D-x.k)
   (fun x=>x.k≤D∧Sl 275 1 x.lv (x.vs++[.slice (some ⟨x.b,0,none⟩) (2^(D-x.k)) (2^(D-x.k))]) x.Hl∧RowsP x.vs (rowsV l D x.k) x.Hw∧BookP b tp (s.adds (txs l D x.k 0)) x.Hb) ⟨0,lv0,[],Hl0,[],nb,Hb⟩ ⟨Nat.zero_le _,hv0,RowsP.nil,hB⟩ ?_
  rintro⟨k,lv,vs,Hl,Hw,nb2,Hb2⟩ ⟨hk,hlv,hrw,hB2⟩
  dsimp only at hk hlv hrw hB2 ⊢
  have hv1:=hlv.isOne
  have hrl:=hrw.len
  have hrl2:vs.length=k:=by rw [hrl];simp [rowsV]
  by_cases hkD:k<D
  ·have hXY:2^(D-k)=2^(D-(k+1))*2:=by rw [show D-k=D-(k+1)+1 by omega,Nat.pow_succ]
   have hXm:2^(D-k)≤1024:=Nat.pow_le_pow_right (n:=2) (by omega) (show D-k≤10 by omega)
   have hYp:0<2^(D-(k+1)):=Nat.pow_pos (by omega)
   have hget:∀ i,i<2^(D-k)→(rowV l D k)[i]?=some (atV l k i):=fun i h=>rowV_get l h
   have hnx:=rowsV_next l D k
   have hpa:=partV_all l D k
   have hst:=fun i=>txs_step l D k i
   have hnt:=txs_next l D k
   have hr32:=rowV_32 hl D k
   have hrwn:=hrw.new (b:=nb2) hr32 (rowV_len l D k)
   rw [hnx] at hrwn
   generalize 2^(D-k)=X at *
   generalize hYe:2^(D-(k+1))=Y at hXY hYp hpa hnt
   have hlv2:=hlv
   obtain⟨la,ll,lc,rfl,hll⟩:=hlv2.form
   obtain rfl:ll=k+1:=by simp at hll;omega
   haveI i1:NatI ((X:Int)/2) Y:=⟨by omega⟩
   repeat' (first|(refine W.gb ?_;try intro b_)|fail)
   refine SW.block ?_
   repeat' (first|(refine W.gb ?_;try intro b_)|fail)
   rename_i b0
   rw [zs32,← partV_0 l k Y]
   refine SW.cutH [0,6,7,8] ((b_,cl (cbs (partV l k Y 0).flatten) 119)::Hb2) (fun x:Hp=>[]) (fun x:Hp=>(b_,cl (cbs (rowV l D (k+1)).flatten) 119)::x) (fun x=>BookP b tp (s.adds (txs l D (k+1) 0)) x) ?_ ?_
   ·repeat' (first|(refine W.go ?_;try intro b_)|fail)
    refine SW.loopF [0,6,7,8,53] (fun x:Nat×Hp=>[(54,.int .i64 (x.1:Int))]) (fun x=>(b_,cl (cbs (partV l k Y x.1).flatten) 119)::x.2) (fun x=>Y-x.1) (fun x=>x.1≤Y∧BookP b tp (s.adds (txs l D k x.1)) x.2) (0,Hb2) ⟨Nat.zero_le _,hB2⟩ ?_
    rintro⟨i,Hb3⟩ ⟨hi,hB3⟩
    dsimp only at hi hB3 ⊢
    by_cases hiY:i<Y
    ·have hx1:=atV_len hl k (2*i)
     have hx2:=atV_len hl k (2*i+1)
     have hg1:=cbs_get hr32 (hget (2*i) (by omega))
     have hg2:=cbs_get hr32 (hget (2*i+1) (by omega))
     have hc1:=cl32 hx1
     have hc2:=cl32 hx2
     have hbp:bfill (fun i=>[(0,1),(1,1)][i]?) ([.int .i64 0]++[.int .i64 0]) [(0,.int .i64 ((k+1:Nat):Int)),(1,.int .i64 (i:Int))]=some [.int .i64 ((k+1:Nat):Int),.int .i64 (i:Int)]:=rfl
     have hp32:=partV_32 hl k Y i
     have hpl:=partV_len l k hi
     have hfit:i*32+32≤(cbs (partV l k Y i).flatten).length:=by rw [cbs_len,flatN_len hp32,hpl];omega
     have hset:=cbs_set (x:=atV l (k+1) i) hp32 (i:=i) (by omega)
     rw [partV_set l k hiY] at hset
     have hr:=cl32 (atV_len hl (k+1) i)
     repeat' (first|(refine W.go ?_;try intro b_)|fail)
     (refine SW.regionS [21,23] ?_ (by kernel_rfl);refine SS.T 0 rfl ?_;refine SS.T 1 rfl ?_;refine SS.T 2 rfl ?_;refine SS.T 3 rfl ?_;refine SS.T 4 rfl ?_;refine SS.T 5 rfl ?_;(first|refine SS.ls 6 [7,9,21,23] rfl ?_|refine SS.sR 6 rfl ?_);refine SS.T 7 rfl ?_;refine SS.T 8 rfl ?_;refine SS.T 9 rfl ?_;refine SS.T 10 rfl ?_;refine SS.T 11 rfl ?_;refine SS.T 12 rfl ?_;refine SS.T 13 rfl ?_;(first|refine SS.lw 14 [21,23] rfl ?_|refine SS.la 14 [21,23] rfl ?_|refine SS.aR 14 rfl ?_);refine SS.T 15 rfl ?_;refine SS.T 16 rfl ?_;refine SS.T 17 rfl ?_;refine SS.T 18 rfl ?_;refine SS.T 19 rfl ?_;(first|refine SS.lw 20 [21,23] rfl ?_|refine SS.la 20 [21,23] rfl ?_|refine SS.aR 20 rfl ?_);refine SS.effB 21 ?_ rfl (by kernel_rfl))
     refine W.call (node_p hB3 (k+1) i _ _ hx1 hx2) ?_
     rintro _ Hb4 ⟨rfl,hB4⟩
     rw [Bk.adds_one,hst] at hB4
     rw [show nodeV (k+1) i (atV l k (2*i)) (atV l k (2*i+1))=atV l (k+1) i from rfl]
     (refine SL.nilB ?_;refine SS.T 22 rfl ?_;refine SS.effB 23 ?_ rfl (by kernel_rfl);(repeat' (first|(refine W.g1 ?_;try intro b_)|fail));refine SS.done ?_ (by kernel_rfl))
     rw [hset]
     repeat' (first|(refine W.go ?_;try intro b_)|fail)
     refine HandF.mk (i+1,Hb4) ?_
     exact⟨by omega,hB4⟩
    ·have hi2:i=Y:=by omega
     subst hi2
     rw [hpa]
     rw [hnt] at hB3
     repeat' (first|(refine W.go ?_;try intro b_)|fail)
     refine CutF.mk Hb3 ?_
     exact hB3
   intro Hb3 hB3
   repeat' (first|(refine W.go ?_;try intro b_)|fail)
   rename_i b1
   rw [bs1]
   refine W.ap (ys:=[.slice (some ⟨b1,0,none⟩) Y Y]) (mm:=1) hlv (fun w2 hs=>(Sl.own 275 1 b_ (xs:=[.slice (some ⟨b1,0,none⟩) Y Y]) rfl).srcAt hs inferInstance) (fun lv2 Hl2 hv2=>?_) (hys:=rfl) (hbytes:=by simp;omega)
   have h21:=hv2.isOne
   repeat' (first|(refine W.go ?_;try intro b_)|fail)
   rw [show ([.pointer (some ⟨b,0,none⟩),.int .i64 (l.length:Int),.slice la (k+1) lc]:List Value).set 2 lv2=[.pointer (some ⟨b,0,none⟩),.int .i64 (l.length:Int),lv2] from rfl]
   subst hYe
   refine HandF.mk ⟨k+1,lv2,vs++[.slice (some ⟨nb2,0,none⟩) X X],Hl2,Hw++[(nb2,cl (cbs (rowV l D k).flatten) 119)],b1,Hb3⟩ ?_
   exact⟨hkD,hv2,hrwn,hB3⟩
  ·have hk2:k=D:=by omega
   subst hk2
   have e1:2^(k-k)=1:=by rw [Nat.sub_self]
   have hrwn:=hrw.new (b:=nb2) (rowV_32 hl k k) (rowV_len l k k)
   rw [rowsV_next] at hrwn
   rw [txs_all] at hB2
   rw [e1] at hlv hrwn ⊢
   obtain⟨la,ll,lc,rfl,hll⟩:=hlv.form
   repeat' (first|(refine W.go ?_;try intro b_)|fail)
   refine CutF.mk ⟨k,.slice la ll lc,vs++[.slice (some ⟨nb2,0,none⟩) 1 1],Hl,Hw++[(nb2,cl (cbs (rowV l k k).flatten) 119)],nb2,Hb2⟩ ?_
   exact⟨hlv,hrwn,hB2⟩
abbrev TreeV(t b:Nat)(l:List (List UInt8))(H:Hp):Prop:=TreeP t b l.length (rowsV l (dep l.length) (dep l.length+1)) H
theorem rowsV_get(l:List (List UInt8)){D k d:Nat}(h:d<k):(rowsV l D k)[d]?=some (rowV l D d):=by simp [rowsV,h]
theorem RowsP.get{vs:List Value}{L:List (List (List UInt8))}{H:Hp}(h:RowsP vs L H){d:Nat}{r:List (List UInt8)}(hd:L[d]?=some r) :
  ∃ (rb cap:Nat) (junk:List Value),vs[d]?=some (.slice (some ⟨rb,0,none⟩) r.length cap)∧At H rb (cl (cbs r.flatten++junk) 119)∧D32 r∧r.length≤cap:=by
 obtain⟨ws,rfl,rfl,rfl,h4⟩:=h
 rw [List.getElem?_map] at hd
 obtain⟨w,hw,rfl⟩:=Option.map_eq_some_iff.1 hd
 have hm:=List.mem_of_getElem? hw
 exact⟨w.b,w.cap,w.junk,by rw [List.getElem?_map,hw];rfl,⟨List.mem_map.2 ⟨w,hm,rfl⟩⟩,(h4 w hm).1,(h4 w hm).2.2⟩
theorem TreeP.open{t b n:Nat}{L:List (List (List UInt8))}{H:Hp}(h:TreeP t b n L H)(hL:0<L.length) :
  ∃ (lb lc:Nat) (vs lj:List Value) (Hw:Hp),H=(t,cl [.pointer (some ⟨b,0,none⟩),.int .i64 (n:Int),.slice (some ⟨lb,0,none⟩) L.length lc] 278)::([(lb,cl (vs++lj) 275)]++Hw)∧RowsP vs L Hw∧vs.length=L.length∧L.length≤lc:=by
 obtain⟨lv,vs,Hl,Hw,rfl,hlv,hrw⟩:=h
 have hv:=hrw.len
 rcases hlv with ⟨rfl,rfl,rfl⟩|⟨lb,len,cap,junk,rfl,hx,hj,hlc,rfl⟩
 ·simp at hv;omega
 ·obtain rfl:len=L.length:=by omega
  exact⟨lb,cap,vs,junk,Hw,rfl,hrw,hv,hlc⟩
theorem app_get{vs lj:List Value}{d:Nat}{v:Value}(h:vs[d]?=some v):(vs++lj)[d]?=some v:=by
 rw [List.getElem?_append_left (List.getElem?_eq_some_iff.1 h).1];exact h
theorem cbs_getJ{L:List (List UInt8)}{junk:List Value}{x:List UInt8}{n:Nat}(h:∀ x∈L,x.length=n){i:Nat}(hi:L[i]?=some x):((cbs L.flatten++junk).drop (i*n)).take n=cbs x:=by
 have hlt:=(List.getElem?_eq_some_iff.1 hi).1
 have hl:(cbs L.flatten).length=L.length*n:=by rw [cbs_len,flatN_len h]
 have h2:(i+1)*n≤L.length*n:=Nat.mul_le_mul_right n hlt
 rw [Nat.succ_mul] at h2
 rw [List.drop_append_of_le_length (by omega),List.take_append_of_le_length (by rw [List.length_drop];omega)]
 exact cbs_get h hi
theorem Len_p{t b n:Nat}{L:List (List (List UInt8))}{H:Hp}(hT:TreeP t b n L H):Tri Tryz.prog 127 [.pointer (some ⟨t,0,none⟩)] H (fun _=>True) (fun v H'=>v=.int .i64 (n:Int)∧H'=H):=by
 obtain⟨lv,vs,Hl,Hw,rfl,hlv,hrw⟩:=hT
 have h1:=hlv.isOne
 refine Tri.mk Tryz.func127 rfl Tryz.ntmps127 rfl fun w hw=>?_
 repeat' (first|(refine W.go ?_;try intro b_)|fail)
 refine Fin.to ((t,cl [.pointer (some ⟨b,0,none⟩),.int .i64 (n:Int),lv] 278)::(Hl++Hw)) ?_
 exact F.f1 ⟨rfl,rfl⟩
theorem RootG_p{t b tp n D:Nat}{s:Bk}{L:List (List (List UInt8))}{r:List (List UInt8)}{x:List UInt8}{Ht Hb:Hp}(hT:TreeP t b n L Ht)(hB:BookP b tp s Hb)(hL:L.length=D+1)(hr:L[D]?=some r)(hx:r[0]?=some x)(hm:D≤1099511627776) :
  Tri Tryz.prog 135 [.pointer (some ⟨t,0,none⟩)] (Ht++Hb) (fun _=>True) (fun v H'=>∃ Hb',v=dgV (Sha.sum (rootT n x))∧H'=Ht++Hb'∧BookP b tp (s.add (rootT n x)) Hb'):=by
 obtain⟨lb,lc,vs,lj,Hw,rfl,hrw,hvl,hlc⟩:=hT.open (by omega)
 obtain⟨rb,rc,rj,hv,hat,hr32,hrc⟩:=hrw.get hr
 have hrl:=(List.getElem?_eq_some_iff.1 hx).1
 have hv2:=app_get (lj:=lj) hv
 have hg:=cbs_getJ (junk:=rj) hr32 hx
 rw [Nat.zero_mul] at hg
 have hx32:=hr32 x (List.mem_of_getElem? hx)
 have hc:=cl32 hx32
 rw [hL] at hlc hvl ⊢
 refine Tri.mk Tryz.func135 rfl Tryz.ntmps135 rfl fun w hw=>?_
 haveI i1:NatI (((D+1:Nat):Int)-1) D:=⟨by omega⟩
 have hrr:=cl32 (Sha.sum_len (rootT n x))
 repeat' (first|(refine W.go ?_;try intro b_)|fail)
 (refine SW.regionS [22,23] ?_ (by kernel_rfl);refine SS.T 0 rfl ?_;refine SS.T 1 rfl ?_;refine SS.T 2 rfl ?_;(first|refine SS.ls 3 [22,23] rfl ?_|refine SS.sR 3 rfl ?_);refine SS.T 4 rfl ?_;refine SS.T 5 rfl ?_;refine SS.T 6 rfl ?_;(first|refine SS.ls 7 [22,23] rfl ?_|refine SS.sR 7 rfl ?_);refine SS.T 8 rfl ?_;refine SS.T 9 rfl ?_;refine SS.T 10 rfl ?_;(first|refine SS.ls 11 [18,19,20,21,22,23] rfl ?_|refine SS.sR 11 rfl ?_);refine SS.T 12 rfl ?_;refine SS.T 13 rfl ?_;refine SS.T 14 rfl ?_;(first|refine SS.ls 15 [16,17,18,19,20,21,22,23] rfl ?_|refine SS.sR 15 rfl ?_);refine SS.T 16 rfl ?_;refine SS.T 17 rfl ?_;refine SS.T 18 rfl ?_;(first|refine SS.ls 19 [20,21,22,23] rfl ?_|refine SS.sR 19 rfl ?_);refine SS.T 20 rfl ?_;(first|refine SS.lw 21 [22,23] rfl ?_|refine SS.la 21 [22,23] rfl ?_|refine SS.aR 21 rfl ?_);refine SS.effB 22 ?_ rfl (by kernel_rfl))
 refine W.call (root_p hB n x hx32) ?_
 rintro _ Hb' ⟨rfl,hB'⟩
 (refine SL.nilB ?_;refine SS.effB 23 ?_ rfl (by kernel_rfl);(repeat' (first|(refine W.g1 ?_;try intro b_)|fail));refine SS.done ?_ (by kernel_rfl))
 repeat' (first|(refine W.go ?_;try intro b_)|fail)
 refine F.cH (((t,cl [.pointer (some ⟨b,0,none⟩),.int .i64 (n:Int),.slice (some ⟨lb,0,none⟩) (D+1) lc] 278)::([(lb,cl (vs++lj) 275)]++Hw))++Hb') (cbs (Sha.sum (rootT n x))) ?_
 exact⟨Hb',rfl,rfl,hB'⟩
theorem Root_p{t b tp:Nat}{s:Bk}{l:List (List UInt8)}{Ht Hb:Hp}(hT:TreeV t b l Ht)(hB:BookP b tp s Hb)(h2:l.length≤1024) :
  Tri Tryz.prog 135 [.pointer (some ⟨t,0,none⟩)] (Ht++Hb) (fun _=>True) (fun v H'=>∃ Hb',v=dgV (rootV l)∧H'=Ht++Hb'∧BookP b tp (s.add (rootT l.length (topV l))) Hb'):=
 RootG_p (r:=rowV l (dep l.length) (dep l.length)) hT hB (by simp [rowsV]) (rowsV_get l (by omega)) (rowV_get l (Nat.pow_pos (by omega))) (by have:=dep_max (n:=l.length) (k:=10) (by simpa using h2);omega)
theorem has_p{t b n:Nat}{L:List (List (List UInt8))}{H:Hp}(hT:TreeP t b n L H)(k:Int):Tri Tryz.prog 143 [.pointer (some ⟨t,0,none⟩),.int .i64 k] H (fun _=>True) (fun v H'=>v=.bool (decide (0≤k∧k<n))∧H'=H):=by
 obtain⟨lv,vs,Hl,Hw,rfl,hlv,hrw⟩:=hT
 have h1:=hlv.isOne
 refine Tri.mk Tryz.func143 rfl Tryz.ntmps143 rfl fun w hw=>?_
 by_cases h2:0≤k
 ·by_cases h3:k<n
  ·rw [decide_eq_true ⟨h2,h3⟩]
   repeat' (first|(refine W.go ?_;try intro b_)|fail)
   refine Fin.to ((t,cl [.pointer (some ⟨b,0,none⟩),.int .i64 (n:Int),lv] 278)::(Hl++Hw)) ?_
   exact F.f1 ⟨rfl,rfl⟩
  ·rw [decide_eq_false (fun h=>h3 h.2)]
   repeat' (first|(refine W.go ?_;try intro b_)|fail)
   refine Fin.to ((t,cl [.pointer (some ⟨b,0,none⟩),.int .i64 (n:Int),lv] 278)::(Hl++Hw)) ?_
   exact F.f1 ⟨rfl,rfl⟩
 ·rw [decide_eq_false (fun h=>h2 h.1)]
  repeat' (first|(refine W.go ?_;try intro b_)|fail)
  refine Fin.to ((t,cl [.pointer (some ⟨b,0,none⟩),.int .i64 (n:Int),lv] 278)::(Hl++Hw)) ?_
  exact F.f1 ⟨rfl,rfl⟩
def leafV(l:List (List UInt8))(k:Int):List UInt8:=if 0≤k∧k<l.length then l.getD k.toNat z32 else z32
theorem AtT_p{t b:Nat}{l:List (List UInt8)}{H:Hp}(hT:TreeV t b l H)(k:Int)(h2:l.length≤1024):Tri Tryz.prog 73 [.pointer (some ⟨t,0,none⟩),.int .i64 k] H (fun _=>True) (fun v H'=>v=dgV (leafV l k)∧H'=H):=by
 have hT2:=hT
 have hle:=dep_le l.length
 obtain⟨lb,lc,vs,lj,Hw,rfl,hrw,hvl,hlc⟩:=hT.open (by simp [rowsV])
 have hH:=has_p hT2 k
 obtain⟨rb,rc,rj,hv,hat,hr32,hrc⟩:=hrw.get (rowsV_get l (D:=dep l.length) (k:=dep l.length+1) (d:=0) (by omega))
 rw [rowV_len,Nat.sub_zero] at hv hrc
 have hv2:=app_get (lj:=lj) hv
 have hLl:(rowsV l (dep l.length) (dep l.length+1)).length=dep l.length+1:=by simp [rowsV]
 rw [hLl] at hlc hH ⊢
 refine Tri.mk Tryz.func73 rfl Tryz.ntmps73 rfl fun w hw=>?_
 repeat' (first|(refine W.go ?_;try intro b_)|fail)
 refine W.call hH ?_
 rintro _ _ ⟨rfl,rfl⟩
 by_cases hk:0≤k∧k<(l.length:Int)
 ·obtain⟨j,rfl⟩:∃ j:Nat,k=(j:Int):=⟨k.toNat,by omega⟩
  have hj:j<l.length:=by omega
  have hx:leafV l (j:Int)=atV l 0 j:=by unfold leafV;rw [if_pos hk,Int.toNat_natCast];rfl
  have hg:=cbs_getJ (junk:=rj) hr32 (rowV_get l (D:=dep l.length) (d:=0) (i:=j) (by rw [Nat.sub_zero];omega))
  have hc:=cl32 (hr32 _ (List.mem_of_getElem? (rowV_get l (D:=dep l.length) (d:=0) (i:=j) (by rw [Nat.sub_zero];omega))))
  rw [decide_eq_true hk,hx]
  generalize 2^dep l.length=X at *
  repeat' (first|(refine W.go ?_;try intro b_)|fail)
  refine F.cH ((t,cl [.pointer (some ⟨b,0,none⟩),.int .i64 (l.length:Int),.slice (some ⟨lb,0,none⟩) (dep l.length+1) lc] 278)::([(lb,cl (vs++lj) 275)]++Hw)) (cbs (atV l 0 j)) ?_
  exact⟨rfl,rfl⟩
 ·have hx:leafV l k=z32:=by unfold leafV;rw [if_neg hk]
  rw [decide_eq_false hk,hx]
  repeat' (first|(refine W.go ?_;try intro b_)|fail)
  refine F.cH ((t,cl [.pointer (some ⟨b,0,none⟩),.int .i64 (l.length:Int),.slice (some ⟨lb,0,none⟩) (dep l.length+1) lc] 278)::([(lb,cl (vs++lj) 275)]++Hw)) (cbs z32) ?_
  exact⟨rfl,rfl⟩
theorem b1d{x:List UInt8}(h:x.length=32):bfill (fun i=>some (i*32,32)) (zs (List.replicate 32 (.int .u8 0)) 1) [(0,dgV x)]=some (cbs x):=by
 have h1:(vl (dgV x)).length=32:=cl32 h
 have h2:(zs (List.replicate 32 (.int .u8 0)) 1).length=32:=by rw [zs_length,List.length_replicate]
 unfold bfill
 dsimp only
 rw [if_pos ⟨h1,by omega⟩]
 unfold bfill
 rw [Nat.zero_mul,List.take_zero,List.nil_append,Nat.zero_add,List.drop_of_length_le (by omega),List.append_nil]
 rfl
theorem F.cHt{P:Program}{C:Ctx}{ρ:Fr}{H:Hp}{fn:Func}{R:Value→Hp→Prop}{e:Exit}{t ty n b u:Nat}{l:List Value}{v2:Value}{T:TypeId}(Hc:Hp){s:Hp}(l2:List Value) [hp:Part H Hc s](hR:R (.tuple #[.agg l2.toArray,v2]) Hc)(he:e=.ret∨e=.normal:=by first|exact .inl rfl|exact .inr rfl)(hrs:fn.results=#[.cell t ty,.tmp u]:=by exact rfl)(ht:lk ρ t=some (.pointer (some ⟨b,0,none⟩)):=by exact rfl)(hu:lk ρ u=some v2:=by exact rfl)(hat:At H b (cl l T):=by infer_instance)(hl:l=l2:=by first|assumption|exact rfl)(iR:RowTy P ty n:=by infer_instance)(hn:l2.length=n:=by first|assumption|exact rfl):Fin P C fn R e ρ H:=by
 subst hl
 exact Fin.c1t1 he hrs ht hu hn Hc hR
theorem leafV_len{l:List (List UInt8)}(hl:D32 l)(k:Int):(leafV l k).length=32:=by
 unfold leafV
 split
 ·exact atV_len hl 0 k.toNat
 ·rfl
open Pq
theorem Rd.rows{K:List Nat}{w:World}{v:Value}{n:Nat}{L:List (List Value)}(hn:0<n)(h:Rd K w n v L.flatten)(hL:∀ x∈L,x.length=n):∃ (a:Option Addr) (cap:Nat),v=.slice a L.length cap∧L.length≤cap ∧
  ∀ (i:Nat) (x:List Value),L[i]?=some x→∃ (b o:Nat) (l:List Value) (T:TypeId) (fz:Nat×Nat),a=some ⟨b,o,none⟩∧w.heap[b]?=some (.cells l.toArray T fz)∧b∉K∧(l.drop (o+i*n)).take n=x:=by
 obtain⟨a,len,cap,rfl,h1,h2,h3⟩:=h
 have hl:L.length=len:=by
  rw [flatN_len hL] at h1
  exact Nat.eq_of_mul_eq_mul_right hn h1
 subst hl
 refine⟨a,cap,rfl,h2,fun i x hi=>?_⟩
 have hlt:i<L.length:=(List.getElem?_eq_some_iff.1 hi).1
 obtain⟨b,o,l,T,fz,rfl,hb,hk,hy⟩:=h3.resolve_left (by omega)
 refine⟨b,o,l,T,fz,rfl,hb,hk,?_⟩
 have hm:(i+1)*n≤L.length*n:=Nat.mul_le_mul_right n hlt
 rw [Nat.succ_mul] at hm
 rw [← flatN_get hL hi,← hy,List.drop_take,List.take_take,List.drop_drop,Nat.min_eq_left (by omega)]
end Go.Proofs.YtnigolgkkjidiaaGreat
namespace Go.Proofs.YtnigolgkkjidiaaGreat
open Go
attribute [local irreducible] SW SL SQ SH SA SS Pu Fin CutF HandF
abbrev pgsC(ps:List Pg):List Value:=(ps.map pgC).flatten
theorem pidx_p{g:FuncId} [IsFn Tryz.prog g]{fs cs:List Value}{Hc:Hp}{β:Pg→Bool}(ps:List Pg)(hg:∀ p∈ps,Tri Tryz.prog g (fs++[.agg (pgC p).toArray]++cs) Hc (fun _=>True) (fun v H=>v=.bool (β p)∧H=Hc))(hn:ps.length≤1000000)(v:Value) :
  Tri Tryz.prog 158 [v,.func (.func g) fs.toArray cs.toArray] Hc (fun w=>Rd (Hc.map Prod.fst) w 5 v (pgsC ps)) (fun r H'=>∃ z,r=.int .i64 z∧H'=Hc∧decide (0≤z)=ps.any β):=by
 refine Tri.mk Tryz.func158 rfl Tryz.ntmps158 rfl fun w hw=>?_
 have hL:∀ y∈ps.map pgC,y.length=5:=fun y hy=>by
  obtain⟨x,hx,rfl⟩:=List.mem_map.1 hy
  exact pgC_len x
 obtain⟨a,cap,rfl,hcap,hgt⟩:=hw.rows (by decide) hL
 rw [List.length_map] at hcap ⊢
 repeat' (first|(refine W.gb ?_;try intro b_)|fail)
 refine SW.cutH [] Hc (fun _:Unit=>[]) (fun _=>Hc) (fun _=>ps.any β=false) ?_ ?_
 ·repeat' (first|(refine W.go ?_;try intro b_)|fail)
  refine SW.loopF [0,1,7] (fun i:Nat=>[(8,.int .i64 (i:Int))]) (fun _=>Hc) (fun i=>ps.length-i) (fun i=>i≤ps.length∧(ps.take i).any β=false) 0 ⟨Nat.zero_le _,by simp⟩ ?_
  rintro i ⟨hi,hbad⟩
  by_cases hin:i<ps.length
  ·obtain⟨x,hx⟩:∃ x,ps[i]?=some x:=⟨_,List.getElem?_eq_getElem hin⟩
   have hxm:=List.mem_of_getElem? hx
   obtain⟨pb,po,lv,T,fz,rfl,hb,hk,hv⟩:=hgt i (pgC x) (by rw [List.getElem?_map,hx];rfl)
   have hxl:=pgC_len x
   have hst:(ps.take (i+1)).any β=β x:=by rw [List.take_add_one,hx,List.any_append,hbad];simp
   have hc:=hg x hxm
   repeat' (first|(refine W.go ?_;try intro b_)|fail)
   refine SL.callv Hc rfl rfl rfl rfl rfl rfl hc (fun _ _=>trivial) ?_
   rintro _ Hx ⟨rfl,hx2⟩
   have hx2:=hx2.symm
   subst hx2
   cases ho:β x with
   | false=>
    rw [ho] at hst
    repeat' (first|(refine W.go ?_;try intro b_)|fail)
    refine HandF.mk (i+1) ?_
    exact⟨hin,hst⟩
   | true=>
    have hany:ps.any β=true:=List.any_eq_true.2 ⟨x,hxm,ho⟩
    repeat' (first|(refine W.go ?_;try intro b_)|fail)
    refine Fin.to Hc ?_
    exact F.f1 ⟨(i:Int),rfl,rfl,by rw [hany];exact decide_eq_true (by omega)⟩
  ·have hi2:i=ps.length:=by omega
   subst hi2
   rw [List.take_length] at hbad
   repeat' (first|(refine W.go ?_;try intro b_)|fail)
   refine CutF.mk () ?_
   exact hbad
 rintro _ hbad
 repeat' (first|(refine W.go ?_;try intro b_)|fail)
 refine Fin.to Hc ?_
 exact F.f1 ⟨-1,rfl,rfl,by rw [hbad];rfl⟩
theorem pcont_p{g:FuncId} [IsFn Tryz.prog g]{fs cs:List Value}{Hc:Hp}{β:Pg→Bool}(ps:List Pg)(hg:∀ p∈ps,Tri Tryz.prog g (fs++[.agg (pgC p).toArray]++cs) Hc (fun _=>True) (fun v H=>v=.bool (β p)∧H=Hc))(hn:ps.length≤1000000)(v:Value) :
  Tri Tryz.prog 81 [v,.func (.func g) fs.toArray cs.toArray] Hc (fun w=>Rd (Hc.map Prod.fst) w 5 v (pgsC ps)) (fun r H'=>r=.bool (ps.any β)∧H'=Hc):=by
 refine Tri.mk Tryz.func81 rfl Tryz.ntmps81 rfl fun w hw=>?_
 have hv1:=hw.isOne
 have hw2:=hw
 obtain⟨a,len,cap,rfl,-⟩:=hw.get
 repeat' (first|(refine W.go ?_;try intro b_)|fail)
 refine W.call (pidx_p ps hg hn _) ?_ rfl (fun w2 hs=>hw2.ro (Hc:=Hc) hs)
 rintro _ Hx ⟨z,rfl,hx2,hz⟩
 have hx2:=hx2.symm
 subst hx2
 cases hb:ps.any β with
 | true=>
  rw [hb] at hz
  have hz2:=of_decide_eq_true hz
  repeat' (first|(refine W.go ?_;try intro b_)|fail)
  refine Fin.to Hc ?_
  exact F.f1 ⟨rfl,rfl⟩
 | false=>
  rw [hb] at hz
  have hz2:=of_decide_eq_false hz
  repeat' (first|(refine W.go ?_;try intro b_)|fail)
  refine Fin.to Hc ?_
  exact F.f1 ⟨rfl,rfl⟩
open Pq
theorem cloneD_p(r:List (List UInt8))(hr:D32 r)(h1:1≤r.length)(hn:r.length≤1099511627)(v:Value):Tri Tryz.prog 189 [v] [] (fun w=>Rd [] w 32 v (cbs r.flatten)) (fun o H=>Sl 119 32 o (cbs r.flatten) H):=by
 refine Tri.mk Tryz.func189 rfl Tryz.ntmps189 rfl fun w hw=>?_
 have hw2:=hw
 obtain⟨a,cap,rfl,hc,hg⟩:=hw.row hr
 obtain⟨b,o,l,T,fz,rfl,-⟩:=hg 0 _ (List.getElem?_eq_getElem (by omega))
 have hfl:(cbs r.flatten).length=r.length*32:=by rw [cbs_len,flatN_len hr]
 repeat' (first|(refine W.go ?_;try intro b_)|fail)
 refine W.ap (ys:=cbs r.flatten) (mm:=r.length) (Sl.own 119 32 b_ (len:=0) (xs:=[]) rfl) (fun w2 hs=>hw2.srcAt hs) (fun v1 H1 hv1=>?_) (hys:=hfl) (hbytes:=by rw [hfl];simp;omega)
 have h11:=hv1.isOne
 rw [List.nil_append] at hv1
 repeat' (first|(refine W.go ?_;try intro b_)|fail)
 refine Fin.to H1 ?_
 exact F.f1 hv1
theorem RowsP.snocSl{vs:List Value}{L:List (List (List UInt8))}{H H1:Hp}(h:RowsP vs L H){v:Value}{r:List (List UInt8)}(hv:Sl 119 32 v (cbs r.flatten) H1)(hr:D32 r)(hp:1≤r.length):RowsP (vs++[v]) (L++[r]) (H++H1):=by
 rcases hv with ⟨rfl,h2,rfl⟩|⟨b,len,cap,junk,rfl,hx,hj,hlc,rfl⟩
 ·have h3:=congrArg List.length h2
  rw [cbs_len,flatN_len hr,List.length_nil] at h3
  omega
 ·obtain rfl:len=r.length:=by rw [cbs_len,flatN_len hr] at hx;omega
  exact h.snoc ⟨b,cap,junk,r⟩ ⟨hr,by dsimp only;omega,hlc⟩
theorem b1s(a:Option Addr)(l c:Nat):bfill (fun i=>some (i*1,1)) (zs [.slice none 0 0] 1) [(0,.slice a l c)]=some [.slice a l c]:=rfl
structure CS where
 d:Nat
 lv:Value
 vs:List Value
 Hl:Hp
 Hw:Hp
theorem Copy_p{t b:Nat}{l:List (List UInt8)}{Ht:Hp}(hT:TreeV t b l Ht)(hl:D32 l)(h1:1≤l.length)(h2:l.length≤1024):Tri Tryz.prog 129 [.pointer (some ⟨t,0,none⟩)] Ht (fun _=>True)
  (fun v H'=>∃ c Hc,v=.pointer (some ⟨c,0,none⟩)∧H'=Ht++Hc∧TreeV c b l Hc):=by
 have hd10:=dep_max (n:=l.length) (k:=10) (by simpa using h2)
 obtain⟨lb,lc,vs,lj,Hw,rfl,hrw,hvl,hlc⟩:=hT.open (by simp [rowsV])
 have hLl:(rowsV l (dep l.length) (dep l.length+1)).length=dep l.length+1:=by simp [rowsV]
 rw [hLl] at hlc hvl ⊢
 unfold TreeV
 refine Tri.mk Tryz.func129 rfl Tryz.ntmps129 rfl fun w hw=>?_
 generalize hD:dep l.length=D at *
 have hbf:bfill (fun i=>[(0,1),(1,1),(2,1)][i]?) ([.pointer none]++[.int .i64 0]++[.slice none 0 0]) [(0,.pointer (some ⟨b,0,none⟩)),(1,.int .i64 (l.length:Int))]=some [.pointer (some ⟨b,0,none⟩),.int .i64 (l.length:Int),.slice none 0 0]:=rfl
 repeat' (first|(refine W.go ?_;try intro b_)|fail)
 (refine SW.regionS [9] ?_ (by kernel_rfl);refine SS.T 0 rfl ?_;refine SS.T 1 rfl ?_;refine SS.T 2 rfl ?_;(first|refine SS.ls 3 [8,9] rfl ?_|refine SS.sR 3 rfl ?_);refine SS.T 4 rfl ?_;refine SS.T 5 rfl ?_;refine SS.T 6 rfl ?_;(first|refine SS.ls 7 [8,9] rfl ?_|refine SS.sR 7 rfl ?_);refine SS.T 8 rfl ?_;refine SS.effB 9 ?_ rfl (by kernel_rfl);(repeat' (first|(refine W.g1 ?_;try intro b_)|fail));refine SS.T 10 rfl ?_;refine SS.done ?_ (by kernel_rfl))
 repeat' (first|(refine W.gb ?_;try intro b_)|fail)
 refine SW.cutH [3] [(b_,cl [.pointer (some ⟨b,0,none⟩),.int .i64 (l.length:Int),.slice none 0 0] 278)] (fun x:CS=>[]) (fun x=>(b_,cl [.pointer (some ⟨b,0,none⟩),.int .i64 (l.length:Int),x.lv] 278)::(x.Hl++x.Hw)) (fun x=>Sl 275 1 x.lv x.vs x.Hl∧RowsP x.vs (rowsV l D (D+1)) x.Hw) ?_ ?_
 rotate_left
 ·rintro⟨d,lv,vs2,Hl,Hw2⟩ ⟨hlv,hrw2⟩
  dsimp only at hlv hrw2 ⊢
  repeat' (first|(refine W.go ?_;try intro b_)|fail)
  refine Fin.to (((t,cl [.pointer (some ⟨b,0,none⟩),.int .i64 (l.length:Int),.slice (some ⟨lb,0,none⟩) (D+1) lc] 278)::([(lb,cl (vs++lj) 275)]++Hw))++((b_,cl [.pointer (some ⟨b,0,none⟩),.int .i64 (l.length:Int),lv] 278)::(Hl++Hw2))) ?_
  refine F.f1 ?_
  exact⟨b_,_,rfl,rfl,lv,vs2,Hl,Hw2,rfl,hlv,hrw2⟩
 ·repeat' (first|(refine W.go ?_;try intro b_)|fail)
  refine SW.loopF [3,21,22] (fun x:CS=>[(23,.int .i64 (x.d:Int))]) (fun x=>(b_,cl [.pointer (some ⟨b,0,none⟩),.int .i64 (l.length:Int),x.lv] 278)::(x.Hl++x.Hw)) (fun x=>D+1-x.d) (fun x=>x.d≤D+1∧Sl 275 1 x.lv x.vs x.Hl∧RowsP x.vs (rowsV l D x.d) x.Hw) ⟨0,.slice none 0 0,[],[],[]⟩ ⟨Nat.zero_le _,Sl.nil _ _,RowsP.nil⟩ ?_
  rintro⟨d,lv,vs2,Hl,Hw2⟩ ⟨hd,hlv,hrw2⟩
  dsimp only at hd hlv hrw2 ⊢
  have hv1:=hlv.isOne
  by_cases hdD:d<D+1
  ·have hXm:2^(D-d)≤1024:=Nat.pow_le_pow_right (n:=2) (by omega) (show D-d≤10 by omega)
   have hXp:0<2^(D-d):=Nat.pow_pos (by omega)
   have hrl:=rowV_len l D d
   have hr32:=rowV_32 hl D d
   obtain⟨rb,rc,rj,hv,hat,-,hrc⟩:=hrw.get (rowsV_get l (D:=D) hdD)
   have hv2:=app_get (lj:=lj) hv
   have hcl:=cloneD_p (rowV l D d) hr32 (by omega) (by omega) (.slice (some ⟨rb,0,none⟩) (rowV l D d).length rc)
   have hnx:=rowsV_next l D d
   have hrl2:=hrw2.len
   have hlen2:vs2.length=d:=by rw [hrl2];simp [rowsV]
   have hfl:(cbs (rowV l D d).flatten).length=(rowV l D d).length*32:=by rw [cbs_len,flatN_len hr32]
   generalize rowV l D d=R at *
   repeat' (first|(refine W.go ?_;try intro b_)|fail)
   (refine SW.regionS [8,11] ?_ (by kernel_rfl);refine SS.T 0 rfl ?_;refine SS.T 1 rfl ?_;refine SS.T 2 rfl ?_;refine SS.T 3 rfl ?_;(first|refine SS.ls 4 [8,11] rfl ?_|refine SS.sR 4 rfl ?_);refine SS.T 5 rfl ?_;refine SS.effK 6 ?_ rfl (by kernel_rfl))
   refine W.call hcl ?_ rfl (fun w2 hs=>?_)
   rotate_left
   ·exact Rd.at (T:=119) (fz:=(0,0)) [] hs (l:=cbs R.flatten++rj) (o:=0) (by rw [List.drop_zero,← hfl,List.take_left'];rfl) hfl hrc
   intro cv H1 hcv
   have hcv1:=hcv.isOne
   obtain⟨ca,cl2,cc,rfl,-⟩:=hcv.form
   have hrn:=hrw2.snocSl hcv hr32 (by omega)
   rw [hnx] at hrn
   (refine SL.nilB ?_;refine SS.effK 7 ?_ rfl (by kernel_rfl))
   refine W.bsl (fun b7=>?_) (hr:=b1s ..)
   (refine SL.nilB ?_;refine SS.effB 8 ?_ rfl (by kernel_rfl))
   refine W.ap (ys:=[.slice ca cl2 cc]) (mm:=1) hlv (fun w2 hs=>(Sl.own 275 1 b7 (xs:=[.slice ca cl2 cc]) rfl).srcAt hs inferInstance) (fun lv2 Hl2 hv3=>?_) (hys:=rfl) (hbytes:=by simp;omega)
   have h21:=hv3.isOne
   (refine SL.nilB ?_;refine SS.T 9 rfl ?_;refine SS.T 10 rfl ?_;refine SS.effB 11 ?_ rfl (by kernel_rfl);(repeat' (first|(refine W.g1 ?_;try intro b_)|fail));refine SS.done ?_ (by kernel_rfl))
   rw [show ([.pointer (some ⟨b,0,none⟩),.int .i64 (l.length:Int),lv]:List Value).set 2 lv2=[.pointer (some ⟨b,0,none⟩),.int .i64 (l.length:Int),lv2] from rfl]
   repeat' (first|(refine W.go ?_;try intro b_)|fail)
   refine HandF.mk ⟨d+1,lv2,vs2++[.slice ca cl2 cc],Hl2,Hw2++H1⟩ ?_
   exact⟨hdD,hv3,hrn⟩
  ·have hd2:d=D+1:=by omega
   subst hd2
   repeat' (first|(refine W.go ?_;try intro b_)|fail)
   refine CutF.mk ⟨D+1,lv,vs2,Hl,Hw2⟩ ?_
   exact⟨hlv,hrw2⟩
end Go.Proofs.YtnigolgkkjidiaaGreat
