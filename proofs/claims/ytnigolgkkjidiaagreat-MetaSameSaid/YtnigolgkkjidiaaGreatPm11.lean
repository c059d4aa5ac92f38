/- A head's block, and a page's, of noughts. -/
import Derived.Test.YtnigolgkkjidiaaGreatPm10
import Derived.Test.YtnigolgkkjidiaaGreatPm8
set_option linter.unusedVariables false
set_option linter.unusedSimpArgs false
set_option linter.unusedSectionVars false
set_option maxHeartbeats 1000000
namespace Go.Proofs.YtnigolgkkjidiaaGreat
open Go
attribute [local irreducible] SW SL SQ SH SA SS Pu Fin CutF HandF
theorem or00:UAr .or .u8 0 0 0:=⟨fun P w t=>by
 have hw:IntKind.u8.wrap (((BitVec.ofInt 8 0 ||| BitVec.ofInt 8 0).toNat:Nat):Int)=0:=by decide
 simp only [binOp,Op.intBits,ne_eq,not_true_eq_false,if_false,Sem.run_pure]
 exact congrArg (fun z=>Result.ok (Value.int .u8 z) w) hw⟩
theorem zero_p(n:Nat)(hn:n≤1000000)(v:Value):Tri Tryz.prog 149 [v] [] (fun w=>Rd [] w 1 v (cbs (List.replicate n 0))) (fun r H=>r=.bool true∧H=[]):=by
 refine Tri.mk Tryz.func149 rfl Tryz.ntmps149 rfl fun w hw=>?_
 have hor:=or00
 obtain⟨a,len,cap,rfl,hl,hc,hr⟩:=hw.get
 rw [cbs_len,Nat.mul_one,List.length_replicate] at hl
 subst hl
 repeat' (first|(refine W.gb ?_;try intro b_)|fail)
 refine SW.block ?_
 repeat' (first|(refine W.gb ?_;try intro b_)|fail)
 refine SW.loopG [6,7] [] (fun i:Nat=>[(3,.int .u8 0),(8,.int .i64 (i:Int))]) (fun _=>[]) (fun i=>n-i) (fun i=>i≤n) 0 (Nat.zero_le _) ?_
 intro i hi
 by_cases hin:i<n
 ·obtain⟨b0,o0,l0,T0,fz0,rfl,hb,hbk,hys⟩:=hr (by omega)
  have hcell:l0[o0+i]?=some (.int .u8 0):=by
   have:((l0.drop o0).take (n*1))[i]?=(cbs (List.replicate n 0))[i]?:=by rw [hys]
   rw [List.getElem?_take,if_pos (by omega),List.getElem?_drop] at this
   rw [this]
   unfold cbs
   rw [List.getElem?_map,List.getElem?_replicate,if_pos hin]
   rfl
  repeat' (first|(refine W.go ?_;try intro b_)|fail)
  refine HandF.mk (i+1) ?_
  exact hin
 ·have:i=n:=by omega
  subst this
  repeat' (first|(refine W.go ?_;try intro b_)|fail)
  refine Fin.to [] ?_
  exact F.f1 ⟨rfl,rfl⟩
def rootC(next:Int)(l:List Int):List Value:=.int .u64 next::l.map fun h=>.int .u64 h
theorem rootC_len(n:Int)(l:List Int):(rootC n l).length=l.length+1:=by unfold rootC;rw [List.length_cons,List.length_map]
instance rootC_one(n:Int)(l:List Int):OC (rootC n l):=⟨fun v hv=>by
 rcases List.mem_cons.1 hv with rfl|hv
 ·rfl
 ·obtain⟨h,-,rfl⟩:=List.mem_map.1 hv
  rfl⟩
abbrev root0:List Value:=rootC 1 (List.replicate 16 0)
theorem hParseZ_p(v:Value):Tri Tryz.prog 77 [v] [] (fun w=>Rd [] w 1 v (cbs (List.replicate 256 0))) (fun r H=>r=.tuple #[.agg root0.toArray,.int .i64 0]∧H=[]):=by
 refine Tri.mk Tryz.func77 rfl Tryz.ntmps77 rfl fun w hw=>?_
 have hw2:=hw
 obtain⟨a,len,cap,rfl,hl,hc,hr⟩:=hw.get
 rw [cbs_len,Nat.mul_one,List.length_replicate] at hl
 subst hl
 have hrl:root0.length=17:=rfl
 have hro:OC root0:=inferInstance
 have hbd:bfill (fun i=>[(0,1),(1,16)][i]?) ([.int .u64 0]++List.replicate 16 (.int .u64 0)) [(0,.int .u64 1)]=some root0:=rfl
 repeat' (first|(refine W.go ?_;try intro b_)|fail)
 refine W.call (zero_p 256 (by decide) _) ?_ (hpre:=fun w2 hs=>hw2.ro (Hc:=[]) hs)
 rintro _ _ ⟨rfl,rfl⟩
 repeat' (first|(refine W.go ?_;try intro b_)|fail)
 exact F.ct [] root0 ⟨rfl,rfl⟩
instance pgsC_one(ps:List Pg):OC (pgsC ps):=⟨fun v hv=>by
 obtain⟨l,hl,hv⟩:=List.mem_flatten.1 hv
 obtain⟨p,-,rfl⟩:=List.mem_map.1 hl
 exact (pgC_one p).ok v hv⟩
theorem pclone_p(ps:List Pg)(hn:ps.length≤100000)(b o len cap:Nat):Tri Tryz.prog 79 [.slice (some ⟨b,o,none⟩) len cap] [] (fun w=>Rd [] w 5 (.slice (some ⟨b,o,none⟩) len cap) (pgsC ps)) (fun r H=>Sl 185 5 r (pgsC ps) H):=by
 refine Tri.mk Tryz.func79 rfl Tryz.ntmps79 rfl fun w hw=>?_
 have hw2:=hw
 have hpl:(pgsC ps).length=ps.length*5:=by
  rw [flatN_len (n:=5) fun x hx=>by obtain⟨y,-,rfl⟩:=List.mem_map.1 hx;exact pgC_len y,List.length_map]
 obtain⟨a,len',cap',he,hl,hc,hr⟩:=hw.get
 cases he
 repeat' (first|(refine W.go ?_;try intro b_)|fail)
 have h0:Sl 185 5 (.slice (some ⟨b_,0,none⟩) 0 0) [] [(b_,cl ([]:List Value) 185)]:=Sl.mk (xs:=[]) (junk:=[]) (len:=0) (cap:=0) rfl rfl (Nat.le_refl _)
 refine W.ap h0 (fun w2 hs=>hw2.srcAt hs) (fun v1 H1 h1=>?_) (hys:=hl) (hbytes:=by rw [hpl];simp;omega)
 have h11:=h1.isOne
 rw [List.nil_append] at h1
 repeat' (first|(refine W.go ?_;try intro b_)|fail)
 refine Fin.to H1 ?_
 exact F.f1 h1
def lateB(next:Int)(p:Pg):Bool:=decide (p.kind=2∧next≤p.ser)
theorem late_p{m:Nat}{next:Int}{l:List Int}{pv:Value}{T:TypeId}(p:Pg)(hl:l.length=16) [One pv]:Tri Tryz.prog 156 [.agg (pgC p).toArray,ptv m] [(m,cl (rootC next l++[pv]) 91)] (fun _=>True) (fun v H=>v=.bool (lateB next p)∧H=[(m,cl (rootC next l++[pv]) 91)]):=by
 refine Tri.mk Tryz.func156 rfl Tryz.ntmps156 rfl fun w hw=>?_
 have hpl:=pgC_len p
 have hk:(pgC p)[0]?=some (.int .i64 p.kind):=rfl
 have hs:(pgC p)[4]?=some (.int .u64 p.ser):=rfl
 have hm:(rootC next l++[pv])[0]?=some (.int .u64 next):=rfl
 have hpo:OC (pgC p):=inferInstance
 have hf:OC (rootC next l++[pv]):=inferInstance
 unfold lateB
 generalize pgC p=Z at *
 generalize hY:rootC next l++[pv]=Y at *
 by_cases h2:p.kind=2
 ·by_cases h3:next≤p.ser
  ·rw [decide_eq_true ⟨h2,h3⟩]
   repeat' (first|(refine W.go ?_;try intro b_)|fail)
   refine Fin.to [(m,cl Y 91)] ?_
   exact F.f1 ⟨rfl,rfl⟩
  ·rw [decide_eq_false fun hh=>h3 hh.2]
   repeat' (first|(refine W.go ?_;try intro b_)|fail)
   refine Fin.to [(m,cl Y 91)] ?_
   exact F.f1 ⟨rfl,rfl⟩
 ·rw [decide_eq_false fun hh=>h2 hh.1]
  repeat' (first|(refine W.go ?_;try intro b_)|fail)
  refine Fin.to [(m,cl Y 91)] ?_
  exact F.f1 ⟨rfl,rfl⟩
theorem other_p(p:Pg):Tri Tryz.prog 82 [.agg (pgC p).toArray] [] (fun _=>True) (fun v H=>v=.bool (decide (p≠.pl 0))∧H=[]):=by
 refine Tri.mk Tryz.func82 rfl Tryz.ntmps82 rfl fun w hw=>?_
 have hpl:=pgC_len p
 have hb:(pgC (.pl 0)).toArray=(pgC (.pl 0)).toArray:=rfl
 by_cases h:p=.pl 0
 ·rw [decide_eq_false (fun hh=>hh h)]
  repeat' (first|(refine W.go ?_;try intro b_)|fail)
  refine SL.pu (p_neS_f rfl rfl rfl (pgQ_of p) (pgQ_of (.pl 0)) (by rw [h];rfl)) rfl rfl ?_
  repeat' (first|(refine W.go ?_;try intro b_)|fail)
  refine Fin.to [] ?_
  exact F.f1 ⟨rfl,rfl⟩
 ·rw [decide_eq_true h]
  repeat' (first|(refine W.go ?_;try intro b_)|fail)
  refine SL.pu (p_neS_t rfl rfl rfl (pgQ_of p) (pgQ_of (.pl 0)) (fun hh=>h (pgC_inj hh))) rfl rfl ?_
  repeat' (first|(refine W.go ?_;try intro b_)|fail)
  refine Fin.to [] ?_
  exact F.f1 ⟨rfl,rfl⟩
abbrev zpg(n:Nat):List Pg:=List.replicate n (.pl 0)
theorem pcheckZ_p(n:Nat)(hn:n≤64)(v:Value):Tri Tryz.prog 157 [v] [] (fun w=>Rd [] w 5 v (pgsC (zpg n))) (fun r H=>r=.int .i64 0∧H=[]):=by
 have hcf:=fun v=>pcont_p (g:=154) (fs:=[]) (cs:=[]) (Hc:=[]) (β:=fun _=>false) (zpg n) (fun p hp=>by rw [List.eq_of_mem_replicate hp];exact badZ_p) (by rw [List.length_replicate];omega) v
 rw [show (zpg n).any (fun _=>false)=false from List.any_eq_false.2 fun _ _ h=>by cases h] at hcf
 have htl:=tail_p (.pl 0)
 rw [decide_eq_false (by decide)] at htl
 refine Tri.mk Tryz.func157 rfl Tryz.ntmps157 rfl fun w hw=>?_
 have hw2:=hw
 have hL:∀ y∈(zpg n).map pgC,y.length=5:=fun y hy=>by
  obtain⟨x,hx,rfl⟩:=List.mem_map.1 hy
  exact pgC_len x
 obtain⟨a,cap,rfl,hcap,hgt⟩:=hw.rows (by decide) hL
 rw [List.length_map,List.length_replicate] at hcap ⊢
 have hpl:=pgC_len (.pl 0)
 have hk0:(pgC (.pl 0))[0]?=some (.int .i64 0):=rfl
 have hpo:OC (pgC (.pl 0)):=inferInstance
 repeat' (first|(refine W.go ?_;try intro b_)|fail)
 refine W.call (hcf _) ?_ (hpre:=fun w2 hs=>by rw [List.length_map,List.length_replicate] at hw2;exact hw2.ro (Hc:=[]) hs)
 rintro _ _ ⟨rfl,rfl⟩
 repeat' (first|(refine W.gb ?_;try intro b_)|fail)
 refine SW.block ?_
 repeat' (first|(refine W.gb ?_;try intro b_)|fail)
 refine SW.loopG [13,14] [] (fun i:Nat=>[(3,.int .i64 0),(15,.int .i64 (i:Int))]) (fun _=>[]) (fun i=>n-i) (fun i=>i≤n) 0 (Nat.zero_le _) ?_
 intro i hi
 by_cases hin:i<n
 ·obtain⟨pb,po,lv,T,fz,rfl,hb,hk,hv⟩:=hgt i (pgC (.pl 0)) (by rw [List.getElem?_map,List.getElem?_replicate,if_pos hin];rfl)
  generalize pgC (.pl 0)=Z at *
  repeat' (first|(refine W.go ?_;try intro b_)|fail)
  refine W.call htl ?_
  rintro _ _ ⟨rfl,rfl⟩
  repeat' (first|(refine W.go ?_;try intro b_)|fail)
  refine HandF.mk (i+1) ?_
  exact hin
 ·have:i=n:=by omega
  subst this
  repeat' (first|(refine W.go ?_;try intro b_)|fail)
  refine Fin.to [] ?_
  exact F.f1 ⟨rfl,rfl⟩
end Go.Proofs.YtnigolgkkjidiaaGreat
