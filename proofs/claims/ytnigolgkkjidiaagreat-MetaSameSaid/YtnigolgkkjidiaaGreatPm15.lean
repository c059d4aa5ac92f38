/- Slices that are cut into chunks: the library's iterator. -/
import Derived.Test.YtnigolgkkjidiaaGreatPm14
import Derived.Test.YtnigolgkkjidiaaGreatPm7
set_option linter.unusedVariables false
set_option linter.unusedSimpArgs false
set_option linter.unusedSectionVars false
set_option maxHeartbeats 1000000
namespace Go.Proofs.YtnigolgkkjidiaaGreat
open Go
section
variable {P:Program}{C:Ctx}{ρ:Fr}{H:Hp}{o:Oper}
theorem p_sl3{t e n b j len cap l h c:Nat}{x y z u:Operand}{k kk ku:IntKind}{m q r:Int} [ht:SliceTy P t e n](ho:o.op=.slice t x (some y) (some z) (some u))(hx:ev ρ x=some (.slice (some ⟨b,j,none⟩) len cap))(hy:ev ρ y=some (.int k m))(hz:ev ρ z=some (.int kk q))(hu:ev ρ u=some (.int ku r))
  (hl:m=(l:Int)) (hh:q=(h:Int)) (hm:r=(h:Int)) (h1:l<h) (h2:h≤cap) (hc:j+l*n=c):Pu P C ρ H o (.slice (some ⟨b,c,none⟩) (h-l) (h-l)):=fun ac w hf _=>by
 subst hl hh hm hc
 have h3:¬ h=l:=by omega
 unfold execOp;rw [ho]
 simp [hf.eval hx,hf.eval hy,hf.eval hz,hf.eval hu,Instr.sliceAt,run_underlying ht.ok,Instr.slice,Instr.sliceBounds,Instr.sliceBound,asIntOf,h1,h2,Nat.le_of_lt h1,h3,run_sizeOf ht.size,add_mid]
end
attribute [local irreducible] SW SL SQ SH SA SS Pu Fin CutF HandF SX SJ
theorem chunk1_p{l bs bn kb ko len cap n:Nat}(xs:List UInt8)(hn:0<n)(hn2:n≤1000000)(hlen:len≤1000000000)(J:Nat→Hp→Prop)(Jx:Hp→Prop)(H0:Hp)(h0:J 0 H0)
  (hY:∀ k Hk,n*k<len→J k Hk→Rnd Tryz.prog l [.slice (some ⟨kb,ko+n*k,none⟩) (min n (len-n*k)) (min n (len-n*k))] Hk (fun w=>Rd (Hk.map Prod.fst) w 1 (.slice (some ⟨kb,ko,none⟩) len cap) (cbs xs)) (fun v H'=>(v=.bool true∧J (k+1) H')∨(v=.bool false∧Jx H'))) :
  Tri Tryz.prog 167 [.func (.yield l) #[] #[],.pointer (some ⟨bs,0,none⟩),.pointer (some ⟨bn,0,none⟩)]
   ((bs,cl [.slice (some ⟨kb,ko,none⟩) len cap] 210)::(bn,cl [.int .i64 (n:Int)] 3)::H0)
   (fun w=>Rd (((bs,cl [.slice (some ⟨kb,ko,none⟩) len cap] 210)::(bn,cl [.int .i64 (n:Int)] 3)::H0).map Prod.fst) w 1 (.slice (some ⟨kb,ko,none⟩) len cap) (cbs xs))
   (fun v H'=>v=.tuple #[]∧((∃ k,len≤n*k∧n*k<len+n∧J k H')∨Jx H')):=by
 refine Tri.mk Tryz.func167 rfl Tryz.ntmps167 rfl fun w hw=>?_
 have hlc:len≤cap:=hw.len1.2
 repeat' (first|(refine W.gb ?_;try intro b_)|fail)
 repeat' (first|(refine W.go ?_;try intro b_)|fail)
 refine SW.loopF [0,1,2] (fun s:Nat×Nat×Hp=>[(4,.int .i64 (s.1:Int))]) (fun s=>(bs,cl [.slice (some ⟨kb,ko,none⟩) len cap] 210)::(bn,cl [.int .i64 (n:Int)] 3)::s.2.2) (fun s=>len+n-s.1) (fun s=>s.1=n*s.2.1∧s.1<len+n∧J s.2.1 s.2.2) (0,0,H0) ⟨by simp,by simp;omega,h0⟩ ?_
 rintro⟨i,k,Hk⟩ ⟨hik,hil,hJ⟩
 dsimp only at hik hil hJ ⊢
 by_cases h:i<len
 ·have hci:i<cap:=by omega
  have hil':i≤len:=by omega
  repeat' (first|(refine W.go ?_;try intro b_)|fail)
  (refine SW.regionS [] ?_ (by kernel_rfl);(first|refine SS.ls 0 [] rfl ?_|refine SS.sR 0 rfl ?_);(first|refine SS.ls 1 [] rfl ?_|refine SS.sR 1 rfl ?_);refine SS.T 2 rfl ?_;refine SS.tw 3 rfl (p_sl10 rfl rfl rfl (by omega) (by omega) (by omega)) ?_;refine SS.T 4 rfl ?_;refine SS.T 5 rfl ?_;refine SS.T 6 rfl ?_;refine SS.done ?_ (by kernel_rfl))
  rw [show min (n:Int) ((len-i:Nat):Int)=((min n (len-i):Nat):Int) by omega]
  obtain⟨m,hm⟩:∃ m,min n (len-i)=m:=⟨_,rfl⟩
  have hm0:0<m:=by omega
  have hml:i+m≤len:=by omega
  rw [hm]
  refine SW.seq ?_
  refine SW.ofR (SR.regionI (SJ.cut 10 ?_))
  repeat' (first|(refine W.g1 ?_;try intro b_)|fail)
  refine SL.pu (p_sl3 (l:=i) (h:=i+m) (c:=ko+i) rfl rfl rfl rfl rfl rfl (by omega) (by omega) (by omega) (by omega) (by omega)) rfl rfl ?_
  refine SL.nil ?_
  have hY':=hY k Hk (by omega) hJ
  rw [← hik,hm] at hY'
  rw [show i+m-i=m by omega]
  refine SJ.yield Hk rfl rfl rfl rfl rfl hY' (fun w2 hs=>hw.ro (Hc:=Hk) hs) ?_
  rintro _ H' (⟨rfl,hJ'⟩|⟨rfl,hJx⟩)
  ·refine SJ.all ?_
   repeat' (first|(refine W.go ?_;try intro b_)|fail)
   rw [show (i:Int)+(n:Int)=((i+n:Nat):Int) by omega]
   refine HandF.mk (i+n,k+1,H') ?_
   exact⟨by dsimp only;rw [hik,Nat.mul_succ],by dsimp only;omega,hJ'⟩
  ·refine SJ.all ?_
   repeat' (first|(refine W.go ?_;try intro b_)|fail)
   refine Fin.to H' ?_
   exact F.f0 ⟨rfl,.inr hJx⟩
 ·repeat' (first|(refine W.go ?_;try intro b_)|fail)
  refine Fin.to Hk ?_
  exact F.f0 ⟨rfl,.inl ⟨k,by omega,by omega,hJ⟩⟩
theorem chunk_p{kv:Value} [One kv]{n:Nat}(hn:0<n):Tri Tryz.prog 102 [kv,.int .i64 (n:Int)] [] (fun _=>True)
  (fun v H=>∃ bs bn,v=.func (.func 167) #[] #[.pointer (some ⟨bs,0,none⟩),.pointer (some ⟨bn,0,none⟩)]∧H=[(bs,cl [kv] 210),(bn,cl [.int .i64 (n:Int)] 3)]):=by
 refine Tri.mk Tryz.func102 rfl Tryz.ntmps102 rfl fun w hw=>?_
 repeat' (first|(refine W.go ?_;try intro b_)|fail)
 rename_i bs
 refine Fin.to [(bs,cl [kv] 210),(b_,cl [.int .i64 (n:Int)] 3)] ?_
 exact F.f1 ⟨bs,b_,rfl,rfl⟩
end Go.Proofs.YtnigolgkkjidiaaGreat
namespace Go.Proofs.YtnigolgkkjidiaaGreat
open Go
attribute [local irreducible] SW SL SQ SH SA SS Pu Fin CutF HandF SX SJ
namespace Aes
def keyW(x:List UInt8)(k:Nat):List (List UInt8):=(List.range k).map fun j=>(x.drop (4*j)).take 4
theorem keyW_len(x:List UInt8)(k:Nat):(keyW x k).length=k:=by unfold keyW;simp
theorem keyW_succ(x:List UInt8)(k:Nat):keyW x (k+1)=keyW x k++[(x.drop (4*k)).take 4]:=by unfold keyW;rw [List.range_succ,List.map_append];rfl
theorem keyW_four{x:List UInt8}{k:Nat}(h:4*k≤x.length):∀ y∈keyW x k,y.length=4:=fun y hy=>by
 obtain⟨j,hj,rfl⟩:=List.mem_map.1 hy
 have:=List.mem_range.1 hj
 rw [List.length_take,List.length_drop]
 omega
def grow(n:Nat)(ws:List (List UInt8)):Nat→List (List UInt8)
 | 0=>ws
 | m+1=>grow n ws m++[xor4 ((grow n ws m).getD (ws.length+m-n) []) (nextW ((grow n ws m).getD (ws.length+m-1) []) (ws.length+m) n)]
theorem grow_len(n:Nat)(ws:List (List UInt8))(m:Nat):(grow n ws m).length=ws.length+m:=by
 induction m with
 | zero=>rfl
 | succ m ih=>unfold grow;rw [List.length_append,ih];rfl
theorem grow_at{n:Nat}{ws:List (List UInt8)}{m i:Nat}(h:i<ws.length+m):(grow n ws m)[i]?=some ((grow n ws m).getD i []):=by
 rw [List.getD_eq_getElem?_getD,List.getElem?_eq_getElem (by rw [grow_len];exact h)];rfl
theorem grow_four{n:Nat}(hn:0<n){ws:List (List UInt8)}(hw:∀ y∈ws,y.length=4)(hl:n≤ws.length)(m:Nat):∀ y∈grow n ws m,y.length=4:=by
 induction m with
 | zero=>exact hw
 | succ m ih=>
  intro y hy
  unfold grow at hy
  rcases List.mem_append.1 hy with hy|hy
  ·exact ih y hy
  ·obtain rfl:=List.mem_singleton.1 hy
   have h1:=ih _ (List.mem_of_getElem? (grow_at (n:=n) (ws:=ws) (m:=m) (i:=ws.length+m-n) (by omega)))
   have h2:=ih _ (List.mem_of_getElem? (grow_at (n:=n) (ws:=ws) (m:=m) (i:=ws.length+m-1) (by omega)))
   rw [xor4_len (by rw [h1,nextW_len h2])]
   exact h1
def sched(x:List UInt8):List (List UInt8):=grow (x.length/4) (keyW x (x.length/4)) (3*(x.length/4)+28)
end Aes
def CipP(c b n:Nat)(ws:List (List UInt8))(H:Hp):Prop:=∃ wv Hs,Sl 217 4 wv (cbs ws.flatten) Hs∧H=(c,cipO b wv (.int .i64 (n:Int)))::Hs
theorem b4{w:List UInt8}(h:w.length=4):bfill (fun i=>some (i*4,4)) (zs (List.replicate 4 (.int .u8 0)) 1) [(0,.agg (cbs w).toArray)]=some (cbs w):=by
 obtain⟨a,b,c,d,rfl⟩:=four h
 rfl
theorem anew_p{b kb ko len cap:Nat}(xs:List UInt8)(hx:xs.length=16∨xs.length=32):Tri Tryz.prog 41 [.pointer (some ⟨b,0,none⟩),.slice (some ⟨kb,ko,none⟩) len cap] [(b,boxO)] (fun w=>Rd [b] w 1 (.slice (some ⟨kb,ko,none⟩) len cap) (cbs xs))
  (fun v H=>∃ c Hc,v=.tuple #[.pointer (some ⟨c,0,none⟩),.int .i64 0]∧CipP c b (xs.length/4+6) (Aes.sched xs) Hc∧H=Hc++[(b,boxO)]):=by
 refine Tri.mkX Tryz.func41 rfl Tryz.ntmps41 rfl fun w hw=>?_
 have hlc:xs.length=len∧len≤cap:=hw.len1
 obtain⟨hlen,hcap⟩:=hlc
 have h16:(xs.length:Int)/4=((xs.length/4:Nat):Int):=by omega
 have hwo:One (Value.slice (some ⟨kb,ko,none⟩) len cap):=⟨rfl⟩
 refine SX.seqW (Fin.toEnd rfl) ?_
 repeat' (first|(refine W.gb ?_;try intro b_)|fail)
 refine SX.seqW (Fin.toEnd rfl) ?_
 refine SX.cutH [0,1,4,5] [(b,boxO)] (fun _:Unit=>[]) (fun _=>[(b,boxO)]) (fun _=>True) ?_ ?_
 ·rcases hx with hx|hx
  ·have hl:len=16:=by omega
   subst hl
   repeat' (first|(refine W.go ?_;try intro b_)|fail)
   refine CutF.mk () ?_
   trivial
  ·have hl:len=32:=by omega
   subst hl
   repeat' (first|(refine W.go ?_;try intro b_)|fail)
   refine CutF.mk () ?_
   trivial
 rintro _ -
 obtain⟨n,hn⟩:∃ n,xs.length/4=n:=⟨_,rfl⟩
 have hd:(len:Int)/4=(n:Int):=by omega
 have hd6:(n:Int)+6=((n+6:Nat):Int):=by omega
 have hb28:bfill (fun i=>[(0,1),(1,1),(2,1)][i]?) [.pointer none,.slice none 0 0,.int .i64 0] [(0,.pointer (some ⟨b,0,none⟩)),(2,.int .i64 ((n+6:Nat):Int))]=some [.pointer (some ⟨b,0,none⟩),.slice none 0 0,.int .i64 ((n+6:Nat):Int)]:=rfl
 refine SX.seqW (Fin.toEnd rfl) ?_
 repeat' (first|(refine W.go ?_;try intro b_)|fail)
 rw [hd]
 refine SX.seqW (Fin.toEnd rfl) ?_
 refine SW.region ?_
 refine W.mv ?_
 refine W.mv ?_
 refine W.za ?_
 rw [hd6]
 repeat' (first|(refine W.go ?_;try intro b_)|fail)
 refine SX.seqR ?_
 refine SX.seqW (Q0:=fun _ _ _=>False) (fun e a w ⟨_,_,_,_,h⟩=>h.elim) ?_
 repeat' (first|(refine W.go ?_;try intro b_)|fail)
 rename_i bc
 refine W.call (chunk_p (n:=4) (by decide)) ?_
 rintro _ _ ⟨bs,bn,rfl,rfl⟩
 refine SL.nil ?_
 refine SX.block ?_
 refine SX.fr [0,1,4,5,6,7,31] ?_
 rw [List.set_cons_zero]
 refine SX.to [(bs,cl [.slice (some ⟨kb,ko,none⟩) len cap] 210),(bn,cl [.int .i64 (4:Nat)] 3),(b_,cl [.pointer (some ⟨bc,0,none⟩)] 112),(bc,cipO b (.slice none 0 0) (.int .i64 ((n+6:Nat):Int))),(b,boxO)] ?_
 have hw':∀ D l o w',St [b] w ((l,o)::(D,.deferred (some []))::[(bs,cl [.slice (some ⟨kb,ko,none⟩) len cap] 210),(bn,cl [.int .i64 (4:Nat)] 3),(b_,cl [.pointer (some ⟨bc,0,none⟩)] 112),(bc,cipO b (.slice none 0 0) (.int .i64 ((n+6:Nat):Int))),(b,boxO)]) w'→Rd [bs,bn,l,D,b_,bc,b] w' 1 (.slice (some ⟨kb,ko,none⟩) len cap) (cbs xs):=fun D l o w' hs=>
  hw.ro (Hc:=[(bs,cl [.slice (some ⟨kb,ko,none⟩) len cap] 210),(bn,cl [.int .i64 (4:Nat)] 3),(l,o),(D,.deferred (some [])),(b_,cl [.pointer (some ⟨bc,0,none⟩)] 112),(bc,cipO b (.slice none 0 0) (.int .i64 ((n+6:Nat):Int))),(b,boxO)]) hs
 have h4n:4*n=xs.length:=by omega
 refine SX.range (caps:=[.pointer (some ⟨bs,0,none⟩),.pointer (some ⟨bn,0,none⟩)]) (Pre:=fun D l w'=>Rd [bs,bn,l,D,b_,bc,b] w' 1 (.slice (some ⟨kb,ko,none⟩) len cap) (cbs xs))
  (RR:=fun D l v H'=>∃ r wv Hs,r.state=.ready∧r.pending=none∧Sl 217 4 wv (cbs (Aes.keyW xs n).flatten) Hs∧H'=(l,.loop r)::(D,.deferred (some []))::(b_,cl [.pointer (some ⟨bc,0,none⟩)] 112)::(bc,cipO b wv (.int .i64 ((n+6:Nat):Int)))::(b,boxO)::Hs) rfl ?ht hw' ?hk
 case ht=>
  intro D l rec hr1 hr2 hr3 hr4 hr5 hfit
  refine Tri.perm' (Hd:=(bs,cl [.slice (some ⟨kb,ko,none⟩) len cap] 210)::(bn,cl [.int .i64 (4:Nat)] 3)::[(l,.loop rec),(D,.deferred (some [])),(b_,cl [.pointer (some ⟨bc,0,none⟩)] 112),(bc,cipO b (.slice none 0 0) (.int .i64 ((n+6:Nat):Int))),(b,boxO)])
   ((chunk1_p (n:=4) xs (by decide) (by decide) (by omega) (fun k Hk=>∃ wv Hs,Sl 217 4 wv (cbs (Aes.keyW xs k).flatten) Hs∧Hk=(l,.loop rec)::(D,.deferred (some []))::(b_,cl [.pointer (some ⟨bc,0,none⟩)] 112)::(bc,cipO b wv (.int .i64 ((n+6:Nat):Int)))::(b,boxO)::Hs) (fun _=>False) _ ⟨_,[],Sl.nil _ _,rfl⟩ ?_).mono ?_)
  ·rintro k Hk hk ⟨wv,Hs,hS,rfl⟩
   have hmin:min 4 (len-4*k)=4:=by omega
   rw [hmin]
   refine Rnd.mk hr3 hfit rfl fun w2 hw2=>?_
   rw [hr4,hr5]
   refine SR.region ?_
   repeat' (first|(refine W.g1 ?_;try intro b_)|fail)
   refine AsgEnd.mk hr1 ?_
   refine SR.block ?_
   have hr:=hw2.sub (4*k) (4*k+4) 4 (by omega) (by omega) (by omega)
   rw [show 4*k+4-4*k=4 by omega] at hr
   obtain⟨y,hy⟩:∃ y,(xs.drop (4*k)).take 4=y:=⟨_,rfl⟩
   have hy4:y.length=4:=by rw [← hy,List.length_take,List.length_drop];omega
   rw [hy] at hr
   obtain⟨a',len',cap',he,h1,h2,h3⟩:=hr
   cases he
   obtain⟨pb,po,lv,T,fz,he2,hb,hkk,hv⟩:=h3.resolve_left (by omega)
   cases he2
   rw [Nat.mul_one] at hv
   have hc:(cbs y).length=4:=by rw [cbs_len,hy4]
   have hb41:=b4 hy4
   have hS1:=hS.isOne
   have hfl:=flatN_len (n:=4) (L:=Aes.keyW xs k) (fun x hx=>Aes.keyW_four (x:=xs) (k:=k) (by omega) x hx)
   rw [Aes.keyW_len] at hfl
   (refine SR.regionS [12] ?_ (by kernel_rfl);(first|refine SS.ls 0 [12] rfl ?_|refine SS.sR 0 rfl ?_);(first|refine SS.ls 1 [12] rfl ?_|refine SS.sR 1 rfl ?_);refine SS.T 2 rfl ?_;refine SS.T 3 rfl ?_;(first|refine SS.ls 4 [12] rfl ?_|refine SS.sR 4 rfl ?_);refine SS.T 5 rfl ?_;refine SS.tw 6 rfl (p_s2a rfl rfl (by omega)) ?_;(first|refine SS.lw 7 [12] rfl ?_|refine SS.la 7 [12] rfl ?_|refine SS.aR 7 rfl ?_);refine SS.effK 8 ?_ rfl (by kernel_rfl))
   refine W.bsl fun b4=>?_
   (refine SL.nilB ?_;refine SS.effK 9 ?_ rfl (by kernel_rfl))
   refine W.ap (ys:=cbs y) (mm:=1) hS (fun w2 hs=>(Sl.own 217 4 b4 (xs:=cbs y) hc).srcAt hs inferInstance) (fun v3 H3 h3=>?_) (hys:=hc) (hbytes:=by rw [hc,cbs_len,hfl];omega)
   have h31:=h3.isOne
   rw [show cbs (Aes.keyW xs k).flatten++cbs y=cbs (Aes.keyW xs k++[y]).flatten by simp,← hy,← Aes.keyW_succ] at h3
   (refine SL.nilB ?_;refine SS.T 10 rfl ?_;refine SS.T 11 rfl ?_;refine SS.effB 12 ?_ rfl (by kernel_rfl);(repeat' (first|(refine W.g1 ?_;try intro b_)|fail));refine SS.done ?_ (by kernel_rfl))
   rw [List.set_cons_succ,List.set_cons_zero]
   refine RoundEnd.mkB ((D,.deferred (some []))::(b_,cl [.pointer (some ⟨bc,0,none⟩)] 112)::(bc,cipO b v3 (.int .i64 ((n+6:Nat):Int)))::(b,boxO)::H3) ?_
   rw [Loop.back hr1 hr2]
   exact .inl ⟨rfl,v3,H3,h3,rfl⟩
  ·rintro v H' ⟨rfl,(⟨k,hk1,hk2,wv,Hs,hS,rfl⟩|h)⟩
   ·have hkn:k=n:=by omega
    subst hkn
    exact⟨rec,wv,Hs,hr1,hr2,hS,rfl⟩
   ·exact h.elim
 case hk=>
  rintro D l v H' ⟨r,wv,Hs,hr1,hr2,hS,rfl⟩
  refine⟨r,_,.refl _,by rw [hr1];decide,?_⟩
  rw [hr2]
  refine RangeEnd.onB ?_
  show SX (RF none) _ ⟨80,[b],w,mk1 D⟩ _ _ _ _
  refine SX.of (Q:=FinD Tryz.prog { n:=80,K:=[b],w0:=w,ds:=mk1 D } D Tryz.f41 (fun v H=>∃ c Hc,v=.tuple #[.pointer (some ⟨c,0,none⟩),.int .i64 0]∧CipP c b (xs.length/4+6) (Aes.sched xs) Hc∧H=Hc++[(b,boxO)])) ?_ (FinD.toEnd rfl)
  have hk4:∀ y∈Aes.keyW xs n,y.length=4:=Aes.keyW_four (by omega)
  have hkl:=Aes.keyW_len xs n
  repeat' (first|(refine W.gb ?_;try intro b_)|fail)
  refine SW.cutH [4,5,7] ((bc,cipO b wv (.int .i64 ((n+6:Nat):Int)))::(b,boxO)::Hs) (fun _:Value×Hp=>[]) (fun s=>(bc,cipO b s.1 (.int .i64 ((n+6:Nat):Int)))::(b,boxO)::s.2) (fun s=>Sl 217 4 s.1 (cbs (Aes.sched xs).flatten) s.2) ?_ ?_
  ·repeat' (first|(refine W.go ?_;try intro b_)|fail)
   refine SW.loopF [4,5,6,7] (fun s:Nat×Value×Hp=>[(9,.int .i64 ((n+s.1:Nat):Int))]) (fun s=>(b_,cl [.pointer (some ⟨bc,0,none⟩)] 112)::(bc,cipO b s.2.1 (.int .i64 ((n+6:Nat):Int)))::(b,boxO)::s.2.2) (fun s=>3*n+28-s.1)
    (fun s=>s.1≤3*n+28∧Sl 217 4 s.2.1 (cbs (Aes.grow n (Aes.keyW xs n) s.1).flatten) s.2.2) (0,wv,Hs) ⟨Nat.zero_le _,hS⟩ ?_
   rintro⟨m,wv2,H2⟩ ⟨hm,hS2⟩
   dsimp only at hm hS2 ⊢
   have hS21:=hS2.isOne
   by_cases h:m<3*n+28
   ·obtain⟨ws,hws⟩:∃ ws,Aes.grow n (Aes.keyW xs n) m=ws:=⟨_,rfl⟩
    have hl1:ws.length=n+m:=by rw [← hws,Aes.grow_len,hkl]
    have hw4:W4 ws:=by rw [← hws];exact Aes.grow_four (by omega) hk4 (by omega) m
    have hsucc:Aes.grow n (Aes.keyW xs n) (m+1)=ws++[Aes.xor4 (ws.getD m []) (Aes.nextW (ws.getD (n+m-1) []) (n+m) n)]:=by
     show Aes.grow n (Aes.keyW xs n) m++_=_
     rw [hws,hkl,show n+m-n=m by omega]
    rw [hws] at hS2
    have hwa:ws[m]?=some (ws.getD m []):=by rw [List.getD_eq_getElem?_getD,List.getElem?_eq_getElem (by omega)];rfl
    have hwb:ws[n+m-1]?=some (ws.getD (n+m-1) []):=by rw [List.getD_eq_getElem?_getD,List.getElem?_eq_getElem (by omega)];rfl
    generalize ws.getD m []=wa at *
    generalize ws.getD (n+m-1) []=wb at *
    have ha4:=hw4 wa (List.mem_of_getElem? hwa)
    have hb4:=hw4 wb (List.mem_of_getElem? hwb)
    have hn4:=Aes.nextW_len hb4 (n+m) n
    have hx4:(Aes.xor4 wa (Aes.nextW wb (n+m) n)).length=4:=by rw [Aes.xor4_len (by omega),ha4]
    have hfl:=flatN_len (n:=4) hw4
    have hS0:=hS2
    rcases hS2 with ⟨-,h0,-⟩|⟨bw,lw,cw,junk,rfl,g1,g2,g3,rfl⟩
    ·have:(cbs ws.flatten).length=0:=by rw [h0];rfl
     rw [cbs_len,hfl] at this
     omega
    have glw:ws.length=lw:=by rw [cbs_len,hfl] at g1;omega
    have hg:=cbs_getJ (junk:=junk) hw4 hwa
    haveI:NatI (((n+m:Nat):Int)-(n:Int)) m:=⟨by omega⟩
    have hca:(cbs wa).length=4:=by rw [cbs_len,ha4]
    have hcx:(cbs (Aes.xor4 wa (Aes.nextW wb (n+m) n))).length=4:=by rw [cbs_len,hx4]
    have hbx:=b4 hx4
    repeat' (first|(refine W.go ?_;try intro b_)|fail)
    (refine SW.regionS [23] ?_ (by kernel_rfl);(first|refine SS.ls 0 [23] rfl ?_|refine SS.sR 0 rfl ?_);(first|refine SS.ls 1 [23] rfl ?_|refine SS.sR 1 rfl ?_);refine SS.T 2 rfl ?_;refine SS.T 3 rfl ?_;(first|refine SS.ls 4 [23] rfl ?_|refine SS.sR 4 rfl ?_);(first|refine SS.ls 5 [23] rfl ?_|refine SS.sR 5 rfl ?_);refine SS.T 6 rfl ?_;refine SS.T 7 rfl ?_;(first|refine SS.ls 8 [23] rfl ?_|refine SS.sR 8 rfl ?_);refine SS.T 9 rfl ?_;refine SS.T 10 rfl ?_;refine SS.T 11 rfl ?_;refine SS.T 12 rfl ?_;(first|refine SS.ls 14 [23] rfl ?_|refine SS.sR 14 rfl ?_);refine SS.T 15 rfl ?_;refine SS.T 16 rfl ?_;skip )
    have hcall:=anext_p (bw:=bw) (junk:=junk) (c:=bc) (b:=b) (r:=.int .i64 ((n+6:Nat):Int)) ws hw4 glw g3 wb (n+m) n (by omega) (by omega) (by omega) (by omega) hwb
    refine SS.twoK 13 17 ?a ?b rfl rfl
    case' a=>
     refine W.zl ?_
     refine SL.nilB ?_
     refine SS.effK 17 ?_ rfl (by kernel_rfl)
     refine W.call hcall ?_
     rintro _ _ ⟨rfl,rfl⟩
    case' b=>
     refine W.call hcall ?_
     rintro _ _ ⟨rfl,rfl⟩
     refine SL.nilB ?_
     refine SS.effK 13 ?_ rfl (by kernel_rfl)
     refine W.zl ?_
    all_goals
     (refine SL.nilB ?_;refine SS.effK 18 ?_ rfl (by kernel_rfl))
     refine W.call (axor_p wa _ ha4 hn4) ?_
     rintro _ _ ⟨rfl,rfl⟩
     (refine SL.nilB ?_;refine SS.effK 19 ?_ rfl (by kernel_rfl))
     refine W.bsl fun b4=>?_
     (refine SL.nilB ?_;refine SS.effK 20 ?_ rfl (by kernel_rfl))
     refine W.ap (ys:=cbs (Aes.xor4 wa (Aes.nextW wb (n+m) n))) (mm:=1) hS0 (fun w2 hs=>(Sl.own 217 4 b4 (xs:=cbs (Aes.xor4 wa (Aes.nextW wb (n+m) n))) hcx).srcAt hs inferInstance) (fun v3 H3 h3=>?_) (hys:=hcx) (hbytes:=by rw [hcx,cbs_len,hfl];omega)
     have h31:=h3.isOne
     rw [show cbs ws.flatten++cbs (Aes.xor4 wa (Aes.nextW wb (n+m) n))=cbs (ws++[Aes.xor4 wa (Aes.nextW wb (n+m) n)]).flatten by simp,← hsucc] at h3
     (refine SL.nilB ?_;refine SS.T 21 rfl ?_;refine SS.T 22 rfl ?_;refine SS.effB 23 ?_ rfl (by kernel_rfl);(repeat' (first|(refine W.g1 ?_;try intro b_)|fail));refine SS.done ?_ (by kernel_rfl))
     repeat' (first|(refine W.go ?_;try intro b_)|fail)
     rw [show ((n+m:Nat):Int)+1=((n+(m+1):Nat):Int) by omega]
     rw [List.set_cons_succ,List.set_cons_zero]
     refine HandF.mk (m+1,v3,H3) ?_
     exact⟨by dsimp only;omega,h3⟩
   ·have:m=3*n+28:=by omega
    subst this
    repeat' (first|(refine W.go ?_;try intro b_)|fail)
    refine CutF.mk (wv2,H2) ?_
    have e:Aes.sched xs=Aes.grow n (Aes.keyW xs n) (3*n+28):=by unfold Aes.sched;rw [hn]
    rw [e]
    exact hS2
  rintro⟨wv2,H2⟩ hS2
  dsimp only at hS2 ⊢
  have hS21:=hS2.isOne
  repeat' (first|(refine W.go ?_;try intro b_)|fail)
  refine FinD.mk ?_
  refine Fin.to ((bc,cipO b wv2 (.int .i64 ((n+6:Nat):Int)))::H2++[(b,boxO)]) ?_
  exact F.f2 ⟨bc,_,rfl,⟨wv2,H2,hS2,by rw [hn]⟩,rfl⟩
end Go.Proofs.YtnigolgkkjidiaaGreat
