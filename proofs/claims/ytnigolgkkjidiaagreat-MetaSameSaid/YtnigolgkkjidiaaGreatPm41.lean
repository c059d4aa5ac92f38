/- A block is cut into pieces; a free page as bytes. -/
import Derived.Test.YtnigolgkkjidiaaGreatPm15
import Derived.Test.YtnigolgkkjidiaaGreatPm11
import Derived.Test.YtnigolgkkjidiaaGreatPm28
import Derived.Test.YtnigolgkkjidiaaGreatPm39
set_option linter.unusedVariables false
set_option linter.unusedSimpArgs false
set_option linter.unusedSectionVars false
set_option maxHeartbeats 4000000
namespace Go.Proofs.YtnigolgkkjidiaaGreat
open Go
attribute [local irreducible] SW SL SQ SH SA SS Pu Fin CutF HandF SX SJ
theorem chunk1b_p{l bs bn kb ko len cap n:Nat}(xs:List UInt8)(hn:0<n)(hn2:n≤1000000)(hlen:len≤1000000000)(J:Nat→Hp→Prop)(Jx:Hp→Prop)(H0:Hp)(h0:J 0 H0)
  (hY:∀ k Hk,n*k<len→J k Hk→Rnd Tryz.prog l [.slice (some ⟨kb,ko+n*k,none⟩) (min n (len-n*k)) (min n (len-n*k))] Hk (fun w=>Rd (Hk.map Prod.fst) w 1 (.slice (some ⟨kb,ko,none⟩) len cap) (cbs xs)) (fun v H'=>(v=.bool true∧J (k+1) H')∨(v=.bool false∧Jx H'))) :
  Tri Tryz.prog 214 [.func (.yield l) #[] #[],.pointer (some ⟨bs,0,none⟩),.pointer (some ⟨bn,0,none⟩)]
   ((bs,cl [.slice (some ⟨kb,ko,none⟩) len cap] 50)::(bn,cl [.int .i64 (n:Int)] 3)::H0)
   (fun w=>Rd (((bs,cl [.slice (some ⟨kb,ko,none⟩) len cap] 50)::(bn,cl [.int .i64 (n:Int)] 3)::H0).map Prod.fst) w 1 (.slice (some ⟨kb,ko,none⟩) len cap) (cbs xs))
   (fun v H'=>v=.tuple #[]∧((∃ k,len≤n*k∧n*k<len+n∧J k H')∨Jx H')):=by
 refine Tri.mk Tryz.func214 rfl Tryz.ntmps214 rfl fun w hw=>?_
 have hlc:len≤cap:=hw.len1.2
 repeat' (first|(refine W.gb ?_;try intro b_)|fail)
 repeat' (first|(refine W.go ?_;try intro b_)|fail)
 refine SW.loopF [0,1,2] (fun s:Nat×Nat×Hp=>[(4,.int .i64 (s.1:Int))]) (fun s=>(bs,cl [.slice (some ⟨kb,ko,none⟩) len cap] 50)::(bn,cl [.int .i64 (n:Int)] 3)::s.2.2) (fun s=>len+n-s.1) (fun s=>s.1=n*s.2.1∧s.1<len+n∧J s.2.1 s.2.2) (0,0,H0) ⟨by simp,by simp;omega,h0⟩ ?_
 rintro⟨i,k,Hk⟩ ⟨hik,hil,hJ⟩
 dsimp only at hik hil hJ ⊢
 by_cases h:i<len
 ·have hci:i<cap:=by omega
  have hil':i≤len:=by omega
  repeat' (first|(refine W.go ?_;try intro b_)|fail)
  (refine SW.regionS [] ?_ (by kernel_rfl);(first|refine SS.ls 0 [] rfl ?_|refine SS.sR 0 rfl ?_);(first|refine SS.ls 1 [] rfl ?_|refine SS.sR 1 rfl ?_);refine SS.tw 2 rfl (p_move rfl rfl) ?_;refine SS.tw 3 rfl (p_sl10 rfl rfl rfl (by omega) (by omega) (by omega)) ?_;refine SS.tw 4 rfl (p_len_slice rfl rfl) ?_;refine SS.tw 5 rfl (p_min rfl rfl rfl rfl) ?_;refine SS.tw 6 rfl (p_assign rfl rfl) ?_;refine SS.done ?_ (by kernel_rfl))
  rw [show min (n:Int) ((len-i:Nat):Int)=((min n (len-i):Nat):Int) by omega]
  obtain⟨m,hm⟩:∃ m,min n (len-i)=m:=⟨_,rfl⟩
  have hm0:0<m:=by omega
  have hml:i+m≤len:=by omega
  rw [hm]
  refine SW.seq ?_
  refine SW.ofR (SR.regionI (SJ.cut 10 ?_))
  repeat' (first|(refine W.g1 ?_;try intro b_)|fail)
  refine SL.pu (p_sl3 (l:=i) (h:=i+m) (c:=ko+i) rfl rfl rfl rfl rfl rfl (by omega) (by omega) (by omega) (by omega) (by omega)) rfl rfl ?_
  refine SL.nil ?_
  have hY':=hY k Hk (by omega) hJ
  rw [← hik,hm] at hY'
  rw [show i+m-i=m by omega]
  refine SJ.yield Hk rfl rfl rfl rfl rfl hY' (fun w2 hs=>hw.ro (Hc:=Hk) hs) ?_
  rintro _ H' (⟨rfl,hJ'⟩|⟨rfl,hJx⟩)
  ·refine SJ.all ?_
   repeat' (first|(refine W.go ?_;try intro b_)|fail)
   rw [show (i:Int)+(n:Int)=((i+n:Nat):Int) by omega]
   refine HandF.mk (i+n,k+1,H') ?_
   exact⟨by dsimp only;rw [hik,Nat.mul_succ],by dsimp only;omega,hJ'⟩
  ·refine SJ.all ?_
   repeat' (first|(refine W.go ?_;try intro b_)|fail)
   refine Fin.to H' ?_
   exact F.f0 ⟨rfl,.inr hJx⟩
 ·repeat' (first|(refine W.go ?_;try intro b_)|fail)
  refine Fin.to Hk ?_
  exact F.f0 ⟨rfl,.inl ⟨k,by omega,by omega,hJ⟩⟩
theorem chunkb_p{kv:Value} [One kv]{n:Nat}(hn:0<n):Tri Tryz.prog 153 [kv,.int .i64 (n:Int)] [] (fun _=>True)
  (fun v H=>∃ bs bn,v=.func (.func 214) #[] #[.pointer (some ⟨bs,0,none⟩),.pointer (some ⟨bn,0,none⟩)]∧H=[(bs,cl [kv] 50),(bn,cl [.int .i64 (n:Int)] 3)]):=by
 refine Tri.mk Tryz.func153 rfl Tryz.ntmps153 rfl fun w hw=>?_
 repeat' (first|(refine W.go ?_;try intro b_)|fail)
 rename_i bs
 refine Fin.to [(bs,cl [kv] 50),(b_,cl [.int .i64 (n:Int)] 3)] ?_
 exact F.f1 ⟨bs,b_,rfl,rfl⟩
theorem bsZ:bfill (fun i=>some (i*1,1)) (zs [Value.int .u8 0] 2) [(0,.int .u8 0),(1,.int .u8 0)]=some (cbs [0,0]):=rfl
theorem bytesZ_p:Tri Tryz.prog 155 [.agg (pgC (.pl 0)).toArray] [] (fun _=>True) (fun v H=>Sl 5 1 v (cbs (List.replicate 16 0)) H):=by
 refine Tri.mk Tryz.func155 rfl Tryz.ntmps155 rfl fun w hw=>?_
 have hpl:=pgC_len (.pl 0)
 have hp1:=put_n 2 0 (by omega) (by omega)
 have hp2:=put_n 4 0 (by omega) (by omega)
 have hp3:=put_n 8 0 (by omega) (by omega)
 have hfl:[[0,0],leN 2 0,leN 4 0,leN 8 0].flatten=List.replicate 16 (0:UInt8):=by decide
 repeat' (first|(refine W.go ?_;try intro b_)|fail)
 (refine SW.regionS [] ?_ (by kernel_rfl);refine SS.tw 0 rfl (p_fieldAddr rfl rfl OfN.ok) ?_;(first|refine SS.ls 1 [] rfl ?_|refine SS.sR 1 rfl ?_);refine SS.tw 2 rfl (p_cv rfl rfl) ?_;refine SS.tw 3 rfl (p_fieldAddr rfl rfl OfN.ok) ?_;(first|refine SS.ls 4 [] rfl ?_|refine SS.sR 4 rfl ?_);refine SS.tw 5 rfl (p_cv rfl rfl) ?_;refine SS.tw 7 rfl (p_fieldAddr rfl rfl OfN.ok) ?_;(first|refine SS.ls 8 [] rfl ?_|refine SS.sR 8 rfl ?_);refine SS.tw 9 rfl (p_cv rfl rfl) ?_;refine SS.tw 11 rfl (p_fieldAddr rfl rfl OfN.ok) ?_;(first|refine SS.ls 12 [] rfl ?_|refine SS.sR 12 rfl ?_);refine SS.tw 13 rfl (p_cv rfl rfl) ?_;refine SS.tw 15 rfl (p_fieldAddr rfl rfl OfN.ok) ?_;(first|refine SS.ls 16 [] rfl ?_|refine SS.sR 16 rfl ?_);skip )
 repeat' (first
  | refine SS.twoK 6 10 ?_ ?_ rfl rfl (hok:=by decide +kernel)|refine SS.twoK 6 14 ?_ ?_ rfl rfl (hok:=by decide +kernel)|refine SS.twoK 6 17 ?_ ?_ rfl rfl (hok:=by decide +kernel)
  | refine SS.effK 6 ?_ rfl (by decide +kernel)|refine SS.effK 10 ?_ rfl (by decide +kernel)|refine SS.effK 14 ?_ rfl (by decide +kernel)|refine SS.effK 17 ?_ rfl (by decide +kernel)
  | (refine W.bsl (fun b1=>?_) (hr:=bsZ);refine SL.nilB ?_)
  | (refine W.callE hp1 rfl ?_;rintro _ _ ⟨b2,rfl,rfl⟩;refine SL.nilB ?_)
  | (refine W.callE hp2 rfl ?_;rintro _ _ ⟨b3,rfl,rfl⟩;refine SL.nilB ?_)
  | (refine W.callE hp3 rfl ?_;rintro _ _ ⟨b4,rfl,rfl⟩;refine SL.nilB ?_))
 all_goals
  refine SS.effK 18 ?_ rfl (by kernel_rfl)
  refine W.bsl (fun b5=>?_) (hr:=bs4 ..)
  (refine SL.nilB ?_;refine SS.effK 19 ?_ rfl (by kernel_rfl))
  refine W.call (Concat_p _ [[0,0],leN 2 0,leN 4 0,leN 8 0] (by rw [hfl];decide) (by simp only [List.length_cons,List.length_nil];omega)) ?_ (hpre:=fun w2 hs=>RdS.at (T:=50) (fz:=(0,0)) (Hc:=[]) hs rfl (Nat.le_refl _) rfl (four_at rfl (Rd.my (Hc:=[]) (T:=5) b1 _ hs rfl) (Rd.my (Hc:=[]) (T:=5) b2 _ hs (leN_len ..)) (Rd.my (Hc:=[]) (T:=5) b3 _ hs (leN_len ..)) (Rd.my (Hc:=[]) (T:=5) b4 _ hs (leN_len ..))))
  rw [hfl]
  intro v6 H6 h6
  have h61:=h6.isOne
  (refine SL.nilB ?_;refine SS.tw 20 rfl (p_assign rfl rfl) ?_;refine SS.done ?_ (by kernel_rfl))
  repeat' (first|(refine W.go ?_;try intro b_)|fail)
  refine Fin.to H6 ?_
  exact F.f1 h6
theorem F.ss{P:Program}{C:Ctx}{ρ:Fr}{H:Hp}{fn:Func}{R:Value→Hp→Prop}{e:Exit}{t u ty ty2 b b':Nat}{v v2:Value}{T T2:TypeId}(Hc:Hp){s:Hp} [hp:Part H Hc s](hR:R (.tuple #[v,v2]) Hc)(he:e=.ret∨e=.normal:=by first|exact .inl rfl|exact .inr rfl)(hrs:fn.results=#[.cell t ty,.cell u ty2]:=by exact rfl)(ht:lk ρ t=some (.pointer (some ⟨b,0,none⟩)):=by exact rfl)(hu:lk ρ u=some (.pointer (some ⟨b',0,none⟩)):=by exact rfl)(h1:At H b (cl [v] T):=by infer_instance)(h2:At H b' (cl [v2] T2):=by infer_instance)(i1:ScalarTy P ty:=by infer_instance)(i2:ScalarTy P ty2:=by infer_instance):Fin P C fn R e ρ H:=
 Fin.of he hp.perm hR fun a w hf hs=>by
  have e1:=run_load_s (P:=P) (w:=w) (t:=ty) (b:=b) (l:=[v]) (T:=T) (fz:=(0,0)) (i:=0) (v:=v) hs.at rfl
  have e2:=run_load_s (P:=P) (w:=w) (t:=ty2) (b:=b') (l:=[v2]) (T:=T2) (fz:=(0,0)) (i:=0) (v:=v2) hs.at rfl
  have g1:=tmps_getD hf ht
  have g2:=tmps_getD hf hu
  rw [Array.getD_eq_getD_getElem?] at g1 g2
  simp [results,hrs,g1,g2,asAddr,e1,e2]
theorem pParseZ_p(b o cap:Nat):Tri Tryz.prog 78 [.slice (some ⟨b,o,none⟩) 256 cap] [] (fun w=>Rd [] w 1 (.slice (some ⟨b,o,none⟩) 256 cap) (cbs (List.replicate 256 0))) (fun r H=>∃ v,r=.tuple #[v,.int .i64 0]∧Sl 185 5 v (pgsC (zpg 16)) H):=by
 refine Tri.mkX Tryz.func78 rfl Tryz.ntmps78 rfl fun w hw=>?_
 have hwo:One (Value.slice (some ⟨b,o,none⟩) 256 cap):=⟨rfl⟩
 refine SX.seqW (Fin.toEnd rfl) ?_
 repeat' (first|(refine W.go ?_;try intro b_)|fail)
 refine SX.seqW (Fin.toEnd rfl) ?_
 repeat' (first|(refine W.go ?_;try intro b_)|fail)
 refine SX.seqW (Fin.toEnd rfl) ?_
 repeat' (first|(refine W.go ?_;try intro b_)|fail)
 refine SX.seqR ?_
 refine SX.seqW (Q0:=fun _ _ _=>False) (fun e a w ⟨_,_,_,_,h⟩=>h.elim) ?_
 repeat' (first|(refine W.go ?_;try intro b_)|fail)
 rename_i b2 b3
 obtain⟨b4,hb4⟩:∃ b4,b4=b_:=⟨_,rfl⟩
 subst hb4
 refine W.call (chunkb_p (n:=16) (by decide)) ?_
 rintro _ _ ⟨bs,bn,rfl,rfl⟩
 refine SL.nil ?_
 refine SX.block ?_
 refine SX.fr [2,3,4,12] ?_
 refine SX.to [(bs,cl [.slice (some ⟨b,o,none⟩) 256 cap] 50),(bn,cl [.int .i64 (16:Nat)] 3),(b4,cl [.slice none 0 0] 89),(b2,cl [.slice none 0 0] 89),(b3,cl [.int .i64 0] 44)] ?_
 have hw':∀ D l o' w',St [] w ((l,o')::(D,.deferred (some []))::[(bs,cl [.slice (some ⟨b,o,none⟩) 256 cap] 50),(bn,cl [.int .i64 (16:Nat)] 3),(b4,cl [.slice none 0 0] 89),(b2,cl [.slice none 0 0] 89),(b3,cl [.int .i64 0] 44)]) w'→Rd [bs,bn,l,D,b4,b2,b3] w' 1 (.slice (some ⟨b,o,none⟩) 256 cap) (cbs (List.replicate 256 0)):=fun D l o' w' hs=>
  hw.ro (Hc:=[(bs,cl [.slice (some ⟨b,o,none⟩) 256 cap] 50),(bn,cl [.int .i64 (16:Nat)] 3),(l,o'),(D,.deferred (some [])),(b4,cl [.slice none 0 0] 89),(b2,cl [.slice none 0 0] 89),(b3,cl [.int .i64 0] 44)]) hs
 refine SX.range (caps:=[.pointer (some ⟨bs,0,none⟩),.pointer (some ⟨bn,0,none⟩)]) (Pre:=fun D l w'=>Rd [bs,bn,l,D,b4,b2,b3] w' 1 (.slice (some ⟨b,o,none⟩) 256 cap) (cbs (List.replicate 256 0)))
  (RR:=fun D l v H'=>∃ r wv Hs,r.state=.ready∧r.pending=none∧Sl 185 5 wv (pgsC (zpg 16)) Hs∧H'=(l,.loop r)::(D,.deferred (some []))::(b4,cl [wv] 89)::(b2,cl [.slice none 0 0] 89)::(b3,cl [.int .i64 0] 44)::Hs) rfl ?ht hw' ?hk
 case ht=>
  intro D l rec hr1 hr2 hr3 hr4 hr5 hfit
  refine Tri.perm' (Hd:=(bs,cl [.slice (some ⟨b,o,none⟩) 256 cap] 50)::(bn,cl [.int .i64 (16:Nat)] 3)::[(l,.loop rec),(D,.deferred (some [])),(b4,cl [.slice none 0 0] 89),(b2,cl [.slice none 0 0] 89),(b3,cl [.int .i64 0] 44)])
   ((chunk1b_p (n:=16) (List.replicate 256 0) (by decide) (by decide) (by omega) (fun k Hk=>∃ wv Hs,Sl 185 5 wv (pgsC (zpg k)) Hs∧Hk=(l,.loop rec)::(D,.deferred (some []))::(b4,cl [wv] 89)::(b2,cl [.slice none 0 0] 89)::(b3,cl [.int .i64 0] 44)::Hs) (fun _=>False) _ ⟨_,[],Sl.nil _ _,rfl⟩ ?_).mono ?_)
  ·rintro k Hk hk ⟨wv,Hs,hS,rfl⟩
   have hmin:min 16 (256-16*k)=16:=by omega
   rw [hmin]
   refine Rnd.mk hr3 hfit rfl fun w2 hw2=>?_
   rw [hr4,hr5]
   refine SR.region ?_
   repeat' (first|(refine W.g1 ?_;try intro b_)|fail)
   refine AsgEnd.mk hr1 ?_
   refine SR.block ?_
   have hr:=hw2.sub (16*k) (16*k+16) 16 (by omega) (by omega) (by omega)
   rw [show 16*k+16-16*k=16 by omega] at hr
   have hz:((List.replicate 256 (0:UInt8)).drop (16*k)).take 16=List.replicate 16 0:=by
    rw [List.drop_replicate,List.take_replicate,Nat.min_eq_left (by omega)]
   rw [hz] at hr
   have hS1:=hS.isOne
   have hbp:bfill (fun i=>[(0,1),(1,1),(2,1),(3,1),(4,1)][i]?) ([.int .i64 0]++[.int .i64 0]++[.int .i64 0]++[.int .i64 0]++[.int .u64 0]) [(0,.int .i64 0),(1,.int .i64 0),(2,.int .i64 0),(3,.int .i64 0),(4,.int .u64 0)]=some (pgC (.pl 0)):=rfl
   have hpl:=pgC_len (.pl 0)
   refine SR.seq ?_
   refine SR.region ?_
   repeat' (first|(refine W.g1 ?_;try intro b_)|fail)
   refine W.call (Of_p _ (List.replicate 16 0) (by decide)) ?_ (hpre:=fun w3 hs=>hr.ro (Hc:=[]) hs)
   rintro _ H0r ⟨rp,rfl,hR0⟩
   repeat' (first|(refine W.g1 ?_;try intro b_)|fail)
   refine SR.seq ?_
   refine SR.region ?_
   repeat' (first|(refine W.g1 ?_;try intro b_)|fail)
   refine SL.callv H0r rfl rfl rfl rfl rfl rfl (Num_p hR0 1 (by decide) (by decide) (by decide) (by decide)) (fun _ _=>trivial) ?_
   rintro _ H1r ⟨rfl,hR1⟩
   rw [show ((getN ((List.replicate 16 (0:UInt8)).take 1):Nat):Int)=0 from rfl]
   rw [show (List.replicate 16 (0:UInt8)).drop 1=List.replicate 15 0 from rfl] at hR1
   repeat' (first|(refine W.g1 ?_;try intro b_)|fail)
   refine SL.callv H1r rfl rfl rfl rfl rfl rfl (Num_p hR1 1 (by decide) (by decide) (by decide) (by decide)) (fun _ _=>trivial) ?_
   rintro _ H2r ⟨rfl,hR2⟩
   rw [show ((getN ((List.replicate 15 (0:UInt8)).take 1):Nat):Int)=0 from rfl]
   rw [show (List.replicate 15 (0:UInt8)).drop 1=List.replicate 14 0 from rfl] at hR2
   repeat' (first|(refine W.g1 ?_;try intro b_)|fail)
   refine SL.callv H2r rfl rfl rfl rfl rfl rfl (Num_p hR2 2 (by decide) (by decide) (by decide) (by decide)) (fun _ _=>trivial) ?_
   rintro _ H3r ⟨rfl,hR3⟩
   rw [show ((getN ((List.replicate 14 (0:UInt8)).take 2):Nat):Int)=0 from rfl]
   rw [show (List.replicate 14 (0:UInt8)).drop 2=List.replicate 12 0 from rfl] at hR3
   repeat' (first|(refine W.g1 ?_;try intro b_)|fail)
   refine SL.callv H3r rfl rfl rfl rfl rfl rfl (Num_p hR3 4 (by decide) (by decide) (by decide) (by decide)) (fun _ _=>trivial) ?_
   rintro _ H4r ⟨rfl,hR4⟩
   rw [show ((getN ((List.replicate 12 (0:UInt8)).take 4):Nat):Int)=0 from rfl]
   rw [show (List.replicate 12 (0:UInt8)).drop 4=List.replicate 8 0 from rfl] at hR4
   repeat' (first|(refine W.g1 ?_;try intro b_)|fail)
   refine SL.callv H4r rfl rfl rfl rfl rfl rfl (Num_p hR4 8 (by decide) (by decide) (by decide) (by decide)) (fun _ _=>trivial) ?_
   rintro _ H5r ⟨rfl,hR5⟩
   rw [show ((getN ((List.replicate 8 (0:UInt8)).take 8):Nat):Int)=0 from rfl]
   rw [show (List.replicate 8 (0:UInt8)).drop 8=List.replicate 0 0 from rfl] at hR5
   repeat' (first|(refine W.g1 ?_;try intro b_)|fail)
   refine SR.seq ?_
   refine SR.seq ?_
   refine SR.region ?_
   repeat' (first|(refine W.g1 ?_;try intro b_)|fail)
   refine W.call badZ_p ?_
   rintro _ _ ⟨rfl,rfl⟩
   repeat' (first|(refine W.g1 ?_;try intro b_)|fail)
   refine W.call bytesZ_p ?_
   intro v5 H5 h5
   have h51:=h5.isOne
   repeat' (first|(refine W.g1 ?_;try intro b_)|fail)
   refine W.call (Equal_p v5 (.slice (some ⟨b,o+16*k,none⟩) 16 16) (List.replicate 16 0) (List.replicate 16 0)) ?_ (hpre:=fun w3 hs=>⟨Rd.own (Hc:=[]) h5 hs inferInstance,hr.ro (Hc:=[]) hs⟩)
   rintro _ _ ⟨rfl,rfl⟩
   rw [decide_eq_true rfl]
   repeat' (first|(refine W.g1 ?_;try intro b_)|fail)
   refine SR.cond_b rfl (fun h=>by cases h) (fun _=>?_)
   refine SR.skip ?_
   refine SR.region ?_
   have hfl:(pgsC (zpg k)).length=k*5:=by
    rw [flatN_len (n:=5) fun x hx=>by obtain⟨y,-,rfl⟩:=List.mem_map.1 hx;exact pgC_len y,List.length_map,List.length_replicate]
   have hsc:pgsC (zpg k)++pgC (.pl 0)=pgsC (zpg (k+1)):=by
    rw [show zpg (k+1)=zpg k++[.pl 0] from List.replicate_succ' ..]
    show _=((zpg k++[Pg.pl 0]).map pgC).flatten
    rw [List.map_append,List.flatten_append]
    simp only [List.map_cons,List.map_nil,List.flatten_cons,List.flatten_nil,List.append_nil]
   have hb5:bfill (fun i=>some (i*5,5)) (zs [.int .i64 0,.int .i64 0,.int .i64 0,.int .i64 0,.int .u64 0] 1) [(0,.agg (pgC (.pl 0)).toArray)]=some (pgC (.pl 0)):=rfl
   repeat' (first|(refine W.g1 ?_;try intro b_)|fail)
   refine W.ap (ys:=pgC (.pl 0)) (mm:=1) hS (fun w2 hs=>(Sl.own 185 5 b_ (xs:=pgC (.pl 0)) rfl).srcAt hs inferInstance) (fun v3 H3 h3=>?_) (hys:=rfl) (hbytes:=by rw [hfl,hpl];omega)
   have h31:=h3.isOne
   rw [hsc] at h3
   repeat' (first|(refine W.g1 ?_;try intro b_)|fail)
   rw [List.set_cons_zero]
   refine RoundEnd.mkB ((D,.deferred (some []))::(b4,cl [v3] 89)::(b2,cl [.slice none 0 0] 89)::(b3,cl [.int .i64 0] 44)::H3) ?_
   rw [Loop.back hr1 hr2]
   exact .inl ⟨rfl,v3,H3,h3,rfl⟩
  ·rintro v H' ⟨rfl,(⟨k,hk1,hk2,wv,Hs,hS,rfl⟩|h)⟩
   ·have hkn:k=16:=by omega
    subst hkn
    exact⟨rec,wv,Hs,hr1,hr2,hS,rfl⟩
   ·exact h.elim
 case hk=>
  rintro D l v H' ⟨r,wv,Hs,hr1,hr2,hS,rfl⟩
  refine⟨r,_,.refl _,by rw [hr1];decide,?_⟩
  rw [hr2]
  refine RangeEnd.onB ?_
  show SX (RF none) _ ⟨46,[],w,mk1 D⟩ _ _ _ _
  refine SX.of (Q:=FinD Tryz.prog { n:=46,K:=[],w0:=w,ds:=mk1 D } D Tryz.f78 (fun r H=>∃ v,r=.tuple #[v,.int .i64 0]∧Sl 185 5 v (pgsC (zpg 16)) H)) ?_ (FinD.toEnd rfl)
  have hS1:=hS.isOne
  repeat' (first|(refine W.go ?_;try intro b_)|fail)
  rw [List.set_cons_zero,List.set_cons_zero]
  refine FinD.mk ?_
  refine Fin.to ((b2,cl [wv] 89)::(b3,cl [.int .i64 0] 44)::Hs) ?_
  exact F.ss Hs ⟨wv,rfl,hS⟩
end Go.Proofs.YtnigolgkkjidiaaGreat
namespace Go.Proofs.YtnigolgkkjidiaaGreat
open Go
attribute [local irreducible] SW SL SQ SH SA SS Pu Fin CutF HandF
abbrev z256:List UInt8:=List.replicate 256 0
theorem mParseZ_p{q c:Nat}{v0 v1:Value}{junk:List Value}{Ht:Hp}(hc:2+junk.length=c)(h0:RdH Ht v0 z256)(h1:RdH Ht v1 z256) :
  Tri Tryz.prog 28 [geoV 3 4,.slice (some ⟨q,0,none⟩) 2 c] ((q,cl (v0::v1::junk) 50)::Ht) (fun _=>True)
  (fun r H=>∃ pv,r=.tuple #[.agg (metaC 1 (List.replicate 16 0) pv).toArray,.int .i64 0]∧Sl 185 5 pv (pgsC (zpg 3)) H):=by
 refine Tri.mk Tryz.func28 rfl Tryz.ntmps28 rfl fun w hw=>?_
 have h01:=h0.one
 have h1':=h1
 obtain⟨a1,l1,c1,rfl,hl1,hc1,hcase⟩:=h1'
 rw [List.length_replicate] at hl1
 subst hl1
 obtain⟨b1,o1,lv1,T1,fz1,rfl,-,-⟩:=hcase.resolve_left (by decide)
 have hrl:root0.length=17:=rfl
 have hro:OC root0:=inferInstance
 have hcell:(v0::.slice (some ⟨b1,o1,none⟩) 256 c1::junk)[0]?=some v0:=rfl
 have hcell1:(v0::.slice (some ⟨b1,o1,none⟩) 256 c1::junk)[1]?=some (.slice (some ⟨b1,o1,none⟩) 256 c1):=rfl
 repeat' (first|(refine W.go ?_;try intro b_)|fail)
 refine W.call (gcheck_p ok34') ?_
 rintro _ _ ⟨rfl,rfl⟩
 repeat' (first|(refine W.go ?_;try intro b_)|fail)
 refine W.call gmaps34_p ?_
 rintro _ _ ⟨rfl,rfl⟩
 repeat' (first|(refine W.go ?_;try intro b_)|fail)
 refine W.call (hParseZ_p v0) ?_ (hpre:=fun w2 hs=>h0.rd (Hc:=[]) hs)
 rintro _ _ ⟨rfl,rfl⟩
 repeat' (first|(refine W.gb ?_;try intro b_)|fail)
 rename_i g m4
 refine SW.block ?_
 refine SW.loopF [2,4,6,38,39] (fun x:Nat×Value×Hp=>[(8,x.2.1),(40,.int .i64 x.1)]) (fun x=>(q,cl (v0::.slice (some ⟨b1,o1,none⟩) 256 c1::junk) 50)::(Ht++((g,cl (geoL 3 4) 23)::(m4,cl (List.replicate 17 (.int .u64 0)++[.slice none 0 0]) 91)::(b_,cl root0 88)::x.2.2))) (fun x=>1-x.1) (fun x=>x.1≤1∧Sl 185 5 x.2.1 (pgsC (zpg (16*x.1))) x.2.2) (0,.slice none 0 0,[]) ⟨by omega,Sl.nil _ _⟩ ?_
 rintro⟨i,sv,Hs⟩ ⟨hi,hS⟩
 dsimp only at hi hS ⊢
 have hS1:=hS.isOne
 by_cases hi1:i<1
 ·have hi0:i=0:=by omega
  subst hi0
  repeat' (first|(refine W.go ?_;try intro b_)|fail)
  refine W.call (pParseZ_p b1 o1 c1) ?_ (hpre:=fun w2 hs=>h1.rd (Hc:=[]) hs)
  rintro _ Hp ⟨pv,rfl,hP⟩
  have hP1:=hP.isOne
  obtain⟨pa,pl,pc,rfl,hpl⟩:=hP.form
  repeat' (first|(refine W.go ?_;try intro b_)|fail)
  refine W.ap hS (fun w2 hs=>hP.srcAt hs inferInstance) (fun v2 H2 h2=>?_) (hys:=hpl) (hbytes:=by decide)
  have h21:=h2.isOne
  repeat' (first|(refine W.go ?_;try intro b_)|fail)
  refine HandF.mk (1,v2,H2) ?_
  exact⟨Nat.le_refl _,h2⟩
 ·have hi0:i=1:=by omega
  subst hi0
  rcases hS with ⟨-,h,-⟩|⟨z,zl,zc,zj,rfl,hz1,hz2,hz3,rfl⟩
  ·cases h
  have hzl:zl=16:=by
   have:(pgsC (zpg (16*1))).length=80:=rfl
   omega
  subst hzl
  repeat' (first|(refine W.go ?_;try intro b_)|fail)
  have hbm:∀ (a3:Option Addr) (l3 c3:Nat),bfill (fun i=>[(0,17),(17,1)][i]?) (List.replicate 17 (.int .u64 0)++[.slice none 0 0]) [(0,.agg root0.toArray),(1,.slice a3 l3 c3)]=some (metaC 1 (List.replicate 16 0) (.slice a3 l3 c3)):=fun _ _ _=>rfl
  have hy3:((pgsC (zpg (16*1))++zj).drop 0).take (3*5)=pgsC (zpg 3):=rfl
  have hcl:=pclone_p (zpg 3) (by decide) z 0 3 zc
  (refine SW.regionS [8] ?_ (by kernel_rfl);(first|refine SS.lw 0 [8] rfl ?_|refine SS.la 0 [8] rfl ?_|refine SS.aR 0 rfl ?_);refine SS.tw 1 rfl (p_move rfl rfl) ?_;refine SS.tw 2 rfl (p_fieldAddr rfl rfl OfN.ok) ?_;(first|refine SS.ls 3 [8] rfl ?_|refine SS.sR 3 rfl ?_);refine SS.tw 4 rfl (p_sl01 rfl rfl rfl (by omega)) ?_;skip )
  refine SS.twoK 5 7 ?a ?b rfl rfl
  case' a=>
   refine W.call hcl ?_ (hpre:=fun w2 hs=>Rd.atH (T:=185) (fz:=(0,0)) (Hc:=[]) hs inferInstance hy3 rfl (by omega))
   intro v3 H3 h3
   have h31:=h3.isOne
   obtain⟨a3,l3,c3,rfl,hl3⟩:=h3.form
   have hbm3:=hbm a3 l3 c3
   refine SL.nilB ?_
   refine SS.T 6 rfl ?_
   refine SS.effK 7 ?_ rfl (by kernel_rfl)
   refine W.al fun bm=>?_
   refine SL.nilB ?_
  case' b=>
   refine W.al fun bm=>?_
   refine SL.nilB ?_
   refine SS.effK 5 ?_ rfl (by kernel_rfl)
   refine W.call hcl ?_ (hpre:=fun w2 hs=>Rd.atH (T:=185) (fz:=(0,0)) (Hc:=[]) hs inferInstance hy3 rfl (by omega))
   intro v3 H3 h3
   have h31:=h3.isOne
   obtain⟨a3,l3,c3,rfl,hl3⟩:=h3.form
   have hbm3:=hbm a3 l3 c3
   refine SL.nilB ?_
   refine SS.T 6 rfl ?_
  all_goals
   have hml:(metaC 1 (List.replicate 16 0) (.slice a3 l3 c3)).length=18:=rfl
   have hmo:OC (metaC 1 (List.replicate 16 0) (.slice a3 l3 c3)):=inferInstance
   refine SS.effB 8 ?_ rfl (by kernel_rfl)
   repeat' (first|(refine W.g1 ?_;try intro b_)|fail)
   refine SS.done ?_ (by kernel_rfl)
   repeat' (first|(refine W.go ?_;try intro b_)|fail)
   refine W.call (mMayZ_p (.slice a3 l3 c3)) ?_ (hpre:=fun w2 hs=>Rd.own (Hc:=[]) h3 hs inferInstance)
   rintro _ _ ⟨rfl,rfl⟩
   repeat' (first|(refine W.go ?_;try intro b_)|fail)
   refine W.call (pcont_p (g:=82) (fs:=[]) (cs:=[]) (Hc:=[]) (β:=fun p=>decide (p≠.pl 0)) (zpg 13) (fun p _=>other_p p) (by decide) _) ?_ (hpre:=fun w2 hs=>Rd.atH (T:=185) (fz:=(0,0)) (Hc:=[]) hs inferInstance (show ((pgsC (zpg (16*1))++zj).drop (0+3*5)).take (13*5)=pgsC (zpg 13) from rfl) rfl (by omega))
   rintro _ _ ⟨rfl,rfl⟩
   rw [show (zpg 13).any (fun p=>decide (p≠Pg.pl 0))=false from rfl]
   repeat' (first|(refine W.go ?_;try intro b_)|fail)
   exact F.ct H3 (metaC 1 (List.replicate 16 0) (.slice a3 l3 c3)) ⟨_,rfl,h3⟩
end Go.Proofs.YtnigolgkkjidiaaGreat
