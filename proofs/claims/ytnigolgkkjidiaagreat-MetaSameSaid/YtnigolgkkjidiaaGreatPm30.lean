/- A new store on a device that has power: the plain law. -/
import Derived.Test.YtnigolgkkjidiaaGreatPm28
import Derived.Test.YtnigolgkkjidiaaGreatPm27
set_option linter.unusedVariables false
set_option linter.unusedSimpArgs false
set_option linter.unusedSectionVars false
set_option maxHeartbeats 1000000
namespace Go.Proofs.YtnigolgkkjidiaaGreat
open Go
structure Dv.Sta(σ:Dv)(n:Nat)(M:List UInt8):Prop where
 l:σ.Live
 ok:∀ w∈σ.ws,w.Ok
 n:σ.ws.length=n
 m:nowB σ.ws=M
theorem Dv.Sta.ml{σ:Dv}{n:Nat}{M:List UInt8}(h:σ.Sta n M):M.length=8*n:=by rw [← h.m,nowB_len h.ok,h.n]
theorem Dv.Sta.len{σ:Dv}{n:Nat}{M:List UInt8}(h:σ.Sta n M):σ.len=8*n:=by unfold Dv.len;rw [h.n]
theorem Dv.Sta.store{σ:Dv}{n:Nat}{M:List UInt8}(h:σ.Sta n M){i:Nat}{bs:List UInt8}(hl:i+bs.length≤8*n):σ.actR i bs.length=0∧(σ.store i bs).Sta n (spl M i bs):=by
 obtain⟨h1,h2,h3⟩:=h.l.store (i:=i) (bs:=bs) (by rw [h.len];exact hl)
 refine⟨h3,h1,?_,?_,?_⟩
 ·rw [h2];exact modL_prop (fun j c w h=>Wd.ps_ok j c h) bs _ _ h.ok
 ·rw [h2,modL_len];exact h.n
 ·rw [h2,(put_eqs bs σ.ws i h.ok (by rw [h.n];exact hl)).1,h.m]
theorem Dv.Sta.flush{σ:Dv}{n:Nat}{M:List UInt8}(h:σ.Sta n M){i m:Nat}(hl:i+m≤8*n):σ.actR i m=0∧(σ.flush i m).Sta n M:=by
 obtain⟨h1,h2,h3⟩:=h.l.flush (i:=i) (n:=m) (by rw [h.len];exact hl)
 refine⟨h3,h1,?_,?_,?_⟩
 ·rw [h2];unfold flushW;split
  ·exact h.ok
  ·exact mapR_ok (fun w=>Wd.flushed_ok) _ _ h.ok
 ·rw [flush_wl];exact h.n
 ·rw [h2,(flushW_now _ _ _).1,h.m]
theorem Dv.Sta.fence{σ:Dv}{n:Nat}{M:List UInt8}(h:σ.Sta n M):(feS σ).1=0∧(feS σ).2.Sta n M:=by
 obtain⟨h1,h2,h3⟩:=h.l.fence
 refine⟨h3,h1,?_,?_,?_⟩
 ·show ∀ w∈σ.fence.ws,_
  rw [h2];intro w hw;obtain⟨u,hu,rfl⟩:=List.mem_map.1 hw;exact Wd.fenced_ok (h.ok u hu)
 ·show σ.fence.ws.length=_
  rw [fence_wl];exact h.n
 ·show nowB σ.fence.ws=_
  rw [h2,← h.m]
  unfold nowB
  rw [List.flatMap_map]
  congr 1;funext w;exact fenced_now w
theorem Dv.Sta.doo{σ:Dv}{n:Nat}{M:List UInt8}(h:σ.Sta n M):σ.dooE=0∧σ.doo.Sta n M:=by
 obtain⟨h1,h2,h3⟩:=h.l.act (4,0,0)
 have e:σ.doo=σ.act (4,0,0):=by unfold Dv.doo;rw [if_neg (by rw [h.l.d];decide)]
 have e2:σ.dooE=0:=by unfold Dv.dooE;rw [if_neg (by rw [h.l.d];decide)];exact h3
 rw [e,e2]
 exact⟨rfl,h1,by rw [h2];exact h.ok,by rw [h2];exact h.n,by rw [h2];exact h.m⟩
theorem DS.and_sta{a b:DS}{σ:Dv}{n:Nat}{M N:List UInt8}(ha:(a σ).1=0∧(a σ).2.Sta n M)(hb:∀ τ:Dv,τ.Sta n M→(b τ).1=0∧(b τ).2.Sta n N):((a.and b) σ).1=0∧((a.and b) σ).2.Sta n N:=by
 unfold DS.and
 rw [if_pos ha.1]
 exact hb _ ha.2
theorem Dv.Sta.put{σ:Dv}{n:Nat}{M:List UInt8}(h:σ.Sta n M){k:Nat}{bs:List UInt8}(hl:256*k+bs.length≤8*n):(putS k bs σ).1=0∧(putS k bs σ).2.Sta n (spl M (256*k) bs):=
 DS.and_sta (a:=stS (256*k) bs) (h.store (i:=256*k) hl) fun τ ht=>ht.flush (i:=256*k) (m:=bs.length) hl
theorem spl_spl(M:List UInt8)(i:Nat)(a b:List UInt8)(hl:i+a.length+b.length≤M.length):spl (spl M i a) (i+a.length) b=spl M i (a++b):=by
 unfold spl
 have e1:(M.take i).length=i:=by rw [List.length_take];omega
 have e2:(M.take i++a).length=i+a.length:=by rw [List.length_append,e1]
 rw [List.take_left' e2,List.length_append,show i+a.length+b.length=(M.take i++a).length+b.length by rw [e2],List.drop_append,List.drop_drop,e2,(List.drop_eq_nil_of_le (by omega):List.drop (i+a.length+b.length) (M.take i++a)=[])]
 rw [show i+a.length+(i+a.length+b.length-(i+a.length))=i+(a.length+b.length) by omega]
 simp only [List.append_assoc,List.nil_append]
theorem Dv.Sta.putL:∀ (l:List (List UInt8)) {σ:Dv} {n:Nat} {M:List UInt8} (h:σ.Sta n M) (k:Nat) (hb:∀ b∈l,b.length=256) (hl:256*(k+l.length)≤8*n),(putL (rowL k l) σ).1=0∧(putL (rowL k l) σ).2.Sta n (spl M (256*k) l.flatten)
 | [],σ,n,M,h,k,hb,hl=>by
  refine⟨rfl,?_⟩
  show σ.Sta n _
  have:spl M (256*k) ([]:List (List UInt8)).flatten=M:=by unfold spl;simp
  rw [this]
  exact h
 | b::l,σ,n,M,h,k,hb,hl=>by
  have hb0:=hb b (by simp)
  simp only [List.length_cons] at hl
  have hrow:rowL k (b::l)=(k,b)::rowL (k+1) l:=by
   unfold rowL
   rw [List.mapIdx_cons]
   congr 1
   apply List.mapIdx_eq_mapIdx_iff.2 ?_
   intro i hi
   rw [show k+(i+1)=k+1+i by omega]
  rw [hrow]
  refine DS.and_sta (a:=putS k b) (h.put (k:=k) (bs:=b) (by omega)) fun τ ht=>?_
  have:=Dv.Sta.putL l ht (k+1) (fun x hx=>hb x (by simp [hx])) (by omega)
  have hfl:l.flatten.length=256*l.length:=by
   clear this ht hrow hl h
   induction l with
   | nil=>rfl
   | cons x r ih=>
    rw [List.flatten_cons,List.length_append,hb x (by simp),ih (fun y hy=>hb y (by
     rcases List.mem_cons.1 hy with rfl|hy
     ·simp
     ·simp [hy])),List.length_cons]
    omega
  have e:=spl_spl M (256*k) b l.flatten (by rw [h.ml,hfl,hb0];omega)
  rw [hb0,show 256*k+256=256*(k+1) by omega] at e
  rw [e] at this
  exact this
theorem bump_sta{σ:Dv}{r:Rg}{n:Nat}{M:List UInt8}(h:σ.Sta n M)(x:Rg)(hx:r.c<x.c):∃ σ',(regS x) (σ,r)=(0,(σ',x))∧σ'.Sta n M:=by
 obtain⟨h1,h2⟩:=h.doo
 refine⟨σ.doo,?_,h2⟩
 unfold regS setE setD setR
 simp only [h.l.d,Bool.false_eq_true,if_false,h1,if_true]
 rw [if_neg (by omega),if_neg (by omega),if_neg (by omega)]
theorem fmt_sta{p t:Nat}{σ:Dv}{r:Rg}{X:UInt64→Nat→List UInt8→List UInt8}{n:Nat}{M:List UInt8}(h:σ.Sta n M)(hn:8*n=256*(Gm.leaves p+(1+t)))(hc:r.c≤18446744073709551613)
  (h256:∀ b∈blanks p t X (UInt64.ofNat (r.c+2).toNat),b.length=256) (hbl:(blanks p t X (UInt64.ofNat (r.c+2).toNat)).length=Gm.leaves p) :
  ∃ σ',fmtS p t X (σ,r)=(0,(σ',{ c:=r.c+2,root:=rootB (blanks p t X (UInt64.ofNat (r.c+2).toNat)) }))∧σ'.Sta n ((blanks p t X (UInt64.ofNat (r.c+2).toNat)).flatten++List.replicate (256*(1+t)) 0):=by
 unfold fmtS
 rw [if_neg (by show ¬ _<r.c;omega)]
 generalize blanks p t X (UInt64.ofNat (r.c+2).toNat)=B at *
 obtain⟨σ1,e1,h1⟩:=bump_sta h { r with c:=r.c+1 } (by show r.c<r.c+1;omega)
 rw [TS.and_eq (show bumpS (σ,r)=(0,(σ1,{ r with c:=r.c+1 })) from e1)]
 have hfl:B.flatten.length=256*B.length:=by
  clear hbl
  induction B with
  | nil=>rfl
  | cons x r ih=>rw [List.flatten_cons,List.length_append,h256 x (by simp),ih (fun y hy=>h256 y (by simp [hy])),List.length_cons];omega
 have hM:=h.ml
 have hD:(wholeS p t B σ1).1=0∧(wholeS p t B σ1).2.Sta n (spl (spl M (256*0) B.flatten) (256*Gm.leaves p) (List.replicate (256*(1+t)) 0)):=by
  refine DS.and_sta (DS.and_sta (Dv.Sta.putL B h1 0 h256 (by rw [hbl];omega)) fun τ ht=>ht.fence) fun τ ht=>?_
  refine DS.and_sta (a:=putS (Gm.leaves p) (List.replicate (256*(1+t)) 0)) (ht.put (by rw [List.length_replicate];omega)) fun τ' ht'=>ht'.fence
 have es:spl (spl M (256*0) B.flatten) (256*Gm.leaves p) (List.replicate (256*(1+t)) 0)=B.flatten++List.replicate (256*(1+t)) 0:=by
  rw [show 256*Gm.leaves p=256*0+B.flatten.length by rw [hfl,hbl];omega,spl_spl _ _ _ _ (by rw [hfl,hbl,List.length_replicate];omega)]
  unfold spl
  rw [show 256*0=0 from rfl,List.take_zero,List.nil_append,List.drop_eq_nil_of_le (by rw [List.length_append,hfl,hbl,List.length_replicate];omega),List.append_nil]
 rw [es] at hD
 obtain⟨e2,h2⟩:=hD
 rw [TS.and_eq (y:=((wholeS p t B σ1).2,{ r with c:=r.c+1 })) (by unfold DS.t;dsimp only;rw [e2])]
 obtain⟨σ3,e3,h3⟩:=bump_sta (r:={ r with c:=r.c+1 }) h2 { c:=r.c+2,root:=rootB B } (by show r.c+1<r.c+2;omega)
 refine⟨σ3,?_,h3⟩
 show regS ⟨r.c+1+1,rootB B⟩ ((wholeS p t B σ1).2,{ r with c:=r.c+1 })=_
 rw [show r.c+1+1=r.c+2 by omega]
 exact e3
theorem flat_at{l:List (List UInt8)}(hl:∀ b∈l,b.length=256)(R:List UInt8):∀ {k:Nat} {b:List UInt8},l[k]?=some b→((l.flatten++R).drop (256*k)).take 256=b:=by
 induction l with
 | nil=>intro k b h;simp at h
 | cons x r ih=>
  intro k b h
  have hx:=hl x (by simp)
  cases k with
  | zero=>
   simp at h;subst h
   rw [Nat.mul_zero,List.drop_zero,List.flatten_cons,List.append_assoc,List.take_left' hx]
  | succ k=>
   rw [List.flatten_cons,List.append_assoc,show 256*(k+1)=x.length+256*k by rw [hx];omega,List.drop_append,← ih (fun y hy=>hl y (by simp [hy])) h,(List.drop_eq_nil_of_le (by omega):List.drop (x.length+256*k) x=[]),List.nil_append,Nat.add_sub_cancel_left]
theorem Dv.Sta.blk{σ:Dv}{n:Nat}{B:List (List UInt8)}{R:List UInt8}(h:σ.Sta n (B.flatten++R))(hB:∀ b∈B,b.length=256){k:Nat}{b:List UInt8}(hk:B[k]?=some b)(hl:256*(k+1)≤8*n):σ.blk k=b:=by
 unfold Dv.blk Dv.loadB
 rw [if_pos (h.l.rdy (by omega) (by omega) (by rw [h.len];omega)),h.m,Int.toNat_natCast]
 exact flat_at hB R hk
theorem Dv.Sta.blks{σ:Dv}{n:Nat}{B:List (List UInt8)}{R:List UInt8}(h:σ.Sta n (B.flatten++R))(hB:∀ b∈B,b.length=256)(hl:256*B.length≤8*n):σ.blks 0 B.length=B:=by
 unfold Dv.blks
 apply List.ext_getElem?
 intro i
 rw [List.getElem?_map]
 by_cases hi:i<B.length
 ·rw [List.getElem?_range hi,Option.map_some,List.getElem?_eq_getElem hi,Nat.zero_add]
  exact congrArg some (h.blk hB (List.getElem?_eq_getElem hi) (by omega))
 ·rw [List.getElem?_eq_none (l:=List.range B.length) (by rw [List.length_range];omega),List.getElem?_eq_none (l:=B) (by omega)];rfl
theorem new_sta(n:Nat)(hn:n≤1024):(Dv.new (n:Int)).Sta (8*n) (List.replicate (64*n) 0):=by
 have e:(8*min (max (n:Int) 0) 1024).toNat=8*n:=by omega
 refine⟨⟨rfl,rfl⟩,(Dv.new_ok _).ok,by unfold Dv.new;rw [e,List.length_replicate],?_⟩
 unfold Dv.new nowB
 rw [e]
 show (List.replicate (8*n) Wd.zero).flatMap Wd.now=_
 have:∀ m,(List.replicate m Wd.zero).flatMap Wd.now=List.replicate (8*m) 0:=fun m=>by
  induction m with
  | zero=>rfl
  | succ m ih=>rw [List.replicate_succ,List.flatMap_cons,ih,show 8*(m+1)=8+8*m by omega,← List.replicate_append_replicate];rfl
 rw [this,show 8*(8*n)=64*n by omega]
end Go.Proofs.YtnigolgkkjidiaaGreat
namespace Go.Proofs.YtnigolgkkjidiaaGreat
open Go
section
variable {P:Program}{C:Ctx}{ρ:Fr}{H:Hp}{t t' len:Nat}{x y:Operand}{a b:List UInt8}{o:Oper}
theorem p_eqA_f(ho:o.op=.binOp .eql t x y t')(hx:ev ρ x=some (.agg (cbs a).toArray))(hy:ev ρ y=some (.agg (cbs b).toArray)) [h:EqB P t len](h1:a.length=len)(h2:b.length=len)(he:¬ a=b):Pu P C ρ H o (.bool false):=by
 have:=p_eqA (P:=P) (C:=C) (H:=H) ho hx hy h1 h2
 rwa [decide_eq_false he] at this
theorem p_neA_t(ho:o.op=.binOp .neq t x y t')(hx:ev ρ x=some (.agg (cbs a).toArray))(hy:ev ρ y=some (.agg (cbs b).toArray)) [h:EqB P t len](h1:a.length=len)(h2:b.length=len)(he:¬ a=b):Pu P C ρ H o (.bool true):=fun ac w hf _=>by
 unfold execOp;rw [ho];simp [hf.eval hx,hf.eval hy,run_eqGuard_agg _ _ _ _ _ _ _ h.guard,binOp,EqB.eq w a b h1 h2,he]
end
attribute [local irreducible] SW SL SQ SH SA SS Pu Fin CutF HandF
theorem Dv.blks_len(σ:Dv)(a n:Nat):(σ.blks a n).length=n:=by unfold Dv.blks;simp
theorem Dv.blks_succ(σ:Dv)(a n:Nat):σ.blks a (n+1)=σ.blks a n++[σ.blk (a+n)]:=by unfold Dv.blks;rw [List.range_succ,List.map_append];rfl
end Go.Proofs.YtnigolgkkjidiaaGreat
