/- What stands on a device: the document's. -/
import Derived.Test.YtnigolgkkjidiaaGreatPm32
import Derived.Test.YtnigolgkkjidiaaGreatPm33
import Derived.Test.YtnigolgkkjidiaaGreatPm34
set_option linter.unusedVariables false
set_option linter.unusedSimpArgs false
set_option linter.unusedSectionVars false
set_option maxHeartbeats 4000000
namespace Go.Proofs.YtnigolgkkjidiaaGreat
open Go
attribute [local irreducible] SW SL SQ SH SA SS Pu Fin CutF HandF
theorem mayL_rise{p:Nat}:∀ {l:List Ent} {last:Int},mayL p last l=true→∀ (k:Nat) (x y:Ent),l[k]?=some x→l[k+1]?=some y→x.1<y.1
 | [],_,_,k,x,y,h,_=>by simp at h
 | z::l,last,hm,k,x,y,hx,hy=>by
  rw [mayL_drop,Bool.and_eq_true] at hm
  cases k with
  | zero=>cases hx;exact (mayL_all hm.2 0 y hy).1
  | succ k=>exact mayL_rise hm.2 k x y hx hy
theorem tabs_last{p:Nat}{l:List Ent}(hm:mayL p (-1) l=true):∀ k,k≤l.length→(k=0∧tabs (l.take k)=[])∨∃ x,l[k-1]?=some x∧0<k∧(tabs (l.take k)).getLast?=some (x.1.toNat/32)∧∀ q∈tabs (l.take k),q≤x.1.toNat/32:=by
 intro k
 induction k with
 | zero=>intro _;exact .inl ⟨rfl,rfl⟩
 | succ k ih=>
  intro hk
  have hx:=List.getElem?_eq_getElem (show k<l.length by omega)
  have hts:tabs (l.take (k+1))=addT (tabs (l.take k)) l[k]:=by rw [List.take_add_one,hx,← tabs_snoc];rfl
  refine .inr ⟨l[k],hx,by omega,?_⟩
  rw [hts]
  rcases ih (by omega) with ⟨h0,h1⟩|⟨y,hy,h0,h1,h2⟩
  ·rw [h1]
   unfold addT
   simp
  ·have hr:=mayL_rise hm (k-1) y l[k] hy (by rw [show k-1+1=k by omega];exact hx)
   have hle:y.1.toNat/32≤l[k].1.toNat/32:=Nat.div_le_div_right (by omega)
   unfold addT
   split
   ·rename_i hin
    have:=h2 _ hin
    exact⟨by rw [h1];congr 1;omega,fun q hq=>Nat.le_trans (h2 q hq) hle⟩
   ·refine⟨by simp,fun q hq=>?_⟩
    rcases List.mem_append.1 hq with h|h
    ·exact Nat.le_trans (h2 q h) hle
    ·rw [List.mem_singleton] at h;omega
theorem rTables_p{p:Nat}(v:Value)(us:List Value)(l:List Ent)(hul:us.length=l.length)(hoc:OC us)(hm:mayL p (-1) l=true)(hs:Gm.sealed p≤1000)(hn:l.length≤1000) :
  Tri Tryz.prog 258 [v] [] (fun w=>Rd [] w 2 v (entsC us l)) (fun r H=>Sl 3 1 r (nv (tabs l)) H):=by
 refine Tri.mk Tryz.func258 rfl Tryz.ntmps258 rfl fun w hw=>?_
 unfold entsC at hw
 obtain⟨a,ca,rfl,hcap,hg⟩:=hw.rows (by decide) (zip_rows us l)
 have hzl:(List.zipWith (fun u (x:Ent)=>[Value.int .i64 x.1,u]) us l).length=l.length:=by rw [List.length_zipWith,hul,Nat.min_self]
 rw [hzl] at hcap ⊢
 have hY:One (Value.slice a l.length ca):=⟨rfl⟩
 repeat' (first|(refine W.gb ?_;try intro b_)|fail)
 refine SW.cutH [] [] (fun x:Value×Hp=>[(3,x.1)]) (fun x=>x.2) (fun x=>Sl 3 1 x.1 (nv (tabs l)) x.2) ?_ ?_
 ·repeat' (first|(refine W.go ?_;try intro b_)|fail)
  refine SW.loopF [6,7] (fun x:Nat×Value×Hp=>[(3,x.2.1),(8,.int .i64 (x.1:Int))]) (fun x=>x.2.2) (fun x=>l.length-x.1) (fun x=>x.1≤l.length∧Sl 3 1 x.2.1 (nv (tabs (l.take x.1))) x.2.2) (0,.slice none 0 0,[]) ⟨Nat.zero_le _,Sl.nil _ _⟩ ?_
  rintro⟨k,v2,H2⟩ ⟨hk,h2⟩
  dsimp only at hk h2 ⊢
  have h21:=h2.isOne
  by_cases hkn:k<l.length
  ·have hx:=List.getElem?_eq_getElem hkn
   have hz:(List.zipWith (fun u (x:Ent)=>[Value.int .i64 x.1,u]) us l)[k]?=some [.int .i64 l[k].1,us[k]]:=by rw [List.getElem?_zipWith,hx,List.getElem?_eq_getElem (show k<us.length by omega)]
   obtain⟨pb,po,lv,T,fz,rfl,hb,hkK,hv⟩:=hg k _ hz
   have hts:tabs (l.take (k+1))=addT (tabs (l.take k)) l[k]:=by rw [List.take_add_one,hx,← tabs_snoc];rfl
   have htl:(tabs (l.take k)).length≤k:=by have:=tabs_le (l.take k);rw [List.length_take] at this;omega
   have hla:=tabs_last hm k hk
   have hmk:=mayL_all hm k _ hx
   have hri:=fun y hy (h0:0<k)=>mayL_rise hm (k-1) y l[k] hy (by rw [show k-1+1=k by omega];exact hx)
   have hou:One us[k]:=⟨hoc.ok _ (List.getElem_mem _)⟩
   generalize us[k]=u at *
   generalize l[k]=x at *
   generalize tabs (l.take k)=o at *
   generalize hO2:tabs (l.take (k+1))=o2 at *
   obtain⟨K,hKK⟩:∃ K:Nat,x.1=(K:Int):=⟨x.1.toNat,by omega⟩
   rw [hKK] at hv
   have hdv:((K:Int)/32)=((K/32:Nat):Int):=rfl
   unfold addT at hts
   rw [show x.1.toNat=K by omega] at hts
   have hb31:bfill (fun i=>some (i*1,1)) (zs [.int .i64 0] 1) [(0,.int .i64 ((K/32:Nat):Int))]=some (nv [K/32]):=rfl
   have hS0:=h2
   rcases hla with ⟨h0,rfl⟩|⟨y,hy,h0,h1,h3⟩
   ·rw [if_neg (by simp)] at hts
    rcases h2 with ⟨rfl,-,rfl⟩|⟨qb,qlen,qcap,qjunk,rfl,hqx,hqj,hqc,rfl⟩
    ·repeat' (first|(refine W.go ?_;try intro b_)|fail)
     (refine SW.regionS [] ?_ (by kernel_rfl);refine SS.T 0 rfl ?_;refine SS.T 1 rfl ?_;refine SS.T 2 rfl ?_;refine SS.T 3 rfl ?_;(first|refine SS.sk 4 rfl ?_|refine SS.T 4 rfl ?_);(first|refine SS.sk 5 rfl ?_|refine SS.T 5 rfl ?_);(first|refine SS.sk 6 rfl ?_|refine SS.T 6 rfl ?_);(first|refine SS.sk 7 rfl ?_|refine SS.T 7 rfl ?_);(first|refine SS.sk 8 rfl ?_|refine SS.T 8 rfl ?_);(first|refine SS.sk 9 rfl ?_|refine SS.ls 9 [] rfl ?_|refine SS.sR 9 rfl ?_);(first|refine SS.sk 10 rfl ?_|refine SS.T 10 rfl ?_);(first|refine SS.sk 11 rfl ?_|refine SS.ls 11 [] rfl ?_|refine SS.sR 11 rfl ?_);(first|refine SS.sk 12 rfl ?_|refine SS.T 12 rfl ?_);(first|refine SS.sk 13 rfl ?_|refine SS.T 13 rfl ?_);refine SS.T 14 rfl ?_;refine SS.done ?_ (by kernel_rfl))
     repeat' (first|(refine W.go ?_;try intro b_)|fail)
     refine W.ap hS0 (ys:=nv [K/32]) (mm:=1) (fun w2 hs=>(Sl.own 3 1 b_ (xs:=nv [K/32]) rfl).srcAt hs inferInstance) (fun v3 H3 h33=>?_) (hys:=rfl) (hbytes:=by simp;try omega)
     have h331:=h33.isOne
     rw [← List.map_append,← hts] at h33
     repeat' (first|(refine W.go ?_;try intro b_)|fail)
     refine HandF.mk (k+1,v3,H3) ?_
     exact⟨hkn,by dsimp only;rw [hO2];exact h33⟩
    ·obtain rfl:qlen=0:=by simp at hqx;omega
     repeat' (first|(refine W.go ?_;try intro b_)|fail)
     (refine SW.regionS [] ?_ (by kernel_rfl);refine SS.T 0 rfl ?_;refine SS.T 1 rfl ?_;refine SS.T 2 rfl ?_;refine SS.T 3 rfl ?_;(first|refine SS.sk 4 rfl ?_|refine SS.T 4 rfl ?_);(first|refine SS.sk 5 rfl ?_|refine SS.T 5 rfl ?_);(first|refine SS.sk 6 rfl ?_|refine SS.T 6 rfl ?_);(first|refine SS.sk 7 rfl ?_|refine SS.T 7 rfl ?_);(first|refine SS.sk 8 rfl ?_|refine SS.T 8 rfl ?_);(first|refine SS.sk 9 rfl ?_|refine SS.ls 9 [] rfl ?_|refine SS.sR 9 rfl ?_);(first|refine SS.sk 10 rfl ?_|refine SS.T 10 rfl ?_);(first|refine SS.sk 11 rfl ?_|refine SS.ls 11 [] rfl ?_|refine SS.sR 11 rfl ?_);(first|refine SS.sk 12 rfl ?_|refine SS.T 12 rfl ?_);(first|refine SS.sk 13 rfl ?_|refine SS.T 13 rfl ?_);refine SS.T 14 rfl ?_;refine SS.done ?_ (by kernel_rfl))
     repeat' (first|(refine W.go ?_;try intro b_)|fail)
     refine W.ap hS0 (ys:=nv [K/32]) (mm:=1) (fun w2 hs=>(Sl.own 3 1 b_ (xs:=nv [K/32]) rfl).srcAt hs inferInstance) (fun v3 H3 h33=>?_) (hys:=rfl) (hbytes:=by simp;try omega)
     have h331:=h33.isOne
     rw [← List.map_append,← hts] at h33
     repeat' (first|(refine W.go ?_;try intro b_)|fail)
     refine HandF.mk (k+1,v3,H3) ?_
     exact⟨hkn,by dsimp only;rw [hO2];exact h33⟩
   ·rcases h2 with ⟨rfl,hz2,rfl⟩|⟨qb,qlen,qcap,qjunk,rfl,hqx,hqj,hqc,rfl⟩
    ·have:o=[]:=by simpa using hz2
     rw [this] at h1;simp at h1
    have hol:qlen=o.length:=by rw [List.length_map] at hqx;omega
    subst hol
    have hmo:=List.mem_of_getLast? h1
    have hol1:0<o.length:=List.length_pos_of_mem hmo
    rw [List.getLast?_eq_getElem?] at h1
    have hyx:=hri y hy h0
    have hyK:y.1.toNat/32≤K/32:=Nat.div_le_div_right (by omega)
    have hlast:(nv o++qjunk)[o.length-1]?=some (.int .i64 ((y.1.toNat/32:Nat):Int)):=by
     rw [List.getElem?_append_left (by rw [List.length_map];omega),List.getElem?_map,h1];rfl
    generalize y.1.toNat/32=m at *
    haveI:NatI ((o.length:Int)-1) (o.length-1):=⟨by omega⟩
    by_cases hin:K/32∈o
    ·rw [if_pos hin] at hts
     have hmK:m=K/32:=by have:=h3 _ hin;omega
     subst hts
     repeat' (first|(refine W.go ?_;try intro b_)|fail)
     (refine SW.regionS [] ?_ (by kernel_rfl);refine SS.T 0 rfl ?_;refine SS.T 1 rfl ?_;refine SS.T 2 rfl ?_;refine SS.T 3 rfl ?_;(first|refine SS.sk 4 rfl ?_|refine SS.T 4 rfl ?_);(first|refine SS.sk 5 rfl ?_|refine SS.T 5 rfl ?_);(first|refine SS.sk 6 rfl ?_|refine SS.T 6 rfl ?_);(first|refine SS.sk 7 rfl ?_|refine SS.T 7 rfl ?_);(first|refine SS.sk 8 rfl ?_|refine SS.T 8 rfl ?_);(first|refine SS.sk 9 rfl ?_|refine SS.ls 9 [] rfl ?_|refine SS.sR 9 rfl ?_);(first|refine SS.sk 10 rfl ?_|refine SS.T 10 rfl ?_);(first|refine SS.sk 11 rfl ?_|refine SS.ls 11 [] rfl ?_|refine SS.sR 11 rfl ?_);(first|refine SS.sk 12 rfl ?_|refine SS.T 12 rfl ?_);(first|refine SS.sk 13 rfl ?_|refine SS.T 13 rfl ?_);refine SS.T 14 rfl ?_;refine SS.done ?_ (by kernel_rfl))
     repeat' (first|(refine W.go ?_;try intro b_)|fail)
     refine HandF.mk (k+1,.slice (some ⟨qb,0,none⟩) o2.length qcap,[(qb,cl (nv o2++qjunk) 3)]) ?_
     exact⟨hkn,by dsimp only;rw [hO2];exact hS0⟩
    ·rw [if_neg hin] at hts
     have hmK:¬ m=K/32:=fun h=>hin (h▸hmo)
     repeat' (first|(refine W.go ?_;try intro b_)|fail)
     (refine SW.regionS [] ?_ (by kernel_rfl);refine SS.T 0 rfl ?_;refine SS.T 1 rfl ?_;refine SS.T 2 rfl ?_;refine SS.T 3 rfl ?_;(first|refine SS.sk 4 rfl ?_|refine SS.T 4 rfl ?_);(first|refine SS.sk 5 rfl ?_|refine SS.T 5 rfl ?_);(first|refine SS.sk 6 rfl ?_|refine SS.T 6 rfl ?_);(first|refine SS.sk 7 rfl ?_|refine SS.T 7 rfl ?_);(first|refine SS.sk 8 rfl ?_|refine SS.T 8 rfl ?_);(first|refine SS.sk 9 rfl ?_|refine SS.ls 9 [] rfl ?_|refine SS.sR 9 rfl ?_);(first|refine SS.sk 10 rfl ?_|refine SS.T 10 rfl ?_);(first|refine SS.sk 11 rfl ?_|refine SS.ls 11 [] rfl ?_|refine SS.sR 11 rfl ?_);(first|refine SS.sk 12 rfl ?_|refine SS.T 12 rfl ?_);(first|refine SS.sk 13 rfl ?_|refine SS.T 13 rfl ?_);refine SS.T 14 rfl ?_;refine SS.done ?_ (by kernel_rfl))
     repeat' (first|(refine W.go ?_;try intro b_)|fail)
     refine W.ap hS0 (ys:=nv [K/32]) (mm:=1) (fun w2 hs=>(Sl.own 3 1 b_ (xs:=nv [K/32]) rfl).srcAt hs inferInstance) (fun v3 H3 h33=>?_) (hys:=rfl) (hbytes:=by simp;try omega)
     have h331:=h33.isOne
     rw [← List.map_append,← hts] at h33
     repeat' (first|(refine W.go ?_;try intro b_)|fail)
     refine HandF.mk (k+1,v3,H3) ?_
     exact⟨hkn,by dsimp only;rw [hO2];exact h33⟩
  ·have hkl:k=l.length:=by omega
   rw [hkl,List.take_length] at h2
   subst hkl
   repeat' (first|(refine W.go ?_;try intro b_)|fail)
   refine CutF.mk (v2,H2) ?_
   exact h2
 rintro⟨v2,H2⟩ h2
 dsimp only at h2 ⊢
 have h21:=h2.isOne
 repeat' (first|(refine W.go ?_;try intro b_)|fail)
 refine Fin.to H2 ?_
 exact F.f1 h2
end Go.Proofs.YtnigolgkkjidiaaGreat
namespace Go.Proofs.YtnigolgkkjidiaaGreat
open Go
section
variable {P:Program}{C:Ctx}{ρ:Fr}{H:Hp}{o:Oper}
theorem p_eqstU{t t':TypeId}{x y:Operand}{a c:List UInt8}(ho:o.op=.binOp .eql t x y t')(hx:ev ρ x=some (.string (strV a)))(hy:ev ρ y=some (.string (strV c))):Pu P C ρ H o (.bool (decide (a=c))):=by
 have:=p_eqst (P:=P) (C:=C) (H:=H) ho hx hy
 rw [strV_eq] at this
 exact this
end
attribute [local irreducible] SW SL SQ SH SA SS Pu Fin CutF HandF
instance arrEq:EqB Tryz.prog 118 32 where
 guard:=by kernel_rfl
 row:=inferInstance
 ok:=⟨_,Tryz.underlying118,Tryz.underlying5,by kernel_rfl,inferInstance⟩
theorem rblocks_p{d tr sp p t:Nat}(h:Gm.Ok p t){σ:Dv}{Hd:Hp}(hD:DevR d σ Hd)(hlen:σ.len=256*Gm.total p t)(from_ n:Nat)(hn:from_+n≤Gm.total p t) :
  Tri Tryz.prog 255 [rbaseV d tr sp p t,.int .i64 (from_:Int),.int .i64 (n:Int)] Hd (fun _=>True)
  (fun v H=>∃ v1 Hb,v=.tuple #[v1,.int .i64 (ldS σ from_ n).1]∧Bls v1 (ldS σ from_ n).2 Hb∧H=Hd++Hb):=by
 refine Tri.mk Tryz.func255 rfl Tryz.ntmps255 rfl fun w hw=>?_
 have htl:=Gm.total_le2 h
 unfold ldS
 generalize Gm.total p t=m at *
 repeat' (first|(refine W.gb ?_;try intro b_)|fail)
 refine SW.cutH [] [] (fun x:Value×Hp=>[(8,x.1)]) (fun x=>x.2) (fun x=>(n=0∨σ.down=false)∧Bls x.1 (σ.blks from_ n) x.2) ?_ ?_
 ·repeat' (first|(refine W.go ?_;try intro b_)|fail)
  refine SW.loopF [1,2,3] (fun x:Nat×Value×List Value×Hp×Hp=>[(8,x.2.1),(9,.int .i64 (x.1:Int))]) (fun x=>x.2.2.2.1++x.2.2.2.2) (fun x=>n-x.1)
   (fun x=>(x.1≤n∧(x.1=0∨σ.down=false))∧Sl 50 1 x.2.1 x.2.2.1 x.2.2.2.1∧RB x.2.2.2.2 x.2.2.1 (σ.blks from_ x.1)) (0,.slice none 0 0,[],[],[]) ⟨⟨Nat.zero_le _,.inl rfl⟩,Sl.nil _ _,RB.nil _⟩ ?_
  rintro⟨k,v2,vs2,Hv2,Ht2⟩ ⟨⟨hk,hk0⟩,hS2,hR2⟩
  dsimp only at hk hk0 hS2 hR2 ⊢
  have hY2:=hS2.isOne
  have hvl2:=hR2.1
  rw [Dv.blks_len] at hvl2
  by_cases hkn:k<n
  ·have hld:=rload_p hD ((256*(from_+k):Nat):Int) 256
   have hr0:σ.rdy ((256*(from_+k):Nat):Int) 256=if σ.down=true then 8 else 0:=by
    unfold Dv.rdy
    split
    ·rfl
    ·rw [hlen,if_neg (by omega)]
   rw [hr0] at hld
   rw [show ((256*(from_+k):Nat):Int)=256*((from_:Int)+(k:Int)) by omega] at hld
   repeat' (first|(refine W.go ?_;try intro b_)|fail)
   refine W.call hld ?_
   rintro _ _ ⟨sv,Hs,rfl,hsv,rfl⟩
   have hsv1:=hsv.isOne
   obtain⟨a3,l3,c3,rfl,-⟩:=hsv.form
   by_cases hdn:σ.down=true
   ·rw [if_pos hdn]
    rw [if_neg (by rw [hdn];simp;omega)]
    repeat' (first|(refine W.go ?_;try intro b_)|fail)
    refine Fin.to (Hd++[]) ?_
    exact F.f2 ⟨_,[],rfl,⟨[],[],[],Sl.nil _ _,RB.nil _,rfl⟩,rfl⟩
   ·rw [if_neg hdn]
    have hb44:bfill (fun i=>some (i*1,1)) (zs [.slice none 0 0] 1) [(0,.slice a3 l3 c3)]=some [.slice a3 l3 c3]:=rfl
    repeat' (first|(refine W.go ?_;try intro b_)|fail)
    refine W.ap hS2 (ys:=[.slice a3 l3 c3]) (mm:=1) (fun w2 hs=>(Sl.own 50 1 b_ (xs:=[.slice a3 l3 c3]) rfl).srcAt hs inferInstance) (fun v3 H3 h3=>?_) (hys:=rfl) (hbytes:=by rw [hvl2];simp;omega)
    have h31:=h3.isOne
    repeat' (first|(refine W.go ?_;try intro b_)|fail)
    refine HandF.mk (k+1,v3,vs2++[.slice a3 l3 c3],H3,Hs++Ht2) ?_
    refine⟨⟨hkn,.inr (by simpa using hdn)⟩,h3,?_⟩
    dsimp only
    rw [Dv.blks_succ]
    exact (hR2.mono fun x hx=>List.mem_append_right _ hx).snoc ((RdH.of hsv).mono fun x hx=>List.mem_append_left _ hx)
  ·have hkn2:k=n:=by omega
   subst hkn2
   repeat' (first|(refine W.go ?_;try intro b_)|fail)
   refine CutF.mk (v2,Hv2++Ht2) ?_
   exact⟨hk0,vs2,Hv2,Ht2,hS2,hR2,rfl⟩
 rintro⟨v2,Hb2⟩ ⟨hok,hB⟩
 dsimp only at hok hB ⊢
 have hY2:=hB.one
 rw [if_pos hok]
 repeat' (first|(refine W.go ?_;try intro b_)|fail)
 refine Fin.to (Hd++Hb2) ?_
 exact F.f2 ⟨v2,Hb2,rfl,hB,rfl⟩
theorem rEpochs_p{p t:Nat}(h:Gm.Ok p t){Ht:Hp}(v:Value)(vs:List Value)(bss:List (List UInt8))(hR:RB Ht vs bss)(hn:bss.length=Gm.leaves p)(hb:∀ b∈bss,b.length=256) :
  Tri Tryz.prog 207 [geoV p t,v] Ht (fun w=>Rd (Ht.map Prod.fst) w 1 v vs) (fun r H=>∃ Hs,Sl 28 1 r (uv (epsB p bss)) Hs∧H=Hs++Ht):=by
 refine Tri.mk Tryz.func207 rfl Tryz.ntmps207 rfl fun w hw=>?_
 have hse:=rgsealed_p h
 have hep:=rgepochs_p h
 have hw0:=hw
 obtain⟨a,la,ca,rfl,hl1,hc1,hr1⟩:=hw.get
 rw [Nat.mul_one,hR.1] at hl1
 subst hl1
 have hY:One (Value.slice a bss.length ca):=⟨rfl⟩
 have hll:=Gm.leaves_le h
 have hL:Gm.leaves p=1+Gm.epochs p+Gm.sealed p:=rfl
 have hel:epsB p bss=(List.range (Gm.sealed p)).map (epAt ((bss.drop 1).take (Gm.epochs p))):=rfl
 have hE:32*Gm.epochs p≥Gm.sealed p:=by unfold Gm.epochs Gm.up;omega
 have hRp:=hR.part 1 (Gm.epochs p)
 have hpl:((bss.drop 1).take (Gm.epochs p)).length=Gm.epochs p:=by rw [List.length_take,List.length_drop];omega
 have hpb:∀ b∈(bss.drop 1).take (Gm.epochs p),b.length=256:=fun b hbm=>hb b (List.mem_of_mem_drop (List.mem_of_mem_take hbm))
 have hcut:=hw0.cutN ca 1 (1+Gm.epochs p) (ca-1) (by omega) (by omega) (by omega) (by omega)
 rw [show 1+Gm.epochs p-1=Gm.epochs p by omega] at hcut
 rw [hel]
 clear hel
 generalize (bss.drop 1).take (Gm.epochs p)=es at *
 generalize Gm.sealed p=S at *
 generalize Gm.epochs p=E at *
 repeat' (first|(refine W.gb ?_;try intro b_)|fail)
 refine SW.cutH [] [] (fun x:Value×Hp=>[(5,x.1)]) (fun x=>x.2) (fun x=>Sl 28 1 x.1 (uv ((List.range S).map (epAt es))) x.2) ?_ ?_
 ·repeat' (first|(refine W.go ?_;try intro b_)|fail)
  refine SW.loopF [1,2] (fun x:Nat×Value×Hp=>[(5,x.2.1),(6,.int .i64 (x.1:Int))]) (fun x=>x.2.2) (fun x=>S-x.1) (fun x=>x.1≤S∧Sl 28 1 x.2.1 (uv ((List.range x.1).map (epAt es))) x.2.2) (0,.slice none 0 0,[]) ⟨Nat.zero_le _,Sl.nil _ _⟩ ?_
  rintro⟨k,v2,H2⟩ ⟨hk,h2⟩
  dsimp only at hk h2 ⊢
  have h21:=h2.isOne
  by_cases hkn:k<S
  ·have hcut2:=hcut
   rw [Nat.mul_one,Nat.one_mul] at hcut2
   have hre:=rEpoch_p (.slice (sadr a ca 1 1) E (ca-1)) _ es hRp hpb k (by omega) (by omega)
   have hl2:(uv ((List.range k).map (epAt es))).length=k:=by rw [uv_len];simp
   have hsn:uv ((List.range (k+1)).map (epAt es))=uv ((List.range k).map (epAt es))++[u64v (epAt es k)]:=by unfold uv;rw [List.range_succ,List.map_append,List.map_append];rfl
   generalize hO2:uv ((List.range (k+1)).map (epAt es))=o2 at *
   generalize uv ((List.range k).map (epAt es))=o at *
   have hb44:bfill (fun i=>some (i*1,1)) (zs [.int .u64 0] 1) [(0,u64v (epAt es k))]=some [u64v (epAt es k)]:=rfl
   haveI i2:NatI (1+(E:Int)) (1+E):=⟨by omega⟩
   repeat' (first|(refine W.go ?_;try intro b_)|fail)
   refine W.call hse ?_
   rintro _ _ ⟨rfl,rfl⟩
   repeat' (first|(refine W.go ?_;try intro b_)|fail)
   refine W.call hep ?_
   rintro _ _ ⟨rfl,rfl⟩
   repeat' (first|(refine W.go ?_;try intro b_)|fail)
   refine W.sG ?_ (i1:=i2)
   rw [show 1+E-1=E by omega]
   repeat' (first|(refine W.go ?_;try intro b_)|fail)
   refine W.call hre ?_ (hpre:=fun w2 hs=>hcut2.ro (Hc:=Ht) hs)
   rintro _ Hx ⟨rfl,hx⟩
   have hx:=hx.symm
   subst hx
   repeat' (first|(refine W.go ?_;try intro b_)|fail)
   refine W.ap h2 (ys:=[u64v (epAt es k)]) (mm:=1) (fun w2 hs=>(Sl.own 28 1 b_ (xs:=[u64v (epAt es k)]) rfl).srcAt hs inferInstance) (fun v3 H3 h3=>?_) (hys:=rfl) (hbytes:=by simp;omega)
   rw [← hsn] at h3
   have h31:=h3.isOne
   repeat' (first|(refine W.go ?_;try intro b_)|fail)
   refine HandF.mk (k+1,v3,H3) ?_
   exact⟨hkn,by dsimp only;rw [hO2];exact h3⟩
  ·obtain rfl:k=S:=by omega
   repeat' (first|(refine W.go ?_;try intro b_)|fail)
   refine W.call hse ?_
   rintro _ _ ⟨rfl,rfl⟩
   repeat' (first|(refine W.go ?_;try intro b_)|fail)
   refine CutF.mk (v2,H2) ?_
   exact h2
 rintro⟨v2,H2⟩ h2
 dsimp only at h2 ⊢
 have h21:=h2.isOne
 repeat' (first|(refine W.go ?_;try intro b_)|fail)
 refine Fin.to (H2++Ht) ?_
 exact F.f1 ⟨H2,h2,rfl⟩
theorem rfits_p{d tr sp p t:Nat}(h:Gm.Ok p t){r:Rg}(hr:r.Ok){Ht:Hp}(v:Value)(vs:List Value)(bss:List (List UInt8))(hR:RB Ht vs bss)(hn:bss.length=Gm.leaves p)(hb:∀ b∈bss,b.length=256) :
  Tri Tryz.prog 256 [rbaseV d tr sp p t,v] ((tr,cl (rtc d r) 128)::Ht) (fun w=>Rd (tr::Ht.map Prod.fst) w 1 v vs)
  (fun o H=>o=.bool (fitsB p t r.root bss)∧H=(tr,cl (rtc d r) 128)::Ht):=by
 refine Tri.mk Tryz.func256 rfl Tryz.ntmps256 rfl fun w hw=>?_
 have hw0:=hw
 have hll:=Gm.leaves_le h
 have hL:Gm.leaves p=1+Gm.epochs p+Gm.sealed p:=rfl
 obtain⟨a,la,ca,rfl,hl1,hc1,hr1⟩:=hw.get
 rw [Nat.mul_one,hR.1] at hl1
 subst hl1
 have hY:One (Value.slice a bss.length ca):=⟨rfl⟩
 obtain⟨bb,o,l,T,fz,rfl,hbh,hkK,hy⟩:=hr1 (by omega)
 have hle:=rleaves_p (.slice (some ⟨bb,o,none⟩) bss.length ca) vs bss hR (by omega) hb
 obtain⟨f1,f2,f3⟩:=rtc_f d hr
 obtain⟨u,hu1,hu2⟩:=hR.2 0 _ (List.getElem?_eq_getElem (show 0<bss.length by omega))
 have hlu:l[o+0]?=some u:=by
  have h2:((l.drop o).take (bss.length*1))[0]?=vs[0]?:=by rw [hy]
  rw [List.getElem?_take,if_pos (by omega),List.getElem?_drop,hu1] at h2
  exact h2
 rw [Nat.add_zero] at hlu
 have hu3:=hu2
 have huo:=hu2.one
 obtain⟨ua,ul,uc,rfl,-⟩:=hu3
 have h32:(rootB bss).length=32:=Sha.sum_len _
 have hro:rootV (sumsB bss)=rootB bss:=rfl
 have hsl:(sumsB bss).length≤1024:=by rw [sumsB_len];omega
 have hrr:=fun vv=>rroot_p (sumsB bss) (sumsB_32 bss) vv hsl
 rw [hro] at hrr
 have hsb:=rBytes_p h
 have hg0:bss.getD 0 []=bss[0]:=by rw [List.getD_eq_getElem?_getD,List.getElem?_eq_getElem (show 0<bss.length by omega)];rfl
 have hf:fitsB p t r.root bss=(decide (rootB bss=r.root)&&decide (superB p t=bss[0])):=by unfold fitsB;rw [hg0]
 rw [hf]
 clear hf
 generalize bss[0]=b0 at *
 generalize hRT:rootB bss=rt at *
 repeat' (first|(refine W.go ?_;try intro b_)|fail)
 (refine SW.rg [] [0,3,4,5,6,7,8] ?_;(repeat' (first|refine SG.g ?_|fail));refine SS.effK 1 ?_ rfl (by kernel_rfl))
 refine W.call hle ?_ (hpre:=fun w2 hs=>hw0.ro (Hc:=Ht) hs)
 rintro _ _ ⟨Hs,hSl,rfl⟩
 have hSl1:=hSl.isOne
 (refine SL.nilG [] ?_;refine SS.effK 2 ?_ rfl (by kernel_rfl))
 refine W.call (hrr _) ?_ (hpre:=fun w2 hs=>Rd.own (Hc:=[]) hSl hs inferInstance)
 rintro _ _ ⟨rfl,rfl⟩
 by_cases he:rt=r.root
 ·rw [decide_eq_true he,Bool.true_and]
  (refine SL.nilG [] ?_;refine SS.tw 9 rfl (p_eqA_t rfl rfl rfl h32 he) ?_;refine SG.on [10,11,12,13] ?_;(repeat' (first|refine SG.g ?_|fail));(first|refine SS.sk 14 rfl ?_|refine SS.cstH hu2 14 [] rfl ?_);refine SG.on [15,16] ?_;(repeat' (first|refine SG.g ?_|fail));(first|refine SS.sk 17 rfl ?_;refine SG.on [18,19,20,21,22] ?_;(repeat' (first|refine SG.g ?_|fail))|refine SS.effK 17 ?_ rfl (by kernel_rfl)))
  refine W.call hsb ?_
  rintro v2 Hs2 hs2
  have hs21:=hs2.isOne
  (refine SL.nilG [] ?_;(first|refine SS.sk 18 rfl ?_|refine SS.cstS hs2 18 [] rfl ?_);(first|refine SS.sk 19 rfl ?_|refine SS.tw 19 rfl (p_eqstU rfl rfl rfl) ?_);refine SG.on [20,21,22] ?_;(repeat' (first|refine SG.g ?_|fail)))
  repeat' (first|(refine W.go ?_;try intro b_)|fail)
  refine Fin.to ((tr,cl (rtc d r) 128)::Ht) ?_
  exact F.f1 ⟨congrArg Value.bool (decide_eq_decide.2 ⟨Eq.symm,Eq.symm⟩),rfl⟩
 ·rw [decide_eq_false he,Bool.false_and]
  (refine SL.nilG [] ?_;refine SS.tw 9 rfl (p_eqA_f rfl rfl rfl h32 hr.len he) ?_;refine SG.on [10,11,12,13,14,15,16] ?_;(repeat' (first|refine SG.g ?_|fail));(first|refine SS.sk 17 rfl ?_;refine SG.on [18,19,20,21,22] ?_;(repeat' (first|refine SG.g ?_|fail))|refine SS.effK 17 ?_ rfl (by kernel_rfl)))
  repeat' (first|(refine W.go ?_;try intro b_)|fail)
  refine Fin.to ((tr,cl (rtc d r) 128)::Ht) ?_
  exact F.f1 ⟨rfl,rfl⟩
end Go.Proofs.YtnigolgkkjidiaaGreat
namespace Go.Proofs.YtnigolgkkjidiaaGreat
open Go
attribute [local irreducible] SW SL SQ SH SA SS Pu Fin CutF HandF
theorem rLook_p{d tr sp p t:Nat}(h:Gm.Ok p t){σ:Dv}{r:Rg}{Hd:Hp}(hD:DevR d σ Hd)(hlen:σ.len=256*Gm.total p t)(hr:r.Ok) :
  Tri Tryz.prog 206 [rbaseV d tr sp p t] ((tr,cl (rtc d r) 128)::Hd) (fun _=>True)
  (fun v H=>(σ.down=true∧v=.tuple #[.agg #[.int .i64 0,.slice none 0 0,.int .u64 0,.slice none 0 0],.int .i64 8]∧H=(tr,cl (rtc d r) 128)::Hd) ∨
   (σ.down=false∧∃ v1 cv ev Hb,v=.tuple #[.agg #[.int .i64 ((lookB p t σ r).1:Nat),v1,.int .u64 cv,ev],.int .i64 0]∧One ev∧Bls v1 (lookB p t σ r).2 Hb∧H=(tr,cl (rtc d r) 128)::(Hd++Hb))):=by
 refine Tri.mk Tryz.func206 rfl Tryz.ntmps206 rfl fun w hw=>?_
 have hmy:=rqmay_p (tr:=tr) (s:=sp) h hD hlen
 have ht:=h.2.2.2
 have hall:=rgall_p h
 have hc4:=rcount4_p h
 have hpl:=pcs_len (Gm.all p t)
 have hll:=Gm.leaves_le h
 have hsl:=Gm.sealed_le h
 have hel:=Gm.epochs_le h
 have hLe:Gm.leaves p=1+Gm.epochs p+Gm.sealed p:=rfl
 have htot:Gm.total p t=Gm.leaves p+(1+t):=rfl
 have hld1:=rblocks_p (tr:=tr) (sp:=sp) h hD hlen 0 (Gm.leaves p) (by omega)
 have hld2:=rblocks_p (tr:=tr) (sp:=sp) h hD hlen (Gm.leaves p) (1+t) (by omega)
 rw [show ((1+t:Nat):Int)=1+(t:Int) by omega] at hld2
 obtain⟨f1,f2,f3⟩:=rtc_f d hr
 repeat' (first|(refine W.go ?_;try intro b_)|fail)
 refine W.call hmy ?_
 rintro _ Hx ⟨rfl,hx⟩
 have hx:=hx.symm
 subst hx
 repeat' (first|(refine W.go ?_;try intro b_)|fail)
 generalize b_=bf at *
 (refine SW.rg [6] [0,1,4,5] ?_;(repeat' (first|refine SG.g ?_|fail));refine SS.effK 2 ?_ rfl (by kernel_rfl))
 refine W.call hall ?_
 rintro _ _ ⟨Hs,hS,rfl⟩
 obtain⟨a,len,cap,rfl,hl1⟩:=hS.form
 rw [hpl,Gm.all_len] at hl1
 have hl2:len=Gm.leaves p+(1+t):=by omega
 subst hl2
 clear hS
 (refine SL.nilG [3] ?_;(repeat' (first|refine SG.g ?_|fail));refine SS.effB 6 ?_ rfl (by kernel_rfl))
 refine W.call hc4 ?_
 rintro _ _ ⟨rfl,rfl⟩
 (refine SL.nilG [7,8,9] ?_;(repeat' (first|refine SG.g ?_|fail)))
 have e0:((Gm.leaves p+(1+t):Nat):Int)-((1+t:Nat):Int)=((Gm.leaves p:Nat):Int):=by omega
 rw [e0]
 have hbfl:∀ (k:Int) (a1:Option Addr) (l1 c1:Nat),bfill (fun i=>[(0,1),(1,1),(2,2)][i]?) [.int .i64 0,.slice none 0 0,.int .u64 0,.slice none 0 0] [(0,.int .i64 k),(1,.slice a1 l1 c1)]=some [.int .i64 k,.slice a1 l1 c1,.int .u64 0,.slice none 0 0]:=fun _ _ _ _=>rfl
 by_cases hdn:σ.down=true
 ·have e1:ldS σ 0 (Gm.leaves p)=(8,[]):=by unfold ldS;rw [if_neg (by rw [hdn];simp;omega)]
  rw [e1] at hld1
  dsimp only at hld1
  repeat' (first|(refine W.go ?_;try intro b_)|fail)
  refine W.call hld1 ?_
  rintro _ _ ⟨v1,Hb,rfl,hB,rfl⟩
  have hB1:=hB.one
  repeat' (first|(refine W.go ?_;try intro b_)|fail)
  refine F.cHt ((tr,cl (rtc d r) 128)::Hd) [.int .i64 0,.slice none 0 0,.int .u64 0,.slice none 0 0] ?_
  exact .inl ⟨hdn,rfl,rfl⟩
 have hdn2:σ.down=false:=by simpa using hdn
 have e1:ldS σ 0 (Gm.leaves p)=(0,σ.blks 0 (Gm.leaves p)):=by unfold ldS;rw [if_pos (.inr hdn2)]
 have e2:ldS σ (Gm.leaves p) (1+t)=(0,σ.blks (Gm.leaves p) (1+t)):=by unfold ldS;rw [if_pos (.inr hdn2)]
 rw [e1] at hld1
 rw [e2] at hld2
 dsimp only at hld1 hld2
 have hb1:=blks_256 (a:=0) (n:=Gm.leaves p) hD.1 hdn2 hlen (by omega)
 have hb2:=blks_256 (a:=Gm.leaves p) (n:=1+t) hD.1 hdn2 hlen (by omega)
 have hn1:=σ.blks_len 0 (Gm.leaves p)
 have hn2:=σ.blks_len (Gm.leaves p) (1+t)
 have hlb:lookB p t σ r=foundB p t r (σ.blks 0 (Gm.leaves p)) (σ.blks (Gm.leaves p) (1+t)):=rfl
 rw [hlb]
 clear hlb e1 e2 hdn
 generalize σ.blks 0 (Gm.leaves p)=l at *
 generalize σ.blks (Gm.leaves p) (1+t)=logs at *
 repeat' (first|(refine W.go ?_;try intro b_)|fail)
 refine W.call hld1 ?_
 rintro _ _ ⟨v1,Hb,rfl,⟨vs,Hv,Ht,hSv,hRv,rfl⟩,rfl⟩
 have hSv1:=hSv.isOne
 obtain⟨va,vl,vc,rfl,hvl⟩:=hSv.form
 repeat' (first|(refine W.go ?_;try intro b_)|fail)
 refine W.call hld2 ?_
 rintro _ _ ⟨v2,Hlb,rfl,⟨lvs,Hlv,Hlt,hSl,hRl,rfl⟩,rfl⟩
 have hSl1:=hSl.isOne
 obtain⟨la,ll,lc,rfl,-⟩:=hSl.form
 have hfi:=fun (Ht:Hp) v vs (bss:List (List UInt8)) hR hn hb=>rfits_p (d:=d) (tr:=tr) (sp:=sp) h hr (Ht:=Ht) v vs bss hR hn hb
 repeat' (first|(refine W.go ?_;try intro b_)|fail)
 refine W.call (hfi Ht _ vs l hRv hn1 hb1) ?_ (hpre:=fun w2 hs=>Rd.own (Hc:=(tr,cl (rtc d r) 128)::Ht) hSv hs inferInstance)
 rintro _ _ ⟨rfl,rfl⟩
 by_cases hf:fitsB p t r.root l=true
 ·rw [foundB_fit hf,hf]
  repeat' (first|(refine W.go ?_;try intro b_)|fail)
  refine F.cHt ((tr,cl (rtc d r) 128)::(Hd++(Hv++Ht))) [.int .i64 1,.slice va vl vc,.int .u64 0,.slice none 0 0] ?_
  exact .inr ⟨hdn2,_,0,_,_,rfl,⟨rfl⟩,⟨vs,Hv,Ht,hSv,hRv,rfl⟩,rfl⟩
 have hff:fitsB p t r.root l=false:=by simpa using hf
 rw [hff]
 have hpa:=fun v=>rlParse_p h v lvs logs hRl hn2 hb2
 repeat' (first|(refine W.go ?_;try intro b_)|fail)
 refine W.call (hpa _) ?_ (hpre:=fun w2 hs=>Rd.own (Hc:=Hlt) hSl hs inferInstance)
 rintro _ _ ⟨Hn,hP,rfl⟩
 clear hpa hld1 hld2 hall hc4 hmy hpl hl1
 cases hpl:parseL p t logs with
 | none=>
  rw [hpl] at hP
  obtain⟨rfl,rfl⟩:=hP
  have hlr:logR p t r logs=none:=by unfold logR;rw [hpl]
  rw [foundB_none hf hlr]
  repeat' (first|(refine W.go ?_;try intro b_)|fail)
  (refine SW.rg [] [0,1,2,3,4,5,6,7,8,9,10,11,12,13] ?_;(repeat' (first|refine SG.g ?_|fail)))
  repeat' (first|(refine W.go ?_;try intro b_)|fail)
  refine F.cHt ((tr,cl (rtc d r) 128)::(Hd++(Hv++Ht))) [.int .i64 3,.slice va vl vc,.int .u64 0,.slice none 0 0] ?_
  exact .inr ⟨hdn2,_,0,_,_,rfl,⟨rfl⟩,⟨vs,Hv,Ht,hSv,hRv,rfl⟩,rfl⟩
 | some y=>
 rw [hpl] at hP
 obtain⟨c,es⟩:=y
 obtain⟨ev,us,rfl,hSe,hRe⟩:=hP
 have hSe1:=hSe.isOne
 have hmay:=parse_may hpl
 dsimp only at hSe hRe hmay ⊢
 by_cases hc:¬ (c.toNat:Int)=r.c
 ·have hlr:logR p t r logs=none:=by unfold logR;rw [hpl];dsimp only;rw [if_neg hc]
  rw [foundB_none hf hlr]
  repeat' (first|(refine W.go ?_;try intro b_)|fail)
  (refine SW.rg [] [0,1,2,3,4,5,6,7,8,9,10,11,12,13] ?_;(repeat' (first|refine SG.g ?_|fail)))
  repeat' (first|(refine W.go ?_;try intro b_)|fail)
  refine F.cHt ((tr,cl (rtc d r) 128)::(Hd++(Hv++Ht))) [.int .i64 3,.slice va vl vc,.int .u64 0,.slice none 0 0] ?_
  exact .inr ⟨hdn2,_,0,_,_,rfl,⟨rfl⟩,⟨vs,Hv,Ht,hSv,hRv,rfl⟩,rfl⟩
 have hc2:(c.toNat:Int)=r.c:=Decidable.not_not.1 hc
 have hlr:logR p t r logs=some (c,es):=by unfold logR;rw [hpl];dsimp only;rw [if_pos hc2]
 rw [foundB_some hf hlr]
 have hl4:=redoB_len p c es l
 have hl256:=redoB_256 (c:=c) hmay hb1
 dsimp only
 have hredo:redoB p c es l=redoT (redoE c (epsB p l) es) (redoS p l es) (tabs es):=rfl
 repeat' (first|(refine W.go ?_;try intro b_)|fail)
 generalize b_=b8 at *
 (refine SW.rg [] [0,1,2,3,4,5,6,7,8,9,10,11,12,13] ?_;(repeat' (first|refine SG.g ?_|fail)))
 repeat' (first|(refine W.go ?_;try intro b_)|fail)
 refine W.call (rEpochs_p h _ vs l hRv hn1 hb1) ?_ (hpre:=fun w2 hs=>Rd.own (Hc:=Ht) hSv hs inferInstance)
 rintro v10 _ ⟨Hep,hSp,rfl⟩
 have hebl:=epsB_len p l
 have hesl:1≤es.length∧es.length≤t:=by unfold mayB at hmay;rw [Bool.and_eq_true,decide_eq_true_iff] at hmay;exact hmay.1
 have hmall:∀ (k:Nat) (x:Ent),es[k]?=some x → -1<x.1∧x.1<(Gm.sealed p:Nat)∧x.2.length=256:=by unfold mayB at hmay;rw [Bool.and_eq_true] at hmay;exact mayL_all hmay.2
 have hmL:mayL p (-1) es=true:=by unfold mayB at hmay;rw [Bool.and_eq_true] at hmay;exact hmay.2
 have htlt:=tabs_lt hmay
 have htle:=tabs_le es
 have hul:us.length=es.length:=by rw [hRe.1,List.length_map]
 have hoc:=hRe.oc
 have hvl2:=hRv.1
 have hocv:=hRv.oc
 have hel2:=entsC_len us es hul
 have hmt:=fun v=>rTables_p (p:=p) v us es hul hoc hmL (by omega) (by omega)
 have hx0 : -1<(es[0]'(by omega)).1∧(es[0]'(by omega)).1<(Gm.sealed p:Nat)∧_:=hmall 0 _ (List.getElem?_eq_getElem (by omega))
 have hs1:1≤Gm.sealed p:=by omega
 clear hx0
 rw [hredo] at hl4 hl256 ⊢
 clear hredo hmay hpl hlr hmL
 generalize epsB p l=E0 at *
 rcases hSp with ⟨-,hz,-⟩|⟨be,elen0,ecap0,ejunk0,rfl,hexl0,hej0,hec0,rfl⟩
 ·have h9:=uv_len E0
  rw [hz,List.length_nil] at h9
  omega
 have hSe0:=hSe
 rcases hSe with ⟨-,hz,-⟩|⟨eb,elen,ecap,ejunk,rfl,hexl,hej,hec,rfl⟩
 ·rw [hz] at hel2;simp at hel2;omega
 obtain rfl:elen=es.length:=by omega
 rw [uv_len] at hexl0
 obtain rfl:elen0=E0.length:=by omega
 repeat' (first|(refine W.go ?_;try intro b_)|fail)
 refine W.ap (Sl.own 50 1 b_ (len:=0) (xs:=[]) rfl) (ys:=vs) (mm:=vl) (fun w2 hs=>hSv.srcAt hs inferInstance) (fun v11 H11 h11=>?_) (hys:=by omega) (hbytes:=by simp;omega)
 rw [List.nil_append] at h11
 rcases h11 with ⟨-,hz,-⟩|⟨bb,len,cap11,junk,rfl,hxl,hj,hlc,rfl⟩
 ·rw [hz] at hvl2;simp at hvl2;omega
 obtain rfl:len=vs.length:=by omega
 repeat' (first|(refine W.gb ?_;try intro b_)|fail)
 refine SW.cutH [1,2,5,8,10,11] [(bb,cl (vs++junk) 50),(be,cl (uv E0++ejunk0) 28)] (fun _:List Value=>[]) (fun y=>[(bb,cl (y++junk) 50),(be,cl (uv (redoE c E0 es)++ejunk0) 28)]) (fun y=>RB (Ht++Hlt) y (redoS p l es)) ?_ ?_
 ·rw [show uv E0=uv (redoE c E0 (es.take 0)) from rfl]
  repeat' (first|(refine W.go ?_;try intro b_)|fail)
  refine SW.loopF [1,2,5,8,10,11,87,88] (fun y:Nat×List Value=>[(89,.int .i64 (y.1:Int))]) (fun y=>[(bb,cl (y.2++junk) 50),(be,cl (uv (redoE c E0 (es.take y.1))++ejunk0) 28)]) (fun y=>es.length-y.1) (fun y=>y.1≤es.length∧RB (Ht++Hlt) y.2 (redoS p l (es.take y.1))) (0,vs) ⟨Nat.zero_le _,hRv.mono fun x hx=>List.mem_append_left _ hx⟩ ?_
  rintro⟨k,vs2⟩ ⟨hk,hR2⟩
  dsimp only at hk hR2 ⊢
  have hvl3:=hR2.1
  rw [redoS_len,hn1] at hvl3
  have hoc2:=hR2.oc
  by_cases hkn:k<es.length
  ·have hx:=List.getElem?_eq_getElem hkn
   have htk:es.take (k+1)=es.take k++[es[k]]:=by rw [List.take_add_one,hx];rfl
   obtain⟨u,huk,hru⟩:=hRe.2 k es[k].2 (by rw [List.getElem?_map,hx];rfl)
   have hrow:=ent_row (junk:=ejunk) hul huk hx
   obtain⟨hx1,hx2,hx3⟩:=hmall k _ hx
   have hSs:=redoS_snoc p l (es.take k) es[k]
   have hEs:=redoE_snoc c E0 (es.take k) es[k]
   rw [← htk] at hSs hEs
   have hEl:=redoE_len c (es.take k) E0
   have huo:=hru.one
   generalize es[k]=x at *
   obtain⟨K,hKK⟩:∃ K:Nat,x.1=(K:Int):=⟨x.1.toNat,by omega⟩
   rw [show x.1.toNat=K by omega] at hSs hEs
   rw [hKK] at hrow
   have hsa:=rat7_p h (K:=3) (n:=Gm.sealed p) (base:=1+Gm.epochs p) (.inr (.inl ⟨rfl,rfl,rfl⟩)) (K:Int)
   rw [show Gm.atK (Gm.sealed p) (1+Gm.epochs p) (K:Int)=((1+Gm.epochs p+K:Nat):Int) by unfold Gm.atK;rw [if_pos (by omega)];omega] at hsa
   have hset:=set_app (vs:=vs2) (junk:=junk) (i:=1+Gm.epochs p+K) (by omega) u
   have hset2:=uv_set (redoE c E0 (es.take k)) K c
   rw [← hEs] at hset2
   have hset3:=set_app (vs:=uv (redoE c E0 (es.take k))) (junk:=ejunk0) (i:=K) (by rw [uv_len,hEl];omega) (u64v c)
   rw [hset2] at hset3
   have hlt1:1+Gm.epochs p+K<(vs2++junk).length:=by rw [List.length_append];omega
   have hlt2:K<(uv (redoE c E0 (es.take k))++ejunk0).length:=by rw [List.length_append,uv_len,hEl];omega
   repeat' (first|(refine W.go ?_;try intro b_)|fail)
   (refine SW.rg [] [0,1,2,3,4,6,7] ?_;(repeat' (first|refine SG.g ?_|fail));refine SS.effK 5 ?_ rfl (by kernel_rfl))
   refine W.call hsa ?_
   rintro _ _ ⟨rfl,rfl⟩
   (refine SL.nilG [8] ?_;(repeat' (first|refine SG.g ?_|fail));refine SS.effK 9 ?_ rfl (by kernel_rfl);(repeat' (first|(refine W.g1 ?_;try intro b_)|fail));refine SS.done ?_ (by kernel_rfl))
   rw [hset]
   repeat' (first|(refine W.go ?_;try intro b_)|fail)
   rw [hset3]
   refine HandF.mk (k+1,vs2.set (1+Gm.epochs p+K) u) ?_
   refine⟨hkn,?_⟩
   dsimp only
   rw [hSs]
   exact hR2.set (hru.mono fun x hx=>List.mem_append_right _ hx) _
  ·have hkl:k=es.length:=by omega
   rw [hkl,List.take_length] at hR2 ⊢
   subst hkl
   repeat' (first|(refine W.go ?_;try intro b_)|fail)
   refine CutF.mk vs2 ?_
   exact hR2
 rintro vs2 hR2
 have hEl:=redoE_len c es E0
 have hvl3:=hR2.1
 rw [redoS_len,hn1] at hvl3
 generalize redoE c E0 es=E1 at *
 generalize redoS p l es=M1 at *
 repeat' (first|(refine W.go ?_;try intro b_)|fail)
 refine W.call (hmt _) ?_ (hpre:=fun w2 hs=>Rd.own (Hc:=[]) hSe0 hs inferInstance)
 rintro _ Hq hSt
 have hSt1:=hSt.isOne
 obtain⟨ta,tl,tc2,rfl,htl⟩:=hSt.form
 rw [Nat.mul_one,List.length_map] at htl
 subst htl
 repeat' (first|(refine W.gb ?_;try intro b_)|fail)
 refine SW.cutH [1,2,5,8,10,11] [(bb,cl (vs2++junk) 50)] (fun _:List Value×Hp=>[]) (fun y=>(bb,cl (y.1++junk) 50)::y.2) (fun y=>RB ((Ht++Hlt)++y.2) y.1 (redoT E1 M1 (tabs es))) ?_ ?_
 ·repeat' (first|(refine W.go ?_;try intro b_)|fail)
  refine SW.loopF [1,2,5,8,10,11,111,112] (fun y:Nat×List Value×Hp=>[(113,.int .i64 (y.1:Int))]) (fun y=>(bb,cl (y.2.1++junk) 50)::y.2.2) (fun y=>(tabs es).length-y.1) (fun y=>y.1≤(tabs es).length∧RB ((Ht++Hlt)++y.2.2) y.2.1 (redoT E1 M1 ((tabs es).take y.1))) (0,vs2,[]) ⟨Nat.zero_le _,by rw [List.append_nil];exact hR2⟩ ?_
  rintro⟨k,vs3,Hn3⟩ ⟨hk,hR3⟩
  dsimp only at hk hR3 ⊢
  have hvl4:=hR3.1
  rw [redoT_len] at hvl4
  have hM1:=hR2.1
  have hoc3:=hR3.oc
  by_cases hkn:k<(tabs es).length
  ·rcases hSt with ⟨hz,hz2,-⟩|⟨qb,qlen,qcap,qjunk,hz,hqxl,hqj,hqc,rfl⟩
   ·simp only [Value.slice.injEq] at hz;omega
   simp only [Value.slice.injEq] at hz
   obtain⟨rfl,rfl,rfl⟩:=hz
   have hx:=List.getElem?_eq_getElem hkn
   have hlu:(nv (tabs es)++qjunk)[k]?=some (.int .i64 (((tabs es)[k]:Nat):Int)):=by
    rw [List.getElem?_append_left (by rw [List.length_map];exact hkn),List.getElem?_map,hx];rfl
   have htk:(tabs es).take (k+1)=(tabs es).take k++[(tabs es)[k]]:=by rw [List.take_add_one,hx];rfl
   have hlt:=htlt _ (List.getElem_mem hkn)
   have hTs:=redoT_snoc E1 M1 ((tabs es).take k) (tabs es)[k]
   rw [← htk] at hTs
   generalize (tabs es)[k]=q at *
   have hsb:=rBlock_p q (by omega) (.slice (some ⟨be,0,none⟩) E0.length ecap0) E1
   have hea:=rat7_p h (K:=2) (n:=Gm.epochs p) (base:=1) (.inl ⟨rfl,rfl,rfl⟩) (q:Int)
   rw [show Gm.atK (Gm.epochs p) 1 (q:Int)=((1+q:Nat):Int) by unfold Gm.atK;rw [if_pos (by omega)];omega] at hea
   have hlt1:1+q<(vs3++junk).length:=by rw [List.length_append];omega
   repeat' (first|(refine W.go ?_;try intro b_)|fail)
   refine W.call hea ?_
   rintro _ _ ⟨rfl,rfl⟩
   repeat' (first|(refine W.go ?_;try intro b_)|fail)
   refine W.call hsb ?_ (hpre:=fun w2 hs=>Rd.own (Hc:=[]) (e:=28) (Hs:=[(be,cl (uv E1++ejunk0) 28)]) (.inr ⟨be,E0.length,ecap0,ejunk0,rfl,by rw [uv_len,hEl,Nat.mul_one],hej0,hec0,rfl⟩) hs inferInstance)
   rintro v5 H5 h5
   have h51:=h5.isOne
   have hset:=set_app (vs:=vs3) (junk:=junk) (i:=1+q) (by omega) v5
   repeat' (first|(refine W.go ?_;try intro b_)|fail)
   rw [hset]
   refine HandF.mk (k+1,vs3.set (1+q) v5,H5++Hn3) ?_
   refine⟨hkn,?_⟩
   dsimp only
   rw [hTs]
   refine (hR3.mono fun x hx=>?_).set ((RdH.of h5).mono fun x hx=>?_) _
   ·rcases List.mem_append.1 hx with h|h
    ·exact List.mem_append_left _ h
    ·exact List.mem_append_right _ (List.mem_append_right _ h)
   ·exact List.mem_append_right _ (List.mem_append_left _ hx)
  ·have hkl:k=(tabs es).length:=by omega
   rw [hkl,List.take_length] at hR3
   subst hkl
   repeat' (first|(refine W.go ?_;try intro b_)|fail)
   refine CutF.mk (vs3,Hn3) ?_
   exact hR3
 rintro⟨vs3,Hn3⟩ hR3
 dsimp only at hR3 ⊢
 have hvl5:=hR3.1
 generalize redoT E1 M1 (tabs es)=l4 at *
 have hSw:Sl 50 1 (.slice (some ⟨bb,0,none⟩) vs.length cap11) vs3 [(bb,cl (vs3++junk) 50)]:=.inr ⟨bb,vs.length,cap11,junk,rfl,by omega,hj,hlc,rfl⟩
 have hbf2:bfill (fun i=>[(0,1),(1,1),(2,2)][i]?) [.int .i64 0,.slice none 0 0,.int .u64 0,.slice none 0 0] [(0,.int .i64 2),(1,.slice (some ⟨bb,0,none⟩) vs.length cap11),(2,.agg [u64v c,.slice (some ⟨eb,0,none⟩) es.length ecap].toArray)]=some [.int .i64 2,.slice (some ⟨bb,0,none⟩) vs.length cap11,u64v c,.slice (some ⟨eb,0,none⟩) es.length ecap]:=rfl
 repeat' (first|(refine W.go ?_;try intro b_)|fail)
 refine W.call (hfi ((Ht++Hlt)++Hn3) _ vs3 l4 hR3 (by omega) hl256) ?_ (hpre:=fun w2 hs=>Rd.own (Hc:=(tr,cl (rtc d r) 128)::((Ht++Hlt)++Hn3)) hSw hs inferInstance)
 rintro _ _ ⟨rfl,rfl⟩
 by_cases hf2:fitsB p t r.root l4=true
 ·rw [if_pos hf2,hf2]
  repeat' (first|(refine W.go ?_;try intro b_)|fail)
  refine F.cHt ((tr,cl (rtc d r) 128)::(Hd++([(bb,cl (vs3++junk) 50)]++((Ht++Hlt)++Hn3)))) [.int .i64 2,.slice (some ⟨bb,0,none⟩) vs.length cap11,u64v c,.slice (some ⟨eb,0,none⟩) es.length ecap] ?_
  exact .inr ⟨hdn2,_,(c.toNat:Int),_,_,rfl,⟨rfl⟩,⟨vs3,_,_,hSw,hR3,rfl⟩,rfl⟩
 ·have hff2:fitsB p t r.root l4=false:=by simpa using hf2
  rw [if_neg hf2,hff2]
  repeat' (first|(refine W.go ?_;try intro b_)|fail)
  refine F.cHt ((tr,cl (rtc d r) 128)::(Hd++(Hv++Ht))) [.int .i64 3,.slice va vl vc,.int .u64 0,.slice none 0 0] ?_
  exact .inr ⟨hdn2,_,0,_,_,rfl,⟨rfl⟩,⟨vs,Hv,Ht,hSv,hRv,rfl⟩,rfl⟩
end Go.Proofs.YtnigolgkkjidiaaGreat
