/- A store's things; a pair of bases; a pair is formatted. -/
import Derived.Test.YtnigolgkkjidiaaGreatPm28
import Derived.Test.YtnigolgkkjidiaaGreatPm34
import Derived.Test.YtnigolgkkjidiaaGreatPm30
import Derived.Test.YtnigolgkkjidiaaGreatPm23
set_option linter.unusedVariables false
set_option linter.unusedSimpArgs false
set_option linter.unusedSectionVars false
set_option maxHeartbeats 1000000
namespace Go.Proofs.YtnigolgkkjidiaaGreat
open Go
attribute [local irreducible] SW SL SQ SH SA SS Pu Fin CutF HandF
theorem Tri.to{P:Program}{f:FuncId}{vs:List Value}{Hc:Hp}{Pre:World→Prop}{R R':Value→Hp→Prop}(h:Tri P f vs Hc Pre R)(hr:∀ v H,R v H→∃ H' r,H.Perm (H'++r)∧R' v H'):Tri P f vs Hc Pre R':=fun w ho hp=>
 (h w ho hp).mono fun e w' ⟨v,H,he,hst,hR⟩=>by
  obtain⟨H',r,h1,h2⟩:=hr v H hR
  exact⟨v,H',he,(hst.perm h1).drop,h2⟩
def StoreP(sp d tr s bk p t:Nat)(x:So)(H:Hp):Prop:=
 ∃ ev tp He Ht,H=(sp,cl [ptv d,ptv tr,ptv s,ptv bk,.int .i64 (p:Int),.int .i64 (t:Int),ev,ptv tp,.bool x.w,.int .i64 x.st] 169)::(He++Ht)∧Sl 28 1 ev (uv x.es) He∧TreeV tp bk x.lv Ht
structure So.Ok(p:Nat)(x:So):Prop where
 es:x.es.length=Gm.sealed p
 lv:x.lv.length=Gm.leaves p
 d:D32 x.lv
def RStoreP(sp d tr s p t:Nat)(x:So)(H:Hp):Prop:=
 ∃ ev lv He Hl,H=(sp,cl [ptv d,ptv tr,ptv s,.int .i64 (p:Int),.int .i64 (t:Int),ev,lv,.bool x.w,.int .i64 x.st] 344)::(He++Hl)∧Sl 28 1 ev (uv x.es) He∧Sl 118 32 lv (cbs x.lv.flatten) Hl
def StO(v:Value)(d tr s bk p t:Nat)(o:Option So)(H:Hp):Prop:=match o with|none=>v=.pointer none∧H=[]|some x=>∃ sp,v=ptv sp∧StoreP sp d tr s bk p t x H
def RStO(v:Value)(d tr s p t:Nat)(o:Option So)(H:Hp):Prop:=match o with|none=>v=.pointer none∧H=[]|some x=>∃ sp,v=ptv sp∧RStoreP sp d tr s p t x H
theorem StO.one{v:Value}{d tr s bk p t:Nat}{o:Option So}{H:Hp}(h:StO v d tr s bk p t o H):One v:=by
 cases o with
 | none=>obtain⟨rfl,-⟩:=h;infer_instance
 | some x=>obtain⟨sp,rfl,-⟩:=h;infer_instance
theorem RStO.one{v:Value}{d tr s p t:Nat}{o:Option So}{H:Hp}(h:RStO v d tr s p t o H):One v:=by
 cases o with
 | none=>obtain⟨rfl,-⟩:=h;infer_instance
 | some x=>obtain⟨sp,rfl,-⟩:=h;infer_instance
structure Pid where
 d:Nat
 tr:Nat
 s:Nat
 bk:Nat
 tb:Nat
 c:Nat
 b:Nat
 rd:Nat
 rtr:Nat
 rs:Nat
 rc:Nat
abbrev pairC(i:Pid)(p t:Nat)(sv rv:Value):List Value:=[ptv i.d,ptv i.tr,ptv i.s,ptv i.bk,.int .i64 (p:Int),.int .i64 (t:Int),sv,ptv i.rd,ptv i.rtr,ptv i.rs,.int .i64 (p:Int),.int .i64 (t:Int),rv]
def PairP(pp p t n N:Nat)(ws ws':List (List UInt8))(σ:Dv)(r:Rg)(sr:Sr)(β:Bk)(o:Option So)(H:Hp):Prop:=
 ∃ (i:Pid) (sv rv:Value) (Hd Hs Hk HD HR HS HT:Hp),DevP i.d σ Hd∧SealP i.s i.c i.b n ws sr Hs∧BookP i.bk i.tb β Hk∧DevR i.rd σ HD∧RSealP i.rs i.rc n ws' N HR∧StO sv i.d i.tr i.s i.bk p t o HS∧RStO rv i.rd i.rtr i.rs p t o HT ∧
  H=(pp,cl (pairC i p t sv rv) 43)::(i.tr,cl (trc i.d r) 225)::(i.rtr,cl (rtc i.rd r) 128)::(Hd++(Hs++(Hk++(HD++(HR++(HS++HT))))))
theorem sched_ok(k:List UInt8)(hk:k.length=16):KeyOk 10 (Aes.sched k):=by
 have h4:∀ y∈Aes.keyW k 4,y.length=4:=Aes.keyW_four (by omega)
 have hl:(Aes.keyW k 4).length=4:=Aes.keyW_len _ _
 have e:Aes.sched k=Aes.grow 4 (Aes.keyW k 4) 40:=by unfold Aes.sched;rw [hk]
 have hg:(Aes.sched k).length=44:=by rw [e,Aes.grow_len,hl]
 exact⟨by rw [e];exact Aes.grow_four (by decide) h4 (by omega) 40,by omega,by decide,by omega⟩
theorem begin2_p{p t:Nat}(h:Gm.Ok p t)(k:List UInt8)(hk:k.length=16){cnt:Int}(h0:0≤cnt)(h1:cnt≤18446744073709551615):Tri Tryz.prog 9 [geoV p t,.agg (cbs k).toArray,.int .u64 cnt] [] (fun _=>True)
  (fun v H=>∃ pp,v=ptv pp∧PairP pp p t 10 0 (Aes.sched k) (Rg.sched k) (Dv.new (4*Gm.total p t:Nat)) (rg0 cnt) Sr.new Bk.new none H):=by
 refine (begin_p h k hk h0 h1).to ?_
 rintro v H ⟨pp,rfl,d,tr,s,m,bk,tb,c,b,rd,rtr,rs,rc,Hd,Hb,Hc,HD,HR,hD,hB,hC,hDR,hR,rfl⟩
 rw [hk] at hC hR
 refine⟨(pp,cl [ptv d,ptv tr,ptv s,ptv bk,.int .i64 (p:Int),.int .i64 (t:Int),.pointer none,ptv rd,ptv rtr,ptv rs,.int .i64 (p:Int),.int .i64 (t:Int),.pointer none] 43)::(tr,cl (trc d (rg0 cnt)) 225)::(rtr,cl (rgc (rg0 cnt)++[ptv rd]) 128) ::
  (Hd++(((s,cl [ptv c,.map (some m),.slice none 0 0] 229)::(m,mo [])::((Hc++[(b,boxO)])++([]++[])))++(Hb++(HD++(((rs,cl [ptv rc,.slice none 0 0,.bool false,.int .u64 0,.int .i64 0,.slice none 0 0] 135)::(HR++([]++[])))++([]++[])))))),[],?_,?_⟩
 ·rw [List.append_nil]
  simp only [List.append_nil,List.nil_append]
  exact perm_of
 ·refine⟨pp,rfl,⟨d,tr,s,bk,tb,c,b,rd,rtr,rs,rc⟩,_,_,Hd,_,Hb,HD,_,[],[],hD,?_,hB,hDR,?_,⟨rfl,rfl⟩,⟨rfl,rfl⟩,rfl⟩
  ·exact⟨m,.slice none 0 0,[],Hc,[],[],rfl,hC,Sl.nil _ _,rfl,by simp⟩
  ·exact⟨.slice none 0 0,false,0,0,.slice none 0 0,[],HR,[],[],rfl,hR,Sl.nil _ _,Nat.le_refl _,⟨rfl⟩,by simp⟩
theorem pFormat_p{pp p t n N:Nat}{ws ws':List (List UInt8)}{σ:Dv}{r:Rg}{sr:Sr}{β:Bk}{o:Option So}{H:Hp}(h:Gm.Ok p t)(hP:PairP pp p t n N ws ws' σ r sr β o H)(hlen:σ.len=256*Gm.total p t)(hr:r.Ok)(hK:KeyOk n ws)(hK':KeyOk n ws')(hN:N≤1000000)(hX:Rg.enc ws' n=Aes.enc ws n) :
  Tri Tryz.prog 61 [ptv pp] H (fun _=>True) (fun v H'=>v=.bool true ∧
   PairP pp p t n (N+200) ws ws' (fmtS p t (ctrX (Aes.enc ws n)) (σ,r)).2.1 (fmtS p t (ctrX (Aes.enc ws n)) (σ,r)).2.2 (fmtSr p σ r sr) (fmtK p t n ws σ r β) o H'):=by
 obtain⟨i,sv,rv,Hd,Hs,Hk,HD,HR,HS,HT,hD,hS,hB,hDR,hSR,hO,hOR,rfl⟩:=hP
 refine Tri.mk Tryz.func61 rfl Tryz.ntmps61 rfl fun w hw=>?_
 have hF:=Format_p (tr:=i.tr) h hD hlen hr hS hK hB
 have hG:=rFormat_p (tr:=i.rtr) h hDR hlen hr hSR hK' hN
 rw [hX] at hG
 have o1:=hO.one
 have o2:=hOR.one
 generalize fmtS p t (ctrX (Aes.enc ws n)) (σ,r)=FF at *
 repeat' (first|(refine W.go ?_;try intro b_)|fail)
 (refine SW.regionS [9] ?_ (by kernel_rfl);refine SS.T 0 rfl ?_;refine SS.T 1 rfl ?_;refine SS.T 2 rfl ?_;(first|refine SS.lw 3 [4,9] rfl ?_|refine SS.la 3 [4,9] rfl ?_|refine SS.aR 3 rfl ?_);refine SS.T 5 rfl ?_;refine SS.T 6 rfl ?_;refine SS.T 7 rfl ?_;(first|refine SS.lw 8 [9] rfl ?_|refine SS.la 8 [9] rfl ?_|refine SS.aR 8 rfl ?_);refine SS.effK 4 ?_ rfl (by kernel_rfl))
 refine W.call hF ?_
 rintro _ _ ⟨rfl,Hd2,Hs2,Hk2,Hx,hD2,hS2,hB2,rfl⟩
 (refine SL.nilB ?_;refine SS.effB 9 ?_ rfl (by kernel_rfl))
 refine W.call hG ?_
 rintro _ _ ⟨rfl,HD2,HR2,hDR2,hSR2,rfl⟩
 (refine SL.nilB ?_;refine SS.T 10 rfl ?_;refine SS.T 11 rfl ?_;refine SS.done ?_ (by kernel_rfl))
 repeat' (first|(refine W.go ?_;try intro b_)|fail)
 refine Fin.to ((pp,cl (pairC i p t sv rv) 43)::(i.tr,cl (trc i.d FF.2.2) 225)::(i.rtr,cl (rtc i.rd FF.2.2) 128)::(Hd2++(Hs2++(Hk2++(HD2++(HR2++(HS++HT))))))) ?_
 exact F.f1 ⟨rfl,i,sv,rv,Hd2,Hs2,Hk2,HD2,HR2,HS,HT,hD2,hS2,hB2,hDR2,hSR2,hO,hOR,rfl⟩
end Go.Proofs.YtnigolgkkjidiaaGreat
namespace Go.Proofs.YtnigolgkkjidiaaGreat
open Go
attribute [local irreducible] SW SL SQ SH SA SS Pu Fin CutF HandF
abbrev geV(P T:Int):Value:=.agg #[.int .i64 P,.int .i64 T]
def GoK(P T:Int):Prop:=1≤P∧P≤64∧4≤T∧T≤24
theorem rgmay_bad{P T:Int}(h:¬ GoK P T):Tri Tryz.prog 27 [geV P T] [] (fun _=>True) (fun v H=>v=.bool false∧H=[]):=by
 unfold GoK at h
 refine Tri.mk Tryz.func27 rfl Tryz.ntmps27 rfl fun w hw=>?_
 by_cases h1:P<1
 ·repeat' (first|(refine W.go ?_;try intro b_)|fail)
  refine Fin.to [] ?_
  exact F.f1 ⟨rfl,rfl⟩
 by_cases h2:64<P
 ·repeat' (first|(refine W.go ?_;try intro b_)|fail)
  refine Fin.to [] ?_
  exact F.f1 ⟨rfl,rfl⟩
 by_cases h3:T<4
 ·repeat' (first|(refine W.go ?_;try intro b_)|fail)
  refine Fin.to [] ?_
  exact F.f1 ⟨rfl,rfl⟩
 have h4:24<T:=by omega
 repeat' (first|(refine W.go ?_;try intro b_)|fail)
 refine Fin.to [] ?_
 exact F.f1 ⟨rfl,rfl⟩
section
variable {d s bk:Nat}{tv:Value}{P T e:Int}{Hd:Hp}
end
end Go.Proofs.YtnigolgkkjidiaaGreat
namespace Go.Proofs.YtnigolgkkjidiaaGreat
open Go
theorem fmt_new{p t:Nat}(h:Gm.Ok p t){E:List UInt8→List UInt8}(hE:∀ x,(E x).length=16){cnt:Int}(h0:0≤cnt)(h1:cnt≤18446744073709551613)(ht:4*Gm.total p t≤1024) :
  ∃ σ',fmtS p t (ctrX E) (Dv.new (4*Gm.total p t:Nat),rg0 cnt)=(0,(σ',{ c:=cnt+2,root:=rootB (blanks p t (ctrX E) (UInt64.ofNat (cnt+2).toNat)) })) ∧
   σ'.Sta (8*(4*Gm.total p t)) ((blanks p t (ctrX E) (UInt64.ofNat (cnt+2).toNat)).flatten++List.replicate (256*(1+t)) 0):=
 fmt_sta (new_sta _ ht) (by unfold Gm.total;omega) h1 (blanks_256 hE _) (blanks_len _ _ _ _)
theorem ok34:Gm.Ok 3 4:=⟨by decide,by decide,by decide,by decide⟩
theorem aes_eq(k:List UInt8)(hk:k.length=16):Rg.enc (Rg.sched k) 10=Aes.enc (Aes.sched k) 10:=Ae.encs k hk 10 (by decide)
theorem rsched_ok(k:List UInt8)(hk:k.length=16):KeyOk 10 (Rg.sched k):=by rw [Ae.sched_eq k hk];exact sched_ok k hk
theorem fresh_read{e:UInt64}(he:e=2){E:List UInt8→List UInt8}(hE:∀ x,(E x).length=16){σ:Dv}{n:Nat}{R:List UInt8}(h:σ.Sta n ((blanks 3 4 (ctrX E) e).flatten++R))(hn:8*n=256*Gm.total 3 4){j:Nat}(hj:j<5)(wr:Bool) :
  rdS 3 (ctrX E) (j:Int) σ ⟨epsB 3 (blanks 3 4 (ctrX E) e),sumsB (blanks 3 4 (ctrX E) e),wr,0⟩=(0,List.replicate 256 0,⟨epsB 3 (blanks 3 4 (ctrX E) e),sumsB (blanks 3 4 (ctrX E) e),wr,0⟩):=by
 subst he
 have hB:=blanks_256 (p:=3) (t:=4) hE 2
 have hBj:(blanks 3 4 (ctrX E) 2)[Ks 3 j]?=some (ctrX E 2 j (List.replicate 256 0)):=by
  match j,hj with
  | 0,_=>rfl
  | 1,_=>rfl
  | 2,_=>rfl
  | 3,_=>rfl
  | 4,_=>rfl
 have hes:(epsB 3 (blanks 3 4 (ctrX E) 2)).getD j 0=2:=by
  have e0:((blanks 3 4 (ctrX E) 2).drop 1).take (Gm.epochs 3)=[epB 0 (List.replicate 5 2)]:=rfl
  have e1:epsB 3 (blanks 3 4 (ctrX E) 2)=(List.range 5).map (epAt [epB 0 (List.replicate 5 2)]):=by unfold epsB;rw [e0];rfl
  rw [e1]
  have:∀ j<5,((List.range 5).map (epAt [epB 0 (List.replicate 5 2)])).getD j 0=2:=by decide +kernel
  exact this j hj
 have h7:1+Gm.epochs 3+j+1≤7:=by show 1+1+j+1≤7;omega
 have h72:7≤Gm.total 3 4:=by decide
 have hbk:σ.blk (Ks 3 j)=ctrX E 2 j (List.replicate 256 0):=h.blk hB hBj (by rw [hn];show 256*(1+Gm.epochs 3+j+1)≤256*Gm.total 3 4;omega)
 have hlv:leafV (sumsB (blanks 3 4 (ctrX E) 2)) ((Ks 3 j:Nat):Int)=Sha.sum (leafT (Ks 3 j) (ctrX E 2 j (List.replicate 256 0))):=by
  unfold leafV
  have hl:Ks 3 j<(sumsB (blanks 3 4 (ctrX E) 2)).length:=by
   rw [sumsB_len]
   exact (List.getElem?_eq_some_iff.1 hBj).1
  rw [if_pos ⟨by omega,by exact_mod_cast hl⟩,Int.toNat_natCast]
  unfold sumsB
  rw [List.getD_eq_getElem?_getD,List.getElem?_mapIdx,hBj]
  rfl
 have hin:(0:Int)≤(j:Int)∧(j:Int)<(Gm.sealed 3:Nat):=⟨by omega,by show (j:Int)<((5:Nat):Int);omega⟩
 unfold rdS
 rw [if_neg (fun hh=>hh rfl),if_neg (fun hh=>hh hin),if_neg (by rw [h.l.d];decide),Int.toNat_natCast,hbk,if_neg (fun hh=>hh hlv.symm)]
 dsimp only
 rw [hes,ctrX_twice hE]
end Go.Proofs.YtnigolgkkjidiaaGreat
