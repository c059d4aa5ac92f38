/- A base, begun: the program's and the document's. -/
import Derived.Test.YtnigolgkkjidiaaGreatPm16
import Derived.Test.YtnigolgkkjidiaaGreatPm8
import Derived.Test.YtnigolgkkjidiaaGreatPm17
import Derived.Test.YtnigolgkkjidiaaGreatPm18
import Derived.Test.YtnigolgkkjidiaaGreatPm10
set_option linter.unusedVariables false
set_option linter.unusedSimpArgs false
set_option linter.unusedSectionVars false
set_option maxHeartbeats 1000000
namespace Go.Proofs.YtnigolgkkjidiaaGreat
open Go
attribute [local irreducible] SW SL SQ SH SA SS Pu Fin CutF HandF
theorem snew_p(c:Nat):Tri Tryz.prog 44 [.pointer (some ⟨c,0,none⟩)] [] (fun _=>True) (fun v H=>∃ s m,v=.pointer (some ⟨s,0,none⟩)∧H=[(s,cl [.pointer (some ⟨c,0,none⟩),.map (some m),.slice none 0 0] 229),(m,mo [])]):=by
 refine Tri.mk Tryz.func44 rfl Tryz.ntmps44 rfl fun w hw=>?_
 have hb:∀ m:Nat,bfill (fun i=>[(0,1),(1,1),(2,1)][i]?) [.pointer none,.map none,.slice none 0 0] [(0,.pointer (some ⟨c,0,none⟩)),(1,.map (some m))]=some [.pointer (some ⟨c,0,none⟩),.map (some m),.slice none 0 0]:=fun m=>rfl
 repeat' (first|(refine W.go ?_;try intro b_)|fail)
 refine W.mkm fun m=>?_
 have hbm:=hb m
 repeat' (first|(refine W.go ?_;try intro b_)|fail)
 refine Fin.to [(b_,cl [.pointer (some ⟨c,0,none⟩),.map (some m),.slice none 0 0] 229),(m,mo [])] ?_
 exact F.f1 ⟨b_,m,rfl,rfl⟩
def rg0(cnt:Int):Rg:=⟨cnt,List.replicate 32 0⟩
theorem rg0_ok{cnt:Int}(h0:0≤cnt)(h1:cnt≤18446744073709551615):(rg0 cnt).Ok:=⟨rfl,h0,h1⟩
def PairB(pp p t:Nat)(k:List UInt8)(cnt:Int)(H:Hp):Prop:=
 ∃ d tr s m bk tb c b rd rtr rs rc Hd Hb Hc HD HR,DevP d (Dv.new (4*Gm.total p t:Nat)) Hd∧BookP bk tb Bk.new Hb∧CipP c b (k.length/4+6) (Aes.sched k) Hc∧DevR rd (Dv.new (4*Gm.total p t:Nat)) HD∧RCipP rc (k.length/4+6) (Rg.sched k) HR ∧
  H=(pp,cl [ptv d,ptv tr,ptv s,ptv bk,.int .i64 (p:Int),.int .i64 (t:Int),.pointer none,ptv rd,ptv rtr,ptv rs,.int .i64 (p:Int),.int .i64 (t:Int),.pointer none] 43) ::
   (tr,cl (trc d (rg0 cnt)) 225)::(s,cl [ptv c,.map (some m),.slice none 0 0] 229)::(m,mo [])::(b,boxO) ::
   (rtr,cl (rgc (rg0 cnt)++[ptv rd]) 128)::(rs,cl [ptv rc,.slice none 0 0,.bool false,.int .u64 0,.int .i64 0,.slice none 0 0] 135) ::
   (Hd++(Hb++(Hc++(HD++HR))))
theorem begin_p{p t:Nat}(h:Gm.Ok p t)(k:List UInt8)(hk:k.length=16){cnt:Int}(h0:0≤cnt)(h1:cnt≤18446744073709551615):Tri Tryz.prog 9 [geoV p t,.agg (cbs k).toArray,.int .u64 cnt] [] (fun _=>True)
  (fun v H=>∃ pp,v=ptv pp∧PairB pp p t k cnt H):=by
 refine Tri.mk Tryz.func9 rfl Tryz.ntmps9 rfl fun w hw=>?_
 have hall:=rgall_p h
 have htot:=Gm.total_le2 h
 have hpl:=pcs_len (Gm.all p t)
 rw [Gm.all_len] at hpl
 unfold PairB
 generalize Gm.total p t=n at *
 repeat' (first|(refine W.go ?_;try intro b_)|fail)
 refine W.call hall ?_
 rintro v1 H1 ⟨Hs,hS,rfl⟩
 obtain⟨a,len,cap,rfl,hl1⟩:=hS.form
 have hl2:len=n:=by omega
 subst hl2
 repeat' (first|(refine W.go ?_;try intro b_)|fail)
 rw [show (4:Int)*(len:Int)=((4*len:Nat):Int) by omega]
 (refine SW.regionS [] ?_ (by kernel_rfl);refine SS.tw 1 rfl (p_sar rfl rfl) ?_;refine SS.effK 0 ?_ rfl (by kernel_rfl))
 refine W.call newbox_p ?_
 rintro _ _ ⟨b,rfl,rfl⟩
 (refine SL.nilB ?_;refine SS.effK 2 ?_ rfl (by kernel_rfl))
 rename_i bg
 refine W.call (anew_p (b:=b) (len:=16) (cap:=16) k (.inl hk)) ?_ (hpre:=fun w2 hs=>Rd.atB (Hc:=[(b,boxO)]) (T:=27) (fz:=(0,0)) k hs hk (Nat.le_refl _))
 rintro _ _ ⟨c,Hc,rfl,hC,rfl⟩
 (refine SL.nilB ?_;refine SS.T 3 rfl ?_;refine SS.T 4 rfl ?_;refine SS.T 5 rfl ?_;refine SS.T 6 rfl ?_;refine SS.T 7 rfl ?_;refine SS.done ?_ (by kernel_rfl))
 repeat' (first|(refine W.go ?_;try intro b_)|fail)
 refine W.call (nnew_p ((4*len:Nat):Int)) ?_
 rintro _ Hd ⟨d,rfl,hD⟩
 repeat' (first|(refine W.go ?_;try intro b_)|fail)
 (refine SW.regionS [12] ?_ (by kernel_rfl);refine SS.T 0 rfl ?_;refine SS.T 1 rfl ?_;refine SS.T 2 rfl ?_;refine SS.T 3 rfl ?_;refine SS.T 5 rfl ?_;(first|refine SS.lw 9 [10,11,12] rfl ?_|refine SS.la 9 [10,11,12] rfl ?_|refine SS.aR 9 rfl ?_);refine SS.effK 4 ?_ rfl (by kernel_rfl))
 refine W.call (at_p d (rg0 cnt) (rg0_ok h0 h1)) ?_
 rintro _ _ ⟨tr,rfl,rfl⟩
 (refine SL.nilB ?_;refine SS.effK 6 ?_ rfl (by kernel_rfl))
 refine W.call (snew_p c) ?_
 rintro _ _ ⟨s,m,rfl,rfl⟩
 (refine SL.nilB ?_;refine SS.effK 7 ?_ rfl (by kernel_rfl))
 refine W.call make_p ?_
 rintro _ _ ⟨tb,rfl,rfl⟩
 (refine SL.nilB ?_;refine SS.effK 8 ?_ rfl (by kernel_rfl))
 refine W.call (BNew_p tb) ?_
 rintro _ Hb ⟨bk,rfl,hB⟩
 have hb41:bfill (fun i=>[(0,1),(1,1),(2,1),(3,1),(4,2)][i]?) [.pointer none,.pointer none,.pointer none,.pointer none,.int .i64 0,.int .i64 0] [(0,ptv d),(1,ptv tr),(2,ptv s),(3,ptv bk),(4,geoV p t)]=some [ptv d,ptv tr,ptv s,ptv bk,.int .i64 (p:Int),.int .i64 (t:Int)]:=rfl
 have hb56:bfill (fun i=>[(0,6),(6,1),(7,5),(12,1)][i]?) (List.replicate 4 (.pointer none)++[.int .i64 0,.int .i64 0]++List.replicate 4 (.pointer none)++[.int .i64 0,.int .i64 0]++[.pointer none]) [(0,.agg [ptv d,ptv tr,ptv s,ptv bk,.int .i64 (p:Int),.int .i64 (t:Int)].toArray)]=some [ptv d,ptv tr,ptv s,ptv bk,.int .i64 (p:Int),.int .i64 (t:Int),.pointer none,.pointer none,.pointer none,.pointer none,.int .i64 0,.int .i64 0,.pointer none]:=rfl
 (refine SL.nilB ?_;refine SS.T 10 rfl ?_;refine SS.T 11 rfl ?_;refine SS.effB 12 ?_ rfl (by kernel_rfl);(repeat' (first|(refine W.g1 ?_;try intro b_)|fail));refine SS.T 13 rfl ?_;refine SS.done ?_ (by kernel_rfl))
 rename_i bk4
 clear hb41 hb56
 refine SW.fr [2,3,4,7,11] ?_
 repeat' (first|(refine W.go ?_;try intro b_)|fail)
 refine W.call (rnew_p (4*len) (by omega)) ?_
 rintro _ HD ⟨rd,rfl,hDR⟩
 have hb97:bfill (fun i=>[(0,1),(1,32)][i]?) ([.int .u64 0]++List.replicate 32 (.int .u8 0)) [(0,.int .u64 cnt)]=some (rgc (rg0 cnt)):=rfl
 have hb101:bfill (fun i=>[(0,33),(33,1)][i]?) ([.int .u64 0]++List.replicate 32 (.int .u8 0)++[.pointer none]) [(0,.agg (rgc (rg0 cnt)).toArray),(1,ptv rd)]=some (rgc (rg0 cnt)++[ptv rd]):=rfl
 have hb108:∀ rc,bfill (fun i=>[(0,1),(1,1),(2,1),(3,3)][i]?) [.pointer none,.slice none 0 0,.bool false,.int .u64 0,.int .i64 0,.slice none 0 0] [(0,ptv rc)]=some [ptv rc,.slice none 0 0,.bool false,.int .u64 0,.int .i64 0,.slice none 0 0]:=fun rc=>rfl
 have hb53:∀ rtr rs,bfill (fun i=>[(0,1),(1,1),(2,1),(3,2)][i]?) [.pointer none,.pointer none,.pointer none,.int .i64 0,.int .i64 0] [(0,ptv rd),(1,ptv rtr),(2,ptv rs),(3,geoV p t)]=some [ptv rd,ptv rtr,ptv rs,.int .i64 (p:Int),.int .i64 (t:Int)]:=fun _ _=>rfl
 repeat' (first|(refine W.go ?_;try intro b_)|fail)
 (refine SW.regionS [15] ?_ (by kernel_rfl);refine SS.T 0 rfl ?_;refine SS.T 1 rfl ?_;refine SS.T 2 rfl ?_;refine SS.T 3 rfl ?_;refine SS.T 4 rfl ?_;refine SS.T 5 rfl ?_;refine SS.tw 7 rfl (p_sar rfl rfl) ?_;(first|refine SS.lw 11 [15] rfl ?_|refine SS.la 11 [15] rfl ?_|refine SS.aR 11 rfl ?_);skip )
 refine SS.twoK 6 8 ?a ?b rfl rfl
 case' a=>
  refine W.bxa fun rtr=>?_
  refine SL.nilB ?_
  refine SS.effK 8 ?_ rfl (by kernel_rfl)
  refine W.call (ranew_p (len:=16) (cap:=16) k (.inl hk)) ?_ (hpre:=fun w2 hs=>Rd.atB (Hc:=[]) (T:=27) (fz:=(0,0)) k hs hk (Nat.le_refl _))
  rintro _ HR ⟨rc,rfl,hR⟩
  have hbrc:=hb108 rc
  refine SL.nilB ?_
  refine SS.tw 9 rfl (p_build rfl rfl hbrc) ?_
  refine SS.effK 10 ?_ rfl (by kernel_rfl)
  refine W.bxa fun rs=>?_
 case' b=>
  refine W.call (ranew_p (len:=16) (cap:=16) k (.inl hk)) ?_ (hpre:=fun w2 hs=>Rd.atB (Hc:=[]) (T:=27) (fz:=(0,0)) k hs hk (Nat.le_refl _))
  rintro _ HR ⟨rc,rfl,hR⟩
  have hbrc:=hb108 rc
  refine SL.nilB ?_
  refine SS.tw 9 rfl (p_build rfl rfl hbrc) ?_
  refine SS.twoK 6 10 ?c ?d rfl rfl
  case' c=>
   refine W.bxa fun rtr=>?_
   refine SL.nilB ?_
   refine SS.effK 10 ?_ rfl (by kernel_rfl)
   refine W.bxa fun rs=>?_
  case' d=>
   refine W.bxa fun rs=>?_
   refine SL.nilB ?_
   refine SS.effK 6 ?_ rfl (by kernel_rfl)
   refine W.bxa fun rtr=>?_
 all_goals
  (refine SL.nilB ?_;refine SS.tw 12 rfl (p_build rfl rfl (hb53 rtr rs)) ?_;refine SS.T 13 rfl ?_;refine SS.T 14 rfl ?_;refine SS.effB 15 ?_ rfl (by kernel_rfl);(repeat' (first|(refine W.g1 ?_;try intro b_)|fail));refine SS.done ?_ (by kernel_rfl))
  rw [show List.take 7 ([ptv d,ptv tr,ptv s,ptv bk,.int .i64 (p:Int),.int .i64 (t:Int),.pointer none,.pointer none,.pointer none,.pointer none,.int .i64 0,.int .i64 0,.pointer none]:List Value)++[ptv rd,ptv rtr,ptv rs,.int .i64 (p:Int),.int .i64 (t:Int)]++List.drop (7+5) ([ptv d,ptv tr,ptv s,ptv bk,.int .i64 (p:Int),.int .i64 (t:Int),.pointer none,.pointer none,.pointer none,.pointer none,.int .i64 0,.int .i64 0,.pointer none]:List Value)=[ptv d,ptv tr,ptv s,ptv bk,.int .i64 (p:Int),.int .i64 (t:Int),.pointer none,ptv rd,ptv rtr,ptv rs,.int .i64 (p:Int),.int .i64 (t:Int),.pointer none] from rfl]
  repeat' (first|(refine W.go ?_;try intro b_)|fail)
  refine Fin.to ((b_,cl [ptv d,ptv tr,ptv s,ptv bk,.int .i64 (p:Int),.int .i64 (t:Int),.pointer none,ptv rd,ptv rtr,ptv rs,.int .i64 (p:Int),.int .i64 (t:Int),.pointer none] 43) ::
   (tr,cl (trc d (rg0 cnt)) 225)::(s,cl [ptv c,.map (some m),.slice none 0 0] 229)::(m,mo [])::(b,boxO) ::
   (rtr,cl (rgc (rg0 cnt)++[ptv rd]) 128)::(rs,cl [ptv rc,.slice none 0 0,.bool false,.int .u64 0,.int .i64 0,.slice none 0 0] 135) ::
   (Hd++(Hb++(Hc++(HD++HR))))) ?_
  refine F.f1 ⟨b_,rfl,?_⟩
  exact⟨d,tr,s,m,bk,tb,c,b,rd,rtr,rs,rc,Hd,Hb,Hc,HD,HR,hD,hB,hC,hDR,hR,rfl⟩
abbrev baseV(d tr s bk p t:Nat):Value:=.agg #[ptv d,ptv tr,ptv s,ptv bk,.int .i64 (p:Int),.int .i64 (t:Int)]
def Dv.blk(σ:Dv)(k:Nat):List UInt8:=σ.loadB (256*k:Nat) 256
end Go.Proofs.YtnigolgkkjidiaaGreat
