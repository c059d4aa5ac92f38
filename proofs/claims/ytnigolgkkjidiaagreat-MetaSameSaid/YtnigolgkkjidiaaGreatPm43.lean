/- A Meta is loaded of a new store. -/
import Derived.Test.YtnigolgkkjidiaaGreatPm41
import Derived.Test.YtnigolgkkjidiaaGreatPm42
set_option linter.unusedVariables false
set_option linter.unusedSimpArgs false
set_option linter.unusedSectionVars false
set_option maxHeartbeats 4000000
namespace Go.Proofs.YtnigolgkkjidiaaGreat
open Go
attribute [local irreducible] SW SL SQ SH SA SS Pu Fin CutF HandF
abbrev key3:List UInt8:=3::List.replicate 15 0
theorem begun22_p:Tri Tryz.prog 83 [geoV 3 4] [] (fun _=>True)
  (fun v H=>∃ pp b rb,v=.tuple #[ptv pp,ptv b,ptv rb,.bool true]∧BegP key3 pp b ((4:Nat):Int) [] H):=by
 refine Tri.mk Tryz.func83 rfl Tryz.ntmps83 rfl fun w hw=>?_
 obtain⟨k,hkk⟩:∃ k,k=key3:=⟨_,rfl⟩
 have hk:k.length=16:=by rw [hkk];rfl
 have hbk:bfill (fun i=>some (i*1,1)) (List.replicate 16 (.int .u8 0)) [(0,.int .u8 3)]=some (cbs k):=by rw [hkk];rfl
 rw [← hkk]
 have hk0:(cbs k).length=16:=by rw [cbs_len];exact hk
 obtain⟨σ',hF,hSta⟩:=fmt_new ok34 (E:=Aes.enc (Aes.sched k) 10) (fun x=>Aes.enc_len ..) (cnt:=0) (by decide) (by decide) (by decide)
 have hB:=blanks_256 (p:=3) (t:=4) (E:=Aes.enc (Aes.sched k) 10) (fun x=>Aes.enc_len ..) (UInt64.ofNat ((0:Int)+2).toNat)
 have hBl:=blanks_len 3 4 (ctrX (Aes.enc (Aes.sched k) 10)) (UInt64.ofNat ((0:Int)+2).toNat)
 have hB0:(blanks 3 4 (ctrX (Aes.enc (Aes.sched k) 10)) (UInt64.ofNat ((0:Int)+2).toNat)).getD 0 []=superB 3 4:=rfl
 have hX:=aes_eq k hk
 have hK:=sched_ok k hk
 have hK':=rsched_ok k hk
 have hbeg:=begin2_p ok34 k hk (cnt:=0) (by decide) (by decide)
 have hpf:=fun pp H hP=>pFormat_p (pp:=pp) (H:=H) (o:=none) (N:=0) (sr:=Sr.new) (β:=Bk.new) (σ:=Dv.new (4*Gm.total 3 4:Nat)) (r:=rg0 0) ok34 hP (by have:=(new_sta (4*Gm.total 3 4) (by decide)).len;omega) (rg0_ok (by decide) (by decide)) hK hK' (by omega) hX
 rw [hF] at hpf
 have hfr:=fun (τ:Dv) (n:Nat) (R:List UInt8) (h:τ.Sta n ((blanks 3 4 (ctrX (Aes.enc (Aes.sched k) 10)) (UInt64.ofNat ((0:Int)+2).toNat)).flatten++R)) (hn:8*n=256*Gm.total 3 4) (j:Nat) (hj:j<5)=>fresh_read (e:=UInt64.ofNat ((0:Int)+2).toNat) rfl (E:=Aes.enc (Aes.sched k) 10) (fun x=>Aes.enc_len ..) h hn hj true
 generalize fmtSr 3 (Dv.new (4*Gm.total 3 4:Nat)) (rg0 0) Sr.new=sr at *
 generalize fmtK 3 4 10 (Aes.sched k) (Dv.new (4*Gm.total 3 4:Nat)) (rg0 0) Bk.new=β at *
 generalize hXX:ctrX (Aes.enc (Aes.sched k) 10)=X at *
 generalize blanks 3 4 X (UInt64.ofNat ((0:Int)+2).toNat)=B at *
 have hrl:(rootB B).length=32:=Sha.sum_len _
 have hlen:σ'.len=256*Gm.total 3 4:=by rw [hSta.len];rfl
 generalize hrr:({ c:=0+2,root:=rootB B }:Rg)=r2 at *
 have hr2:r2.Ok:=by rw [← hrr];exact⟨hrl,by show (0:Int)≤0+2;decide,by show (0:Int)+2≤_;decide⟩
 obtain⟨σ3,hO,hS3⟩:=open_sta (r:=r2) hSta (by rfl) hB hBl (by rw [← hrr]) hB0 (by rw [← hrr];show (0:Int)+2<_;decide)
 have hlk:lookB 3 4 σ' r2=(1,B):=look_sta hSta (by rfl) hB hBl (by rw [← hrr]) hB0
 have hpo:=fun pp H hP=>pOpen_p (pp:=pp) (H:=H) (n:=10) (N:=0+200) (ws:=Aes.sched k) (ws':=Rg.sched k) (sr:=sr) (β:=β) (o:=none) (σ:=σ') (r:=r2) ok34 hP hlen hr2 true
 have hoo:openO 3 4 true σ' r2=some ⟨epsB 3 B,sumsB B,true,0⟩:=by unfold openO;rw [hO,if_pos rfl,hlk]
 rw [hO,hoo] at hpo
 have hfr3:=hfr σ3 _ _ hS3 rfl
 have hlen3:σ3.len=256*Gm.total 3 4:=by rw [hS3.len];rfl
 have hxo:(⟨epsB 3 B,sumsB B,true,0⟩:So).Ok 3:=⟨by unfold epsB;simp,by dsimp only;rw [sumsB_len,hBl],sumsB_32 _⟩
 clear hfr hB hBl hB0 hSta hS3 hO hlk hoo hF hX hK hK'
 generalize openK 3 4 true σ' r2 β=β2 at *
 generalize hso:(⟨epsB 3 B,sumsB B,true,0⟩:So)=so at *
 have hst:so.st=0:=by rw [← hso]
 generalize ({ r2 with c:=r2.c+1 }:Rg)=r3 at *
 dsimp only at hpo hpf
 repeat' (first|(refine W.go ?_;try intro b_)|fail)
 refine W.call hbeg ?_
 rintro _ H1 ⟨pp,rfl,hP⟩
 repeat' (first|(refine W.go ?_;try intro b_)|fail)
 refine W.call (hpf pp H1 hP) ?_
 rintro _ H2 ⟨rfl,hP2⟩
 clear hpf hbeg hP
 repeat' (first|(refine W.go ?_;try intro b_)|fail)
 refine W.call (hpo pp H2 hP2) ?_
 rintro _ H3 ⟨rfl,hP3⟩
 clear hpo hP2
 obtain⟨i,sv,rv,Hd,Hs,Hk,HD,HR,HS,HT,hD,hS,hBk,hDR,hSR,⟨sp,rfl,hSt⟩,⟨rsp,rfl,hRt⟩,rfl⟩:=hP3
 repeat' (first|(refine W.go ?_;try intro b_)|fail)
 (refine SW.regionS [] ?_ (by kernel_rfl);refine SS.tw 0 rfl (p_move rfl rfl) ?_;refine SS.tw 1 rfl (p_move rfl rfl) ?_;refine SS.tw 2 rfl (p_nil rfl rfl) ?_;refine SS.tw 3 rfl (p_fieldAddr rfl rfl OfN.ok) ?_;(first|refine SS.ls 4 [] rfl ?_|refine SS.sR 4 rfl ?_);refine SS.tw 5 rfl (p_fieldAddr rfl rfl OfN.ok) ?_;(first|refine SS.ls 6 [] rfl ?_|refine SS.sR 6 rfl ?_);refine SS.tw 8 rfl (p_move rfl rfl) ?_;refine SS.tw 9 rfl (p_nil rfl rfl) ?_;refine SS.tw 10 rfl (p_fieldAddr rfl rfl OfN.ok) ?_;(first|refine SS.ls 11 [] rfl ?_|refine SS.sR 11 rfl ?_);refine SS.tw 12 rfl (p_fieldAddr rfl rfl OfN.ok) ?_;(first|refine SS.ls 13 [] rfl ?_|refine SS.sR 13 rfl ?_);refine SS.tw 14 rfl (p_build rfl rfl (by first|assumption|rfl)) ?_;skip )
 refine SS.twoK 7 15 ?a ?b rfl rfl
 case' a=>
  refine W.call (bNew_p sp (most:=((4:Nat):Int)) (by decide)) ?_
  rintro _ HB ⟨b,rfl,hBt⟩
  refine SL.nilB ?_
  refine SS.T 16 rfl ?_
  refine SS.T 17 rfl ?_
  refine SS.effK 15 ?_ rfl (by kernel_rfl)
  refine W.bxa fun rb=>?_
  refine SL.nilB ?_
  refine SS.T 18 rfl ?_
  refine SS.T 19 rfl ?_
  refine SS.done ?_ (by kernel_rfl)
 case' b=>
  refine W.bxa fun rb=>?_
  refine SL.nilB ?_
  refine SS.effK 7 ?_ rfl (by kernel_rfl)
  refine W.call (bNew_p sp (most:=((4:Nat):Int)) (by decide)) ?_
  rintro _ HB ⟨b,rfl,hBt⟩
  refine SL.nilB ?_
  refine SS.T 16 rfl ?_
  refine SS.T 17 rfl ?_
  refine SS.T 18 rfl ?_
  refine SS.T 19 rfl ?_
  refine SS.done ?_ (by kernel_rfl)
 all_goals
  repeat' (first|(refine W.go ?_;try intro b_)|fail)
  refine Fin.to ((pp,cl (pairC i 3 4 (ptv sp) (ptv rsp)) 43)::(Hd++(Hs++(Hk++(HS++HB))))) ?_
  refine F.f4 ⟨pp,b,rb,rfl,i,sp,ptv rsp,σ3,so,sr,β2,Hd,Hs,Hk,HS,HB,hD,hS,hBk,hSt,hBt,hxo,hst,hlen3,by rw [hXX];exact hfr3,rfl⟩
structure LdS where
 k:Nat
 lv:Value
 vs:List Value
 Hl:Hp
 Hv:Hp
 HS:Hp
 Hk:Hp
 β:Bk
theorem mLoadZ_p{b sp d tr s bk tb c0 bb n:Nat}{ws:List (List UInt8)}{sr:Sr}{most:Int}{HB Hd HS Hk Hs:Hp}{σ:Dv}{x:So}{β:Bk}(hB:BatP b sp most [] HB)(hx:x.Ok 3)(hD:DevP d σ Hd)(hlen:σ.len=256*Gm.total 3 4)(hS:StoreP sp d tr s bk 3 4 x HS)(hK:BookP bk tb β Hk)(hSe:SealP s c0 bb n ws sr Hs)(hKo:KeyOk n ws)
  (hz:∀ j:Nat,j<5→rdS 3 (ctrX (Aes.enc ws n)) (j:Int) σ x=(0,z256,x)) :
  Tri Tryz.prog 84 [ptv b,geoV 3 4] (HB++(HS++(Hd++(Hs++Hk)))) (fun _=>True) (fun r H=>∃ pv,r=.tuple #[.agg (metaC 1 (List.replicate 16 0) pv).toArray,.int .i64 0]∧Sl 185 5 pv (pgsC (zpg 3)) H):=by
 refine Tri.mk Tryz.func84 rfl Tryz.ntmps84 rfl fun w hw=>?_
 repeat' (first|(refine W.go ?_;try intro b_)|fail)
 refine W.call (gcheck_p ok34') ?_
 rintro _ _ ⟨rfl,rfl⟩
 repeat' (first|(refine W.go ?_;try intro b_)|fail)
 refine W.call gmaps34_p ?_
 rintro _ _ ⟨rfl,rfl⟩
 repeat' (first|(refine W.gb ?_;try intro b_)|fail)
 rename_i g
 refine SW.block ?_
 repeat' (first|(refine W.gb ?_;try intro b_)|fail)
 refine SW.loopF [3,4,6,19] (fun y:LdS=>[(7,y.lv),(20,.int .i64 y.k)]) (fun y=>(g,cl (geoL 3 4) 23)::(b_,cl (List.replicate 17 (.int .u64 0)++[.slice none 0 0]) 91)::(HB++(y.HS++(Hd++(Hs++(y.Hk++(y.Hl++y.Hv))))))) (fun y=>2-y.k) (fun y=>y.k≤2∧Sl 50 1 y.lv y.vs y.Hl∧y.vs.length=y.k∧(∀ v∈y.vs,RdH y.Hv v z256)∧StoreP sp d tr s bk 3 4 x y.HS∧BookP bk tb y.β y.Hk) ⟨0,.slice none 0 0,[],[],[],HS,Hk,β⟩ ⟨Nat.zero_le _,Sl.nil _ _,rfl,by simp,hS,hK⟩ ?_
 rintro⟨k,lv,vs,Hl,Hv,HS,Hk,β⟩ ⟨hk,hl,hvl,hvs,hS,hK⟩
 dsimp only at hk hl hvl hvs hS hK ⊢
 have hl1:=hl.isOne
 by_cases hk2:k<2
 ·have hG:=bGet_p hB ok34' hx hD hlen hS hK hSe hKo (hz k (by omega))
  rw [show (Bl.at [] (k:Int)).getD z256=z256 from rfl] at hG
  repeat' (first|(refine W.go ?_;try intro b_)|fail)
  refine SL.callv (HB++(HS++(Hd++(Hs++Hk)))) rfl rfl rfl rfl rfl rfl hG (fun _ _=>trivial) ?_
  rintro _ _ ⟨v1,Hr,HS2,Hk2,β2,rfl,h1,hS2,hK2,rfl⟩
  have h11:=h1.isOne
  obtain⟨a1,l1,c1,rfl,hl1'⟩:=h1.form
  have hb1:bfill (fun i=>some (i*1,1)) (zs [.slice none 0 0] 1) [(0,.slice a1 l1 c1)]=some [.slice a1 l1 c1]:=rfl
  repeat' (first|(refine W.go ?_;try intro b_)|fail)
  refine W.ap (ys:=[.slice a1 l1 c1]) (mm:=1) hl (fun w2 hs=>(Sl.own 50 1 b_ (xs:=[.slice a1 l1 c1]) rfl).srcAt hs inferInstance) (fun lv2 Hl2 hl2=>?_) (hys:=rfl) (hbytes:=by rw [hvl];simp <;> omega)
  have hl21:=hl2.isOne
  repeat' (first|(refine W.go ?_;try intro b_)|fail)
  refine HandF.mk ⟨k+1,lv2,vs++[.slice a1 l1 c1],Hl2,Hv++Hr,HS2,Hk2,β2⟩ ?_
  refine⟨by dsimp only;omega,hl2,by rw [List.length_append,hvl];rfl,fun v hv=>?_,hS2,hK2⟩
  rcases List.mem_append.1 hv with h|h
  ·exact (hvs v h).mono fun z hz=>List.mem_append_left _ hz
  ·rw [List.mem_singleton.1 h]
   exact (RdH.of h1).mono fun z hz=>List.mem_append_right _ hz
 ·have hk3:k=2:=by omega
  subst hk3
  match vs,hvl with
  | [v0,v1],_=>
   rcases hl with ⟨-,h,-⟩|⟨q,ql,qc,qj,rfl,hq1,hq2,hq3,rfl⟩
   ·cases h
   have hql:ql=2:=by have:([v0,v1]:List Value).length=2:=rfl;omega
   subst hql
   have hP:=mParseZ_p (q:=q) (c:=qc) (junk:=qj) (by omega) (hvs v0 (by simp)) (hvs v1 (by simp))
   rw [show [v0,v1]++qj=v0::v1::qj from rfl]
   repeat' (first|(refine W.go ?_;try intro b_)|fail)
   refine W.call hP ?_
   rintro _ Hp ⟨pv,rfl,hp⟩
   have hp1:=hp.isOne
   have hml:(metaC 1 (List.replicate 16 0) pv).length=18:=rfl
   have hmo:OC (metaC 1 (List.replicate 16 0) pv):=inferInstance
   repeat' (first|(refine W.go ?_;try intro b_)|fail)
   exact F.ct Hp (metaC 1 (List.replicate 16 0) pv) ⟨_,rfl,hp⟩
end Go.Proofs.YtnigolgkkjidiaaGreat
