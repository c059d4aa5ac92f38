/- Of what is not there nothing is mended; a base that may be is looked at. -/
import Derived.Test.YtnigolgkkjidiaaGreatPb37
import Derived.Test.YtnigolgkkjidiaaGreatPb38
set_option linter.unusedVariables false
set_option linter.unusedSimpArgs false
set_option linter.unusedSectionVars false
set_option maxHeartbeats 2000000
namespace Go.Proofs.YtnigolgkkjidiaaGreat
open Go
attribute [local irreducible] SW SL SQ SH SA SS Pu Fin CutF HandF
theorem mLook_p{d dt tr s bk tb p t:Nat}(h:Gm.Ok p t){σ:Dv}{r:Rg}{β:Bk}{Hd Hk:Hp}(hD:DevP d σ Hd)(hlen:σ.len=256*Gm.total p t)(hr:r.Ok)(hK:BookP bk tb β Hk)(hdn:σ.down=false) :
  Tri Tryz.prog 12 [baseV d tr s bk p t] ((tr,cl (trc dt r) 225)::(Hd++Hk)) (fun _=>True)
  (fun v H=>∃ k:Int,v=.tuple #[.int .i64 k,.int .i64 0]∧H=Hd):=by
 have hlk:=look_p (dt:=dt) (tr:=tr) (s:=s) h hD hlen hr hK
 refine Tri.mk Tryz.func12 rfl Tryz.ntmps12 rfl fun w hw=>?_
 generalize (lookB p t σ r).1=k at *
 generalize (lookB p t σ r).2=l at *
 generalize lookK p t r (σ.blks 0 (Gm.leaves p)) (σ.blks (Gm.leaves p) (1+t)) β=β2 at *
 (repeat' (first|(refine W.go ?_;try intro b_)|fail))
 refine W.call hlk ?_
 rintro _ _ (⟨hd2,rfl,rfl⟩|⟨-,fp,Hk2,Hf,rfl,hFo,hK2,rfl⟩)
 ·rw [hdn] at hd2;cases hd2
 obtain⟨bv,lv,cnt,Lv,ev,tv,Hx,⟨o0,o1,o2,o3,o4⟩,rfl,-⟩:=hFo
 (repeat' (first|(refine W.go ?_;try intro b_)|fail))
 refine Fin.to Hd ?_
 exact F.f2 ⟨_,rfl,rfl⟩
theorem mendNil_law(P T n:Int):Tri Tryz.prog 3 [geV P T,.int .i64 n] [] (fun _=>True) (fun v H=>v=.bool true):=by
 refine Tri.mk Tryz.func3 rfl Tryz.ntmps3 rfl fun w hw=>?_
 have hk:(List.replicate 16 (0:UInt8)).length=16:=rfl
 have hbeg:=begin2_p ok34 (List.replicate 16 0) hk (cnt:=0) (by decide) (by decide)
 have hnew:=nnew_p n
 have hlen0:(Dv.new (4*Gm.total 3 4:Nat)).len=3072:=by have:=(new_sta (4*Gm.total 3 4) (by decide)).len;rw [this];rfl
 have hdn:(Dv.new n).down=false:=rfl
 have hln64:(Dv.new n).len≤65536:=by have:=(Dv.new_ok n).n;unfold Dv.len;omega
 generalize Dv.new (4*Gm.total 3 4:Nat)=σ0 at *
 generalize Dv.new n=σ1 at *
 (repeat' (first|(refine W.go ?_;try intro b_)|fail))
 refine W.call small16_p ?_
 rintro _ _ ⟨rfl,rfl⟩
 (repeat' (first|(refine W.go ?_;try intro b_)|fail))
 refine W.call hbeg ?_
 rintro _ H1 ⟨pp,rfl,hP⟩
 clear hbeg
 obtain⟨i,sv,rv,Hd,Hs,Hk,HD,HR,HS,HT,hD,hS,hBk,hDR,hSR,hO,hOR,rfl⟩:=hP
 have o1:=hO.one
 have o2:=hOR.one
 obtain⟨hOk,bl,bn,bp,bm,vp,va,Hq,Ha,hq1,hq2,rfl⟩:=hDR
 have hof:One vp:=hq1.one
 have hoa:One va:=hq2.one
 have hmn:=mmay_nil (d:=i.d) (s:=i.s) (bk:=i.bk) (P:=((3:Nat):Int)) (T:=((4:Nat):Int))
 have hop:=mOpen_bad inferInstance (by decide) true hmn
 have hlo:=mLook_bad inferInstance (by decide) hmn
 have hfo:=mFormat_bad inferInstance (by decide) hmn
 (repeat' (first|(refine W.go ?_;try intro b_)|fail))
 refine W.call hop ?_
 rintro _ _ ⟨rfl,rfl⟩
 (repeat' (first|(refine W.go ?_;try intro b_)|fail))
 refine W.call hlo ?_
 rintro _ _ ⟨rfl,rfl⟩
 (repeat' (first|(refine W.go ?_;try intro b_)|fail))
 refine W.call hnew ?_
 rintro _ H2 ⟨dn,rfl,hDn⟩
 have hln:=len_p hDn
 (repeat' (first|(refine W.go ?_;try intro b_)|fail))
 refine W.call hln ?_
 rintro _ Hx ⟨rfl,hx⟩
 have hx:=hx.symm
 subst hx
 by_cases h0:0<σ1.len
 ·(repeat' (first|(refine W.go ?_;try intro b_)|fail))
  (refine SW.regionS [11] ?_ (by kernel_rfl);refine SS.T 0 rfl ?_;refine SS.T 1 rfl ?_;refine SS.T 2 rfl ?_;refine SS.T 3 rfl ?_;(first|refine SS.ls 4 [11] rfl ?_|refine SS.tw 4 rfl (p_load_sR rfl rfl (by assumption) (by assumption) (by assumption)) ?_);refine SS.T 5 rfl ?_;(first|refine SS.ls 6 [11] rfl ?_|refine SS.tw 6 rfl (p_load_sR rfl rfl (by assumption) (by assumption) (by assumption)) ?_);refine SS.effK 7 ?_ rfl (by kernel_rfl))
  refine W.call hln ?_
  rintro _ Hx ⟨rfl,hx⟩
  have hx:=hx.symm
  subst hx
  (refine SL.nilB ?_;refine SS.effK 8 ?_ rfl (by kernel_rfl))
  refine W.ma (fun b9=>?_)
  (refine SL.nilB ?_;refine SS.T 9 rfl ?_;refine SS.T 10 rfl ?_;refine SS.effB 11 ?_ rfl (by kernel_rfl);(repeat' (first|(refine W.g1 ?_;try intro b_)|fail));refine SS.done ?_ (by kernel_rfl))
  by_cases hG:GoK P T
  ·obtain⟨p,rfl⟩:∃ p:Nat,P=p:=⟨P.toNat,by unfold GoK at hG;omega⟩
   obtain⟨t,rfl⟩:∃ t:Nat,T=t:=⟨T.toNat,by unfold GoK at hG;omega⟩
   have h:Gm.Ok p t:=by unfold GoK at hG;unfold Gm.Ok;omega
   have hrq:=rqmay_len (d:=i.rd) (tr:=i.rtr) (s:=i.rs) h (F0:=([.slice (some ⟨bl,0,none⟩) σ0.len σ0.len,.slice (some ⟨bn,0,none⟩) σ0.len σ0.len,.slice (some ⟨bp,0,none⟩) σ0.ws.length σ0.ws.length,.slice (some ⟨bm,0,none⟩) σ0.ws.length σ0.ws.length,.bool σ0.down,.int .i64 σ0.fuse,vp,va].set 1 (.slice (some ⟨b9,0,none⟩) σ1.len σ1.len))) (a:=some ⟨b9,0,none⟩) (n:=σ1.len) (c:=σ1.len) rfl
   have htp:1≤Gm.total p t:=by unfold Gm.total;omega
   by_cases hl:σ1.len=256*Gm.total p t
   ·rw [decide_eq_true hl] at hrq
    have hlk:=mLook_p (dt:=i.d) (tr:=i.tr) (s:=i.s) h hDn hl (rg0_ok (cnt:=0) (by decide) (by decide)) hBk hdn
    (repeat' (first|(refine W.go ?_;try intro b_)|fail))
    refine W.call hlk ?_
    rintro _ Hx ⟨k,rfl,hx⟩
    have hx:=hx.symm
    subst hx
    (repeat' (first|(refine W.go ?_;try intro b_)|fail))
    refine W.call hrq ?_
    rintro _ _ ⟨rfl,rfl⟩
    (repeat' (first|(refine W.go ?_;try intro b_)|fail))
    refine W.call hln ?_
    rintro _ Hx ⟨rfl,hx⟩
    have hx:=hx.symm
    subst hx
    (repeat' (first|(refine W.go ?_;try intro b_)|fail))
    refine W.call hfo ?_
    rintro _ _ ⟨rfl,rfl⟩
    (repeat' (first|(refine W.go ?_;try intro b_)|fail))
    refine W.call awake16_p ?_
    rintro _ _ ⟨rfl,rfl⟩
    (repeat' (first|(refine W.go ?_;try intro b_)|fail))
    refine Fin.to [] ?_
    exact F.f1 rfl
   ·have hlk:=mLook_bad inferInstance (by decide) (mmay_len (tr:=i.tr) (s:=i.s) (bk:=i.bk) h hDn hl)
    (repeat' (first|(refine W.go ?_;try intro b_)|fail))
    refine W.call hlk ?_
    rintro _ Hx ⟨rfl,hx⟩
    have hx:=hx.symm
    subst hx
    rw [decide_eq_false hl] at hrq
    (repeat' (first|(refine W.go ?_;try intro b_)|fail))
    refine W.call hrq ?_
    rintro _ _ ⟨rfl,rfl⟩
    (repeat' (first|(refine W.go ?_;try intro b_)|fail))
    refine W.call hfo ?_
    rintro _ _ ⟨rfl,rfl⟩
    (repeat' (first|(refine W.go ?_;try intro b_)|fail))
    refine W.call awake16_p ?_
    rintro _ _ ⟨rfl,rfl⟩
    (repeat' (first|(refine W.go ?_;try intro b_)|fail))
    refine Fin.to [] ?_
    exact F.f1 rfl
  ·have hlk:=mLook_bad inferInstance (by decide) (mmay_bad (d:=dn) (tr:=i.tr) (s:=i.s) (bk:=i.bk) hG (Hd:=[]))
   have hrq:=rqmay_bad (d:=i.rd) (tr:=i.rtr) (s:=i.rs) hG (Hd:=[])
   (repeat' (first|(refine W.go ?_;try intro b_)|fail))
   refine W.call hlk ?_
   rintro _ _ ⟨rfl,rfl⟩
   (repeat' (first|(refine W.go ?_;try intro b_)|fail))
   refine W.call hrq ?_
   rintro _ _ ⟨rfl,rfl⟩
   (repeat' (first|(refine W.go ?_;try intro b_)|fail))
   refine W.call hfo ?_
   rintro _ _ ⟨rfl,rfl⟩
   (repeat' (first|(refine W.go ?_;try intro b_)|fail))
   refine W.call awake16_p ?_
   rintro _ _ ⟨rfl,rfl⟩
   (repeat' (first|(refine W.go ?_;try intro b_)|fail))
   refine Fin.to [] ?_
   exact F.f1 rfl
 ·have h00:σ1.len=0:=by omega
  by_cases hG:GoK P T
  ·obtain⟨p,rfl⟩:∃ p:Nat,P=p:=⟨P.toNat,by unfold GoK at hG;omega⟩
   obtain⟨t,rfl⟩:∃ t:Nat,T=t:=⟨T.toNat,by unfold GoK at hG;omega⟩
   have h:Gm.Ok p t:=by unfold GoK at hG;unfold Gm.Ok;omega
   have hrq:=rqmay_len (d:=i.rd) (tr:=i.rtr) (s:=i.rs) h (F0:=[.slice (some ⟨bl,0,none⟩) σ0.len σ0.len,.slice (some ⟨bn,0,none⟩) σ0.len σ0.len,.slice (some ⟨bp,0,none⟩) σ0.ws.length σ0.ws.length,.slice (some ⟨bm,0,none⟩) σ0.ws.length σ0.ws.length,.bool σ0.down,.int .i64 σ0.fuse,vp,va]) (a:=some ⟨bn,0,none⟩) (n:=σ0.len) (c:=σ0.len) rfl
   have htp:1≤Gm.total p t:=by unfold Gm.total;omega
   by_cases hl:σ1.len=256*Gm.total p t
   ·exfalso;omega
   ·have hlk:=mLook_bad inferInstance (by decide) (mmay_len (tr:=i.tr) (s:=i.s) (bk:=i.bk) h hDn hl)
    (repeat' (first|(refine W.go ?_;try intro b_)|fail))
    refine W.call hlk ?_
    rintro _ Hx ⟨rfl,hx⟩
    have hx:=hx.symm
    subst hx
    by_cases hl2:σ0.len=256*Gm.total p t
    ·rw [decide_eq_true hl2] at hrq
     (repeat' (first|(refine W.go ?_;try intro b_)|fail))
     refine W.call hrq ?_
     rintro _ _ ⟨rfl,rfl⟩
     (repeat' (first|(refine W.go ?_;try intro b_)|fail))
     refine W.call hln ?_
     rintro _ Hx ⟨rfl,hx⟩
     have hx:=hx.symm
     subst hx
     (repeat' (first|(refine W.go ?_;try intro b_)|fail))
     refine W.call hfo ?_
     rintro _ _ ⟨rfl,rfl⟩
     (repeat' (first|(refine W.go ?_;try intro b_)|fail))
     refine W.call awake16_p ?_
     rintro _ _ ⟨rfl,rfl⟩
     (repeat' (first|(refine W.go ?_;try intro b_)|fail))
     refine Fin.to [] ?_
     exact F.f1 rfl
    ·rw [decide_eq_false hl2] at hrq
     (repeat' (first|(refine W.go ?_;try intro b_)|fail))
     refine W.call hrq ?_
     rintro _ _ ⟨rfl,rfl⟩
     (repeat' (first|(refine W.go ?_;try intro b_)|fail))
     refine W.call hfo ?_
     rintro _ _ ⟨rfl,rfl⟩
     (repeat' (first|(refine W.go ?_;try intro b_)|fail))
     refine W.call awake16_p ?_
     rintro _ _ ⟨rfl,rfl⟩
     (repeat' (first|(refine W.go ?_;try intro b_)|fail))
     refine Fin.to [] ?_
     exact F.f1 rfl
  ·have hlk:=mLook_bad inferInstance (by decide) (mmay_bad (d:=dn) (tr:=i.tr) (s:=i.s) (bk:=i.bk) hG (Hd:=[]))
   have hrq:=rqmay_bad (d:=i.rd) (tr:=i.rtr) (s:=i.rs) hG (Hd:=[])
   (repeat' (first|(refine W.go ?_;try intro b_)|fail))
   refine W.call hlk ?_
   rintro _ _ ⟨rfl,rfl⟩
   (repeat' (first|(refine W.go ?_;try intro b_)|fail))
   refine W.call hrq ?_
   rintro _ _ ⟨rfl,rfl⟩
   (repeat' (first|(refine W.go ?_;try intro b_)|fail))
   refine W.call hfo ?_
   rintro _ _ ⟨rfl,rfl⟩
   (repeat' (first|(refine W.go ?_;try intro b_)|fail))
   refine W.call awake16_p ?_
   rintro _ _ ⟨rfl,rfl⟩
   (repeat' (first|(refine W.go ?_;try intro b_)|fail))
   refine Fin.to [] ?_
   exact F.f1 rfl
end Go.Proofs.YtnigolgkkjidiaaGreat
