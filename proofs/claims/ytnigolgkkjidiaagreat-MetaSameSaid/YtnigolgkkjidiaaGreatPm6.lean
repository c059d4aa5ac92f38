/- The document's Pad. The document's words. The document's Block. The document's Sum. -/
import Derived.Test.YtnigolgkkjidiaaGreatPm5
import Derived.Test.YtnigolgkkjidiaaGreatPm4
set_option linter.unusedVariables false
set_option linter.unusedSimpArgs false
set_option linter.unusedSectionVars false
set_option maxHeartbeats 8000000
namespace Go.Proofs.YtnigolgkkjidiaaGreat
open Go
attribute [local irreducible] SW SL SQ SH SA SS Pu Fin CutF HandF
section
variable {P:Program}{C:Ctx}{Q:Exit→Fr→Hp→Prop}{ρ:Fr}{H:Hp}{L rest:List Oper}{d:Option Tmp}{ty:TypeId}{pos:String}{af:Array Edge}{g:Option (Nat×Bool)}{t t' len:Nat}{d':Option Nat}{x y:Operand}{m q:Int}{o:Oper}
theorem p_quoU(ho:o.op=.binOp .quo t x y t')(hx:ev ρ x=some (.int .u64 m))(hy:ev ρ y=some (.int .u64 q))(h0:0≤m)(h1:m<18446744073709551616)(hn:0<q):Pu P C ρ H o (.int .u64 (m/q)):=
 p_quo ho hx hy (by omega) (by
  rw [Int.tdiv_eq_ediv_of_nonneg h0]
  have h2:0≤m/q:=Int.ediv_nonneg h0 (by omega)
  have h3:m/q≤m:=Int.ediv_le_self q h0
  rw [wrapu64];omega)
theorem W.qu64(h:SL P C L Q rest (pt ρ d' (.int .u64 (m/q))) H)(hx:ev ρ x=some (.int .u64 m):=by exact rfl)(hy:ev ρ y=some (.int .u64 q):=by exact rfl)(h0:0≤m:=by omega)(h1:m<18446744073709551616:=by omega)(hn:0<q:=by omega)(hg:gd L ρ ⟨d,.binOp .quo t x y t',ty,pos,af,g⟩=some true:=by exact rfl)(hd:dk C.n d=some d':=by exact rfl):SL P C L Q (⟨d,.binOp .quo t x y t',ty,pos,af,g⟩::rest) ρ H:=SL.pu (p_quoU rfl hx hy h0 h1 hn) hg hd h
end
def backB(v k:Nat):List UInt8:=List.replicate (8-k) 0++(Sha.beN 8 v).drop (8-k)
theorem backB_len(v k:Nat)(h:k≤8):(backB v k).length=8:=by simp [backB,Sha.beN_len];try omega
theorem backB_set(v:Nat){k:Nat}(h:k<8):(cbs (backB v k)).set (7-k) (.int .u8 ((UInt8.ofNat (v/256^k)).toNat:Int))=cbs (backB v (k+1)):=by
 rcases lt8 h with rfl|rfl|rfl|rfl|rfl|rfl|rfl|rfl <;> rfl
theorem backB_0(v:Nat):List.replicate 8 (Value.int .u8 0)=cbs (backB v 0):=by
 unfold backB
 rw [List.drop_eq_nil_of_le (by rw [Sha.beN_len];exact Nat.le_refl _),List.append_nil];rfl
theorem backB_8(v:Nat):backB v 8=Sha.beN 8 v:=by simp [backB]
theorem RPad_p(n:Nat)(hn:n≤1099511627776):Tri Tryz.prog 303 [.int .i64 (n:Int)] [] (fun _=>True) (fun r H=>Sl 5 1 r (cbs (Sha.padN n)) H):=by
 refine Tri.mk Tryz.func303 rfl Tryz.ntmps303 rfl fun w hw=>?_
 have hv8:(UInt64.ofNat n*8).toNat=8*n:=by
  have e8:(8:UInt64).toNat=8:=rfl
  rw [UInt64.toNat_mul,UInt64.toNat_ofNat',e8];omega
 have hbl:bfill (fun i=>some (i*1,1)) (zs [.int .u8 0] 1) [(0,.int .u8 128)]=some [.int .u8 128]:=rfl
 have hbl0:bfill (fun i=>some (i*1,1)) (zs [.int .u8 0] 1) [(0,.int .u8 0)]=some [.int .u8 0]:=rfl
 repeat' (refine W.gb ?_;try intro b_)
 obtain⟨Z,hZ⟩:∃ Z,Z=(119-n%64)%64:=⟨_,rfl⟩
 have hpad:Sha.padN n=(0x80::List.replicate Z 0)++Sha.beN 8 (8*n):=by rw [hZ];rfl
 rw [hpad]
 refine SW.cutH [0] [(b_,cl [.int .u8 128] 5)] (fun x:Value×Hp=>[(3,x.1)]) (fun x=>x.2) (fun x=>Sl 5 1 x.1 (cbs (0x80::List.replicate Z 0)) x.2) ?_ ?_
 ·repeat' (refine W.go ?_;try intro b_)
  have h0:Sl 5 1 (.slice (some ⟨b_,0,none⟩) 1 1) (cbs (0x80::List.replicate 0 0)) [(b_,cl [.int .u8 128] 5)]:=Sl.mk (xs:=[.int .u8 128]) (junk:=[]) (len:=1) (cap:=1) rfl rfl (Nat.le_refl _)
  refine SW.loopG [0] [b_] (fun x:Nat×Value×Hp=>[(3,x.2.1)]) (fun x=>x.2.2) (fun x=>Z-x.1) (fun x=>x.1≤Z∧Sl 5 1 x.2.1 (cbs (0x80::List.replicate x.1 0)) x.2.2) (0,_,_) ⟨by omega,h0⟩ ?_
  rintro⟨z,v,Hs⟩ ⟨hz,hv⟩
  dsimp only at hz hv ⊢
  have hv1:=hv.isOne
  obtain⟨a,len,cap,rfl,hl⟩:=hv.form
  have hlen:len=z+1:=by rw [cbs_len,List.length_cons,List.length_replicate] at hl;omega
  subst hlen
  by_cases hzz:z<Z
  ·repeat' (refine W.go ?_;try intro b_)
   refine W.ap hv (ys:=[.int .u8 0]) (mm:=1) (fun w2 hs=>SrcOf.block (l:=[.int .u8 0]) hs.at rfl rfl) (fun v2 H2 h2=>?_) (hys:=rfl) (hbytes:=by rw [cbs_len];simp;omega)
   have h21:=h2.isOne
   have e:cbs (0x80::List.replicate z 0)++[.int .u8 0]=cbs (0x80::List.replicate (z+1) 0):=by
    rw [List.replicate_succ',← List.cons_append,cbs_app];rfl
   rw [e] at h2
   repeat' (refine W.go ?_;try intro b_)
   refine HandF.mk (z+1,v2,H2) ?_
   exact⟨by omega,h2⟩
  ·have:z=Z:=by omega
   subst this
   repeat' (refine W.go ?_;try intro b_)
   refine CutF.mk (.slice a (z+1) cap,Hs) ?_
   exact hv
 rintro⟨v,Hs⟩ hv
 dsimp only at hv ⊢
 have hv1:=hv.isOne
 repeat' (refine W.gb ?_;try intro b_)
 rw [hv8]
 have hV:8*n<18446744073709551616:=by omega
 generalize 8*n=V at hV ⊢
 rw [show zs [Value.int .u8 0] 8=cbs (backB V 0) by rw [← backB_0];rfl]
 refine SW.cut [3,5] [b_] (fun _:Unit=>[]) (fun _=>[(b_,cl (cbs (backB V 8)) 5)]) (fun _=>True) ?_ ?_
 ·repeat' (refine W.go ?_;try intro b_)
  rw [show (V:Int)=((V/256^0:Nat):Int) by simp]
  refine SW.loopG [3,5] [b_] (fun k:Nat=>[(4,.int .u64 ((V/256^k:Nat):Int)),(6,.int .i64 (7-(k:Int)))]) (fun k=>[(b_,cl (cbs (backB V k)) 5)]) (fun k=>8-k) (fun k=>k≤8) 0 (by omega) ?_
  intro k hk
  have hlen:=backB_len V k hk
  have hVk:V/256^k≤V:=Nat.div_le_self _ _
  by_cases hk8:k<8
  ·have hs:=backB_set V hk8
   haveI i1:Cv .u8 (((V/256^k:Nat):Int)%256) ((UInt8.ofNat (V/256^k)).toNat:Int):=⟨by rw [wrap8,UInt8.toNat_ofNat'];omega⟩
   haveI i2:NatI (7-(k:Int)) (7-k):=⟨by omega⟩
   have hlk:7-k<(cbs (backB V k)).length:=by rw [cbs_len];omega
   have hd:((V/256^k:Nat):Int)/256=((V/256^(k+1):Nat):Int):=by
    rw [Nat.pow_succ,← Nat.div_div_eq_div_mul];rfl
   generalize V/256^k=X at hs i1 hVk hd ⊢
   repeat' (refine W.go ?_;try intro b_)
   refine W.qu64 ?_
   repeat' (refine W.go ?_;try intro b_)
   rw [hs,hd,show (7:Int)-(k:Int)-1=7-((k+1:Nat):Int) by omega]
   refine HandF.mk (k+1) ?_
   omega
  ·have:k=8:=by omega
   subst this
   repeat' (refine W.go ?_;try intro b_)
   refine CutF.mk () ?_
   trivial
 rintro _ -
 rw [backB_8]
 repeat' (refine W.go ?_;try intro b_)
 refine W.ap hv (ys:=cbs (Sha.beN 8 V)) (mm:=8) (fun w2 hs=>SrcOf.block (l:=cbs (Sha.beN 8 V)) hs.at (by rw [List.drop_zero,List.take_of_length_le (by rw [cbs_len,Sha.beN_len];exact Nat.le_refl _)]) (by rw [cbs_len,Sha.beN_len])) (fun v2 H2 h2=>?_) (hys:=by rw [cbs_len,Sha.beN_len]) (hbytes:=by rw [cbs_len,cbs_len,Sha.beN_len];simp;omega)
 have h21:=h2.isOne
 rw [← cbs_app] at h2
 repeat' (refine W.go ?_;try intro b_)
 refine Fin.to H2 ?_
 refine F.f1 ?_
 exact h2
end Go.Proofs.YtnigolgkkjidiaaGreat
namespace Go.Proofs.YtnigolgkkjidiaaGreat
open Go
attribute [local irreducible] SW SL SQ SH SA SS Pu Fin CutF HandF
set_option maxRecDepth 100000 in
theorem Words_p:Tri Tryz.prog 308 [] [] (fun _=>True) (fun v H=>∃ b,v=.slice (some ⟨b,0,none⟩) 64 64∧H=[(b,cl (Sha.tabK.map u32v) 235)]):=by
 refine Tri.mk Tryz.func308 rfl Tryz.ntmps308 rfl fun w hw=>?_
 (repeat' first|refine SW.seq ?_|refine SW.region ?_|refine W.as ?_|refine SL.nilB ?_|refine SL.nil ?_)
 refine W.bsl (rv:=Sha.tabK.map u32v) (fun b_=>?_) (hr:=by kernel_rfl)
 repeat' (refine W.go ?_;try intro b_)
 exact F.f1 ⟨b_,rfl,rfl⟩
theorem Firsts_p:Tri Tryz.prog 304 [] [] (fun _=>True) (fun v H=>v=.agg (s8c Sha.ini).toArray∧H=[]):=by
 refine Tri.mk Tryz.func304 rfl Tryz.ntmps304 rfl fun w hw=>?_
 (repeat' first|refine SW.seq ?_|refine SW.region ?_|refine W.al fun b_=>?_|refine SL.nilB ?_|refine SL.nil ?_)
 refine W.bda (rv:=s8c Sha.ini) ?_ (hr:=by kernel_rfl)
 have hl:(s8c Sha.ini).length=8:=rfl
 repeat' (refine W.go ?_;try intro b_)
 refine F.c0 (s8c Sha.ini) ?_
 exact⟨rfl,rfl⟩
end Go.Proofs.YtnigolgkkjidiaaGreat
namespace Go.Proofs.YtnigolgkkjidiaaGreat
open Go
attribute [local irreducible] SW SL SQ SH SA SS Pu Fin CutF HandF
theorem ch_eq(e f g:UInt32):g ^^^ (e &&& (f ^^^ g))=Sha.ch e f g:=by
 unfold Sha.ch
 apply UInt32.toBitVec_inj.1
 simp only [UInt32.toBitVec_xor,UInt32.toBitVec_and,UInt32.toBitVec_not]
 ext i hi
 simp only [BitVec.getElem_xor,BitVec.getElem_and,BitVec.getElem_not]
 generalize e.toBitVec[i]=x
 generalize f.toBitVec[i]=y
 generalize g.toBitVec[i]=z
 cases x <;> cases y <;> cases z <;> rfl
theorem maj_eq(a b c:UInt32):(a &&& b) ||| (c &&& (a ||| b))=Sha.maj a b c:=by
 unfold Sha.maj
 apply UInt32.toBitVec_inj.1
 simp only [UInt32.toBitVec_xor,UInt32.toBitVec_and,UInt32.toBitVec_or]
 ext i hi
 simp only [BitVec.getElem_xor,BitVec.getElem_and,BitVec.getElem_or]
 generalize a.toBitVec[i]=x
 generalize b.toBitVec[i]=y
 generalize c.toBitVec[i]=z
 cases x <;> cases y <;> cases z <;> rfl
theorem sch_ac(a b c d:UInt32):a+b+c+d=d+c+b+a:=by ac_rfl
theorem turn_p(x:UInt32)(k:Nat)(hk:k<32)(h0:0<k):Tri Tryz.prog 309 [u32v x,.int .u64 (k:Int)] [] (fun _=>True) (fun v H=>v=u32v (Sha.rotr x (UInt32.ofNat k))∧H=[]):=by
 refine Tri.mk Tryz.func309 rfl Tryz.ntmps309 rfl fun w hw=>?_
 obtain⟨f1,f2,f3⟩:=turn_facts k hk h0
 haveI i3:Lt32 ((32-k:Nat):Int) (UInt32.ofNat (32-k)):=⟨by rw [f2],by rw [f2];omega⟩
 haveI i4:UAr .sub .u64 32 (k:Int) ((32-k:Nat):Int):=⟨fun P w t=>by
  have h:IntKind.u64.wrap (32-(k:Int))=((32-k:Nat):Int):=by rw [wrapu64];omega
  simp [binOp,Op.intArith,h]⟩
 haveI i5:Lt32 (k:Int) (UInt32.ofNat k):=⟨by rw [UInt32.toNat_ofNat'];omega,by rw [UInt32.toNat_ofNat'];omega⟩
 repeat' (refine W.go ?_;try intro b_)
 refine F.f1 ?_
 refine⟨?_,rfl⟩
 unfold Sha.rotr u32v
 rw [f3]
abbrev rgs(S:S8):Fr:=[(10,u32v S.a),(11,u32v S.b),(12,u32v S.c),(13,u32v S.d),(14,u32v S.e),(15,u32v S.f),(16,u32v S.g),(17,u32v S.h)]
theorem be_four(bs:List UInt8){t:Nat}(h:4*t+4≤bs.length):Sha.be ((bs.drop (4*t)).take 4)=(bs.getD (4*t) 0).toUInt32*16777216+(bs.getD (4*t+1) 0).toUInt32*65536+(bs.getD (4*t+2) 0).toUInt32*256+(bs.getD (4*t+3) 0).toUInt32:=by
 have hb:(bs.drop (4*t)).take 4=[bs.getD (4*t) 0,bs.getD (4*t+1) 0,bs.getD (4*t+2) 0,bs.getD (4*t+3) 0]:=by
  have hg:∀ j (hj:j<bs.length),bs.getD j 0=bs[j]:=fun j hj=>by rw [List.getD,List.getElem?_eq_getElem hj];rfl
  rw [List.drop_eq_getElem_cons (by omega),List.drop_eq_getElem_cons (by omega),List.drop_eq_getElem_cons (by omega),List.drop_eq_getElem_cons (by omega),hg _ (by omega),hg _ (by omega),hg _ (by omega),hg _ (by omega)]
  rfl
 rw [hb]
 generalize bs.getD (4*t) 0=a
 generalize bs.getD (4*t+1) 0=b
 generalize bs.getD (4*t+2) 0=c
 generalize bs.getD (4*t+3) 0=d
 show ((((((0:UInt32) <<< 8) ||| a.toUInt32) <<< 8 ||| b.toUInt32) <<< 8 ||| c.toUInt32) <<< 8 ||| d.toUInt32)=_
 have st:∀ (v:UInt32) (c:UInt8),v.toNat<16777216→((v <<< 8) ||| c.toUInt32)=v*256+c.toUInt32:=fun v c hv=>by
  have hc:=c.toNat_lt
  apply UInt32.toNat_inj.1
  have e8:(8:UInt32).toNat=8:=rfl
  have e256:(256:UInt32).toNat=256:=rfl
  rw [UInt32.toNat_or,UInt32.toNat_shiftLeft,UInt32.toNat_add,UInt32.toNat_mul,UInt8.toNat_toUInt32,e8,e256,Nat.shiftLeft_eq,show 2^(8%32)=2^8 from rfl,Nat.mod_eq_of_lt (show v.toNat*2^8<2^32 by omega)]
  have:=Nat.shiftLeft_add_eq_or_of_lt (i:=8) (b:=c.toNat) (by omega) v.toNat
  rw [Nat.shiftLeft_eq] at this
  rw [← this]
  omega
 have h0:((0:UInt32) <<< 8) ||| a.toUInt32=a.toUInt32:=by
  rw [st 0 a (by decide)];simp
 have ha:=a.toNat_lt
 have hb:=b.toNat_lt
 have hc:=c.toNat_lt
 have e256:(256:UInt32).toNat=256:=rfl
 have n1:(a.toUInt32*256+b.toUInt32).toNat=a.toNat*256+b.toNat:=by
  rw [UInt32.toNat_add,UInt32.toNat_mul,UInt8.toNat_toUInt32,UInt8.toNat_toUInt32,e256];omega
 have n2:((a.toUInt32*256+b.toUInt32)*256+c.toUInt32).toNat=(a.toNat*256+b.toNat)*256+c.toNat:=by
  rw [UInt32.toNat_add,UInt32.toNat_mul,n1,UInt8.toNat_toUInt32,e256];omega
 rw [h0,st _ b (by rw [UInt8.toNat_toUInt32];omega),st _ c (by rw [n1];omega),st _ d (by rw [n2];omega)]
 apply UInt32.toNat_inj.1
 have hd:=d.toNat_lt
 have e3:(16777216:UInt32).toNat=16777216:=rfl
 have e4:(65536:UInt32).toNat=65536:=rfl
 rw [UInt32.toNat_add,UInt32.toNat_mul,n2,e256]
 simp only [UInt32.toNat_add,UInt32.toNat_mul,UInt8.toNat_toUInt32,e256,e3,e4]
 omega
theorem RBlock_p(s:S8)(a:Option Addr)(cap:Nat)(bs:List UInt8)(hb:bs.length=64):Tri Tryz.prog 305 [.agg (s8c s).toArray,.slice a 64 cap] [] (fun w=>Rd [] w 1 (.slice a 64 cap) (cbs bs)) (fun v H=>v=.agg (s8c (Sha.blk s bs)).toArray∧H=[]):=by
 refine Tri.mk Tryz.func305 rfl Tryz.ntmps305 rfl fun w hw=>?_
 obtain⟨a',len,cap',e,hl,hc,hr⟩:=hw.get
 cases e
 obtain⟨blk,ob,l,T,fz,rfl,hb2,hbk,hys⟩:=hr (by omega)
 have hsz:∀ j,j<64→l[ob+j]?=some (.int .u8 ((bs.getD j 0).toNat:Int)):=fun j hj=>by
  have h1:((l.drop ob).take (64*1))[j]?=(cbs bs)[j]?:=by rw [hys]
  rw [List.getElem?_take,if_pos (by omega),List.getElem?_drop] at h1
  rw [h1,List.getElem?_map,List.getD,List.getElem?_eq_getElem (by omega)];rfl
 repeat' (refine W.gb ?_;try intro b_)
 refine W.call Words_p ?_
 rintro _ _ ⟨bk,rfl,rfl⟩
 repeat' (refine W.gb ?_;try intro b_)
 rw [show List.replicate 64 (Value.int .u32 0)=schC bs 0 from rfl]
 refine SW.cutH [2,4,5,6] [(b_,cl (schC bs 0) 236)] (fun _=>[]) (fun _:Unit=>[(b_,cl (schC bs 64) 236)]) (fun _=>True) ?_ ?_
 ·repeat' (refine W.go ?_;try intro b_)
  refine SW.loopG [1,2,4,5,6] [b_] (fun t:Nat=>[(7,.int .i64 (t:Int))]) (fun t=>[(b_,cl (schC bs t) 236)]) (fun t=>64-t) (fun t=>t≤64) 0 (by omega) ?_
  intro t ht
  by_cases ht64:t<64
  ·have hlen:t<(schC bs t).length:=by rw [schC_len bs ht];exact ht64
   by_cases h16:t<16
   ·have e0:=hsz (4*t) (by omega)
    have e1:=hsz (4*t+1) (by omega)
    have e2:=hsz (4*t+2) (by omega)
    have e3:=hsz (4*t+3) (by omega)
    have hs:=schC_set bs ht64 (sch_lo bs h16)
    rw [be_four bs (by omega)] at hs
    generalize bs.getD (4*t) 0=x0 at e0 hs
    generalize bs.getD (4*t+1) 0=x1 at e1 hs
    generalize bs.getD (4*t+2) 0=x2 at e2 hs
    generalize bs.getD (4*t+3) 0=x3 at e3 hs
    generalize schC bs t=Z at hs hlen ⊢
    repeat' (refine W.go ?_;try intro b_)
    (refine SW.regionS [35] ?_ (by kernel_rfl);refine SS.T 0 rfl ?_;refine SS.T 1 rfl ?_;refine SS.T 2 rfl ?_;refine SS.T 3 rfl ?_;refine SS.T 4 rfl ?_;(first|refine SS.ls 5 [35] rfl ?_|refine SS.sR 5 rfl ?_);refine SS.T 6 rfl ?_;refine SS.T 7 rfl ?_;refine SS.T 8 rfl ?_;refine SS.T 9 rfl ?_;refine SS.T 10 rfl ?_;refine SS.T 11 rfl ?_;refine SS.T 12 rfl ?_;(first|refine SS.ls 13 [35] rfl ?_|refine SS.sR 13 rfl ?_);refine SS.T 14 rfl ?_;refine SS.T 15 rfl ?_;refine SS.T 16 rfl ?_;refine SS.T 17 rfl ?_;refine SS.T 18 rfl ?_;refine SS.T 19 rfl ?_;refine SS.T 20 rfl ?_;refine SS.T 21 rfl ?_;(first|refine SS.ls 22 [35] rfl ?_|refine SS.sR 22 rfl ?_);refine SS.T 23 rfl ?_;refine SS.T 24 rfl ?_;refine SS.T 25 rfl ?_;refine SS.T 26 rfl ?_;refine SS.T 27 rfl ?_;refine SS.T 28 rfl ?_;refine SS.T 29 rfl ?_;refine SS.T 30 rfl ?_;(first|refine SS.ls 31 [35] rfl ?_|refine SS.sR 31 rfl ?_);refine SS.T 32 rfl ?_;refine SS.T 33 rfl ?_;refine SS.T 34 rfl ?_;refine SS.effB 35 ?_ rfl (by kernel_rfl);(repeat' (refine W.g1 ?_;try intro b_));refine SS.done ?_ (by kernel_rfl))
    rw [hs]
    repeat' (refine W.go ?_;try intro b_)
    refine HandF.mk (t+1) ?_
    omega
   ·have g2:=schC_at bs (show t-2<t by omega)
    have g7:=schC_at bs (show t-7<t by omega)
    have g15:=schC_at bs (show t-15<t by omega)
    have g16:=schC_at bs (show t-16<t by omega)
    haveI n2:NatI ((t:Int)-2) (t-2):=⟨by omega⟩
    haveI n7:NatI ((t:Int)-7) (t-7):=⟨by omega⟩
    haveI n15:NatI ((t:Int)-15) (t-15):=⟨by omega⟩
    haveI n16:NatI ((t:Int)-16) (t-16):=⟨by omega⟩
    have hs:=schC_set bs ht64 (sch_hi bs h16)
    generalize (Sha.sch bs t).getD (t-2) 0=x2 at g2 hs
    generalize (Sha.sch bs t).getD (t-7) 0=x7 at g7 hs
    generalize (Sha.sch bs t).getD (t-15) 0=x15 at g15 hs
    generalize (Sha.sch bs t).getD (t-16) 0=x16 at g16 hs
    have hZo:OC (schC bs t):=inferInstance
    generalize schC bs t=Z at g2 g7 g15 g16 hs hlen hZo ⊢
    rw [← sch_ac] at hs
    repeat' (refine W.go ?_;try intro b_)
    (refine SW.regionS [29] ?_ (by kernel_rfl);refine SS.T 0 rfl ?_;refine SS.T 1 rfl ?_;refine SS.T 2 rfl ?_;refine SS.T 3 rfl ?_;(first|refine SS.ls 4 [29] rfl ?_|refine SS.sR 4 rfl ?_);refine SS.T 5 rfl ?_;refine SS.T 7 rfl ?_;refine SS.T 10 rfl ?_;refine SS.T 11 rfl ?_;refine SS.T 14 rfl ?_;refine SS.T 15 rfl ?_;refine SS.T 16 rfl ?_;(first|refine SS.ls 17 [29] rfl ?_|refine SS.sR 17 rfl ?_);refine SS.T 19 rfl ?_;refine SS.T 21 rfl ?_;refine SS.T 24 rfl ?_;refine SS.T 25 rfl ?_;refine SS.effK 6 ?_ rfl (by kernel_rfl))
    refine W.call (turn_p x15 7 (by omega) (by omega)) ?_
    rintro _ _ ⟨rfl,rfl⟩
    (refine SL.nilB ?_;refine SS.effK 8 ?_ rfl (by kernel_rfl))
    refine W.call (turn_p x15 18 (by omega) (by omega)) ?_
    rintro _ _ ⟨rfl,rfl⟩
    (refine SL.nilB ?_;refine SS.T 9 rfl ?_;refine SS.T 12 rfl ?_;refine SS.T 13 rfl ?_;refine SS.T 18 rfl ?_;refine SS.effK 20 ?_ rfl (by kernel_rfl))
    refine W.call (turn_p x2 17 (by omega) (by omega)) ?_
    rintro _ _ ⟨rfl,rfl⟩
    (refine SL.nilB ?_;refine SS.effK 22 ?_ rfl (by kernel_rfl))
    refine W.call (turn_p x2 19 (by omega) (by omega)) ?_
    rintro _ _ ⟨rfl,rfl⟩
    (refine SL.nilB ?_;refine SS.T 23 rfl ?_;refine SS.T 26 rfl ?_;refine SS.T 27 rfl ?_;refine SS.T 28 rfl ?_;refine SS.effB 29 ?_ rfl (by kernel_rfl);(repeat' (refine W.g1 ?_;try intro b_));refine SS.done ?_ (by kernel_rfl))
    have hs':Z.set t (u32v (x16+(Sha.rotr x15 (UInt32.ofNat 7) ^^^ Sha.rotr x15 (UInt32.ofNat 18) ^^^ x15 >>> 3)+x7+(Sha.rotr x2 (UInt32.ofNat 17) ^^^ Sha.rotr x2 (UInt32.ofNat 19) ^^^ x2 >>> 10)))=schC bs (t+1):=hs
    rw [hs']
    repeat' (refine W.go ?_;try intro b_)
    refine HandF.mk (t+1) ?_
    omega
  ·have:t=64:=by omega
   subst this
   repeat' (refine W.go ?_;try intro b_)
   refine CutF.mk () ?_
   trivial
 rintro _ -
 have hZ:∀ t,t<64→(schC bs 64)[t]?=some (u32v ((Sha.sch bs 64).getD t 0)):=fun t h=>schC_at bs h
 have hZl:(schC bs 64).length=64:=schC_len bs (by omega)
 have hZo:OC (schC bs 64):=inferInstance
 generalize schC bs 64=Z at hZ hZl hZo ⊢
 have hT:∀ t,t<64→(Sha.tabK.map u32v)[t]?=some (u32v (Sha.tabK.getD t 0)):=fun t h=>by
  have hl:Sha.tabK.length=64:=rfl
  rw [List.getElem?_map,List.getD,List.getElem?_eq_getElem (by omega)];rfl
 generalize Sha.tabK.map u32v=TC at hT ⊢
 refine SW.seq ?_
 (refine SW.regionS [] ?_ (by kernel_rfl);refine SS.T 0 rfl ?_;(first|refine SS.ls 1 [] rfl ?_|refine SS.sR 1 rfl ?_);refine SS.T 2 rfl ?_;(first|refine SS.ls 3 [] rfl ?_|refine SS.sR 3 rfl ?_);refine SS.T 4 rfl ?_;(first|refine SS.ls 5 [] rfl ?_|refine SS.sR 5 rfl ?_);refine SS.T 6 rfl ?_;(first|refine SS.ls 7 [] rfl ?_|refine SS.sR 7 rfl ?_);refine SS.T 8 rfl ?_;(first|refine SS.ls 9 [] rfl ?_|refine SS.sR 9 rfl ?_);refine SS.T 10 rfl ?_;(first|refine SS.ls 11 [] rfl ?_|refine SS.sR 11 rfl ?_);refine SS.T 12 rfl ?_;(first|refine SS.ls 13 [] rfl ?_|refine SS.sR 13 rfl ?_);refine SS.T 14 rfl ?_;(first|refine SS.ls 15 [] rfl ?_|refine SS.sR 15 rfl ?_);refine SS.T 16 rfl ?_;refine SS.T 17 rfl ?_;refine SS.T 18 rfl ?_;refine SS.T 19 rfl ?_;refine SS.T 20 rfl ?_;refine SS.T 21 rfl ?_;refine SS.T 22 rfl ?_;refine SS.T 23 rfl ?_;refine SS.done ?_ (by kernel_rfl))
 repeat' (refine W.gb ?_;try intro b_)
 obtain⟨R,hR⟩:∃ R,R=Sha.rnds s bs 64:=⟨_,rfl⟩
 have hfin:Sha.blk s bs=Sha.plus s R:=by rw [hR];rfl
 rw [hfin]
 refine SW.cut [2,4] [] (fun _:Unit=>rgs R) (fun _=>[]) (fun _=>True) ?_ ?_
 ·repeat' (refine W.go ?_;try intro b_)
  refine SW.loopG [2,4,5,6] [] (fun t:Nat=>(18,.int .i64 (t:Int))::rgs (Sha.rnds s bs t)) (fun _=>[]) (fun t=>64-t) (fun t=>t≤64) 0 (by omega) ?_
  intro t ht
  by_cases ht64:t<64
  ·have hTt:=hT t ht64
   have hWt:=hZ t ht64
   have hstep:Sha.rnds s bs (t+1)=Sha.rnd (Sha.rnds s bs t) (Sha.tabK.getD t 0) ((Sha.sch bs 64).getD t 0):=rfl
   generalize Sha.rnds s bs t=S at hstep ⊢
   generalize Sha.tabK.getD t 0=K at hTt hstep
   generalize (Sha.sch bs 64).getD t 0=wt at hWt hstep
   have hzl:t<Z.length:=by omega
   repeat' (refine W.go ?_;try intro b_)
   (refine SW.regionS [] ?_ (by kernel_rfl);refine SS.T 0 rfl ?_;refine SS.T 1 rfl ?_;refine SS.T 3 rfl ?_;refine SS.T 6 rfl ?_;refine SS.T 10 rfl ?_;refine SS.T 11 rfl ?_;refine SS.T 12 rfl ?_;refine SS.T 13 rfl ?_;refine SS.T 14 rfl ?_;refine SS.T 15 rfl ?_;refine SS.T 16 rfl ?_;refine SS.T 18 rfl ?_;refine SS.T 19 rfl ?_;refine SS.T 20 rfl ?_;(first|refine SS.ls 21 [] rfl ?_|refine SS.sR 21 rfl ?_);refine SS.T 23 rfl ?_;refine SS.T 24 rfl ?_;(first|refine SS.ls 25 [] rfl ?_|refine SS.sR 25 rfl ?_);refine SS.effK 2 ?_ rfl (by kernel_rfl))
   refine W.call (turn_p S.e 6 (by omega) (by omega)) ?_
   rintro _ _ ⟨rfl,rfl⟩
   (refine SL.nilB ?_;refine SS.effK 4 ?_ rfl (by kernel_rfl))
   refine W.call (turn_p S.e 11 (by omega) (by omega)) ?_
   rintro _ _ ⟨rfl,rfl⟩
   (refine SL.nilB ?_;refine SS.T 5 rfl ?_;refine SS.effK 7 ?_ rfl (by kernel_rfl))
   refine W.call (turn_p S.e 25 (by omega) (by omega)) ?_
   rintro _ _ ⟨rfl,rfl⟩
   (refine SL.nilB ?_;refine SS.T 8 rfl ?_;refine SS.T 9 rfl ?_;refine SS.T 17 rfl ?_;refine SS.T 22 rfl ?_;refine SS.T 26 rfl ?_;refine SS.T 27 rfl ?_;refine SS.done ?_ (by kernel_rfl))
   refine SW.fr [2,4,5,6,10,11,12,13,14,15,16,17,18,19] ?_
   rw [ch_eq,show S.h+(Sha.rotr S.e (UInt32.ofNat 6) ^^^ Sha.rotr S.e (UInt32.ofNat 11) ^^^ Sha.rotr S.e (UInt32.ofNat 25))+Sha.ch S.e S.f S.g+K+wt=Sha.t1 S K wt from rfl]
   repeat' (refine W.go ?_;try intro b_)
   refine W.call (turn_p S.a 2 (by omega) (by omega)) ?_
   rintro _ _ ⟨rfl,rfl⟩
   repeat' (refine W.go ?_;try intro b_)
   refine W.call (turn_p S.a 13 (by omega) (by omega)) ?_
   rintro _ _ ⟨rfl,rfl⟩
   repeat' (refine W.go ?_;try intro b_)
   refine W.call (turn_p S.a 22 (by omega) (by omega)) ?_
   rintro _ _ ⟨rfl,rfl⟩
   repeat' (refine W.go ?_;try intro b_)
   rw [maj_eq,show (Sha.rotr S.a (UInt32.ofNat 2) ^^^ Sha.rotr S.a (UInt32.ofNat 13) ^^^ Sha.rotr S.a (UInt32.ofNat 22))+Sha.maj S.a S.b S.c=Sha.t2 S from rfl]
   refine HandF.mk (t+1) ?_ (hr:=?_)
   ·omega
   ·rw [hstep]
    (repeat' first|exact trivial|refine And.intro rfl ?_)
  ·have:t=64:=by omega
   subst this
   rw [← hR]
   repeat' (refine W.go ?_;try intro b_)
   refine CutF.mk () ?_
   trivial
 rintro _ -
 clear hR hfin
 generalize R=S
 have hbd:bfill (fun i=>some (i*1,1)) (List.replicate 8 (.int .u32 0)) [(0,u32v (s.a+S.a)),(1,u32v (s.b+S.b)),(2,u32v (s.c+S.c)),(3,u32v (s.d+S.d)),(4,u32v (s.e+S.e)),(5,u32v (s.f+S.f)),(6,u32v (s.g+S.g)),(7,u32v (s.h+S.h))]=some (s8c (Sha.plus s S)):=rfl
 have hl8:(s8c (Sha.plus s S)).length=8:=rfl
 repeat' (refine W.go ?_;try intro b_)
 refine F.c0 (s8c (Sha.plus s S)) ?_
 exact⟨rfl,rfl⟩
end Go.Proofs.YtnigolgkkjidiaaGreat
namespace Go.Proofs.YtnigolgkkjidiaaGreat
open Go
attribute [local irreducible] SW SL SQ SH SA SS Pu Fin CutF HandF
theorem by32(w:UInt32):(w >>> 24).toUInt8=UInt8.ofNat (w.toNat/256^3)∧(w >>> 16).toUInt8=UInt8.ofNat (w.toNat/256^2)∧(w >>> 8).toUInt8=UInt8.ofNat (w.toNat/256^1)∧w.toUInt8=UInt8.ofNat (w.toNat/256^0):=by
 have e24:(24:UInt32).toNat=24:=rfl
 have e16:(16:UInt32).toNat=16:=rfl
 have e8:(8:UInt32).toNat=8:=rfl
 refine⟨?_,?_,?_,?_⟩
 all_goals
  apply UInt8.toNat_inj.1
  rw [UInt32.toNat_toUInt8,UInt8.toNat_ofNat']
  try simp only [UInt32.toNat_shiftRight,e24,e16,e8,Nat.shiftRight_eq_div_pow]
  try omega
theorem outK_set4(s:S8){k:Nat}(h:k<8):((((outK s k).set (4*k) (.int .u8 ((UInt8.ofNat ((s.get k).toNat/256^3)).toNat:Int))).set (4*k+1) (.int .u8 ((UInt8.ofNat ((s.get k).toNat/256^2)).toNat:Int))).set (4*k+2) (.int .u8 ((UInt8.ofNat ((s.get k).toNat/256^1)).toNat:Int))).set (4*k+3) (.int .u8 ((UInt8.ofNat ((s.get k).toNat/256^0)).toNat:Int))=outK s (k+1):=by
 rcases lt8 h with rfl|rfl|rfl|rfl|rfl|rfl|rfl|rfl <;> rfl
theorem RSum_p(v:Value)(M:List UInt8)(hM:M.length≤1099511627000):Tri Tryz.prog 297 [v] [] (fun w=>Rd [] w 1 v (cbs M)) (fun v H=>v=.agg (cbs (Sha.sum M)).toArray∧H=[]):=by
 refine Tri.mk Tryz.func297 rfl Tryz.ntmps297 rfl fun w hw=>?_
 obtain⟨a,len,cap,rfl,hl,hc,hr⟩:=hw.get
 rw [cbs_len,Nat.mul_one] at hl
 repeat' (refine W.gb ?_;try intro b_)
 have h0:Sl 5 1 (.slice (some ⟨b_,0,none⟩) 0 0) [] [(b_,cl ([]:List Value) 5)]:=Sl.mk (xs:=[]) (junk:=[]) (len:=0) (cap:=0) rfl rfl (Nat.le_refl _)
 refine W.ap h0 (fun w2 hs=>hw.srcAt hs) (fun v1 H1 h1=>?_) (hys:=by rw [cbs_len];omega) (hbytes:=by rw [cbs_len];simp;omega)
 have h11:=h1.isOne
 rw [List.nil_append] at h1
 repeat' (refine W.gb ?_;try intro b_)
 refine W.call (RPad_p len (by omega)) ?_
 intro p1 HP hp1
 have hp11:=hp1.isOne
 obtain⟨q1,ql1,qc1,rfl,hql1⟩:=hp1.form
 have hpl:=Sha.padN_len len
 have hpl2:(Sha.padN len).length≤73:=by simp [Sha.padN,Sha.beN_len];omega
 have hpl3:9≤(Sha.padN len).length:=by simp [Sha.padN,Sha.beN_len]
 refine W.ap h1 (fun w2 hs=>hp1.srcAt hs inferInstance) (fun x1 X1 hx1=>?_) (hys:=by rw [hql1]) (hbytes:=by rw [cbs_len,cbs_len];omega)
 have hx11:=hx1.isOne
 rw [← cbs_app] at hx1
 have hXl:(M++Sha.padN len).length=M.length+(Sha.padN len).length:=List.length_append
 have hsum:Sha.outB (Sha.absorb Sha.ini (M++Sha.padN len)).1=Sha.sum M:=by rw [← hl];rfl
 rw [← hl] at hpl hpl2 hpl3 hXl
 rw [← hsum]
 rw [← hl] at hsum hx1 ⊢
 generalize hX:M++Sha.padN M.length=X at hx1 hXl ⊢
 have hX64:X.length%64=0:=by omega
 obtain⟨xa,xl,xc,rfl,-⟩:=hx1.form
 obtain⟨hxl,hxc,hxa⟩:=hx1.lens
 rw [cbs_len] at hxl
 obtain⟨xb,rfl⟩:=hxa.resolve_left (by omega)
 obtain⟨R,hR⟩:∃ R,R=(Sha.absorb Sha.ini X).1:=⟨_,rfl⟩
 have hab:(Sha.absorb Sha.ini X).1=(Sha.absN (X.length/64) Sha.ini X).1:=rfl
 rw [← hR]
 repeat' (refine W.gb ?_;try intro b_)
 refine W.call Firsts_p ?_
 rintro _ _ ⟨rfl,rfl⟩
 have hl8:∀ s,(s8c s).length=8:=fun s=>rfl
 have hl80:=hl8 Sha.ini
 repeat' (refine W.gb ?_;try intro b_)
 obtain⟨b4,hb4⟩:∃ b4,b4=b_:=⟨_,rfl⟩
 rw [← hb4]
 clear hl80 hl8
 refine SW.cut [2,3] [b4] (fun _:Unit=>[(4,.pointer (some ⟨b4,0,none⟩))]) (fun _=>[(b4,cl (s8c R) 237)]) (fun _=>True) ?_ ?_
 ·repeat' (refine W.go ?_;try intro b_)
  refine SW.loopG [2,3,4] [b4] (fun j:Nat=>[(5,.int .i64 ((64*j:Nat):Int))]) (fun j=>[(b4,cl (s8c (Sha.absN j Sha.ini X).1) 237)]) (fun j=>X.length-j) (fun j=>64*j≤X.length) 0 (by omega) ?_
  intro j hj
  by_cases h64:64*j<xl
  ·have hst:=Sha.absN_fst j Sha.ini X
   have hblk:=RBlock_p (Sha.absN j Sha.ini X).1 (some ⟨xb,64*j,none⟩) (xc-64*j) ((X.drop (64*j)).take 64) (by simp;omega)
   rw [← hst] at hblk
   obtain⟨S1,hS1⟩:∃ S1,S1=(Sha.absN (j+1) Sha.ini X).1:=⟨_,rfl⟩
   rw [← hS1] at hblk
   clear hst
   generalize (Sha.absN j Sha.ini X).1=S0 at hblk ⊢
   have hlj:(s8c S0).length=8:=rfl
   repeat' (refine W.go ?_;try intro b_)
   (refine SW.regionS [6,7] ?_ (by kernel_rfl);(first|refine SS.lw 0 [6,7] rfl ?_|refine SS.la 0 [6,7] rfl ?_|refine SS.aR 0 rfl ?_);refine SS.T 1 rfl ?_;refine SS.T 2 rfl ?_;refine SS.T 3 rfl ?_;refine SS.T 4 rfl ?_;refine SS.tw 5 rfl (p_sl11 rfl rfl rfl rfl (by omega) (by omega)) ?_;refine SS.effB 6 ?_ rfl (by kernel_rfl))
   refine W.callE hblk ?_ ?_ (hpre:=fun w2 hs=>?_)
   ·rw [show 64*j+64-64*j=64 by omega]
   ·rintro _ _ ⟨rfl,rfl⟩
    have hlj1:(s8c S1).length=8:=rfl
    (refine SL.nilB ?_;refine SS.effB 7 ?_ rfl (by kernel_rfl);(repeat' (refine W.g1 ?_;try intro b_));refine SS.done ?_ (by kernel_rfl))
    repeat' (refine W.go ?_;try intro b_)
    rw [hS1,show ((64*j:Nat):Int)+64=((64*(j+1):Nat):Int) by omega]
    refine HandF.mk (j+1) ?_
    omega
   ·have h2:=(Rd.ownB [] hx1 hs).sub (64*j) (64*j+64) (xc-64*j) (by omega) (by omega) (by omega)
    rw [show 64*j+64-64*j=64 by omega,Nat.zero_add] at h2
    exact h2
  ·have hje:j=X.length/64:=by omega
   subst hje
   rw [← hab,← hR]
   repeat' (refine W.go ?_;try intro b_)
   refine CutF.mk () ?_
   trivial
 rintro _ -
 repeat' (refine W.gb ?_;try intro b_)
 clear hR hab
 rename_i b6
 rw [show List.replicate 32 (Value.int .u8 0)=outK R 0 from rfl]
 refine SW.cut [2,6] [b_] (fun _:Unit=>[]) (fun _=>[(b_,cl (outK R 8) 118)]) (fun _=>True) ?_ ?_
 ·repeat' (refine W.go ?_;try intro b_)
  refine SW.loopG [2,6,30] [b_] (fun k:Nat=>[(31,.int .i64 (k:Int))]) (fun k=>[(b_,cl (outK R k) 118)]) (fun k=>8-k) (fun k=>k≤8) 0 (by omega) ?_
  intro k hk
  by_cases hk8:k<8
  ·have h2:=s8c_at R hk8
   have h3:=outK_set4 R hk8
   obtain⟨y3,y2,y1,y0⟩:=by32 (R.get k)
   rw [← y3,← y2,← y1,← y0] at h3
   have hl32:=outK_len R hk
   have hA:OC (outK R k):=inferInstance
   generalize outK R k=A at h3 hl32 hA ⊢
   generalize R.get k=y at h2 h3
   have g0:4*k<A.length:=by omega
   have g1:∀ v,4*k+1<(A.set (4*k) v).length:=fun v=>by rw [List.length_set];omega
   have g2:∀ v v2,4*k+2<((A.set (4*k) v).set (4*k+1) v2).length:=fun v v2=>by rw [List.length_set,List.length_set];omega
   have g3:∀ v v2 v3,4*k+3<(((A.set (4*k) v).set (4*k+1) v2).set (4*k+2) v3).length:=fun v v2 v3=>by rw [List.length_set,List.length_set,List.length_set];omega
   repeat' (refine W.go ?_;try intro b_)
   refine W.st ?_ (hi:=g1 _)
   repeat' (refine W.go ?_;try intro b_)
   refine W.st ?_ (hi:=g2 _ _)
   repeat' (refine W.go ?_;try intro b_)
   refine W.st ?_ (hi:=g3 _ _ _)
   repeat' (refine W.go ?_;try intro b_)
   rw [h3]
   refine HandF.mk (k+1) ?_
   omega
  ·have:k=8:=by omega
   subst this
   repeat' (refine W.go ?_;try intro b_)
   refine CutF.mk () ?_
   trivial
 rintro _ -
 rw [outK_8]
 have hl3:(cbs (Sha.outB R)).length=32:=by rw [cbs_len,Sha.outB_len]
 repeat' (refine W.go ?_;try intro b_)
 refine F.c0 (cbs (Sha.outB R)) ?_
 exact⟨rfl,rfl⟩
end Go.Proofs.YtnigolgkkjidiaaGreat
namespace Go.Proofs.YtnigolgkkjidiaaGreat
open Go
attribute [local irreducible] SW SL SQ SH SA SS Pu Fin CutF HandF
section
variable {P:Program}{C:Ctx}{ρ:Fr}{H:Hp}{o:Oper}{t e n len cap l h:Nat}{x y:Operand}{a:Option Addr}{k:IntKind}{m:Int}
theorem p_s01g [SliceTy P t e n] [hi:NatI m h](ho:o.op=.slice t x none (some y) none)(hx:ev ρ x=some (.slice a len cap))(hy:ev ρ y=some (.int k m))(hh:h≤cap):Pu P C ρ H o (.slice (sadr a cap 0 n) (h-0) (cap-0)):=
 p_slice (vl:=none) (vh:=none) ho hx (l:=0) (h:=h) (.inl ⟨rfl,rfl⟩) (.inr ⟨y,k,m,rfl,hy,hi.ok⟩) (Nat.zero_le _) hh
end
theorem Grow_p(n:Nat)(hn:n≤1099511627776):Tri Tryz.prog 238 [.slice none 0 0,.int .i64 (n:Int)] [] (fun _=>True) (fun v H=>Sl 5 1 v [] H):=by
 refine Tri.mk Tryz.func238 rfl Tryz.ntmps238 rfl fun w hw=>?_
 haveI i0:NatI ((n:Int)-(0-0)) n:=⟨by omega⟩
 by_cases h:n=0
 ·subst h
  repeat' (refine W.go ?_;try intro b_)
  exact F.f1 (Sl.nil _ _)
 ·repeat' (refine W.go ?_;try intro b_)
  refine SL.pu (p_s01g (a:=none) (len:=0) (cap:=0) (h:=0) rfl rfl rfl (Nat.le_refl _)) rfl rfl ?_
  repeat' (refine W.go ?_;try intro b_)
  refine W.apz (Sl.nil _ _) (fun v1 H1 h1=>?_) (hbytes:=by simp;omega)
  rcases h1 with ⟨-,h1,-⟩|⟨b,len,cap,junk,rfl,hx,hj,hlc,rfl⟩
  ·simp at h1;omega
  ·have hlen:len=n:=by simpa using hx.symm
   subst hlen
   repeat' (refine W.go ?_;try intro b_)
   refine F.f1 ?_
   refine .inr ⟨b,0,cap,([]++List.replicate len (.int .u8 0))++junk,rfl,rfl,?_,Nat.zero_le _,by simp⟩
   rw [List.length_append,hx];omega
theorem Concat_p(v:Value)(bss:List (List UInt8))(hn:bss.flatten.length≤1099511627776)(hn2:bss.length≤1099511627776):Tri Tryz.prog 190 [v] [] (fun w=>RdS [] w v bss) (fun v H=>Sl 5 1 v (cbs bss.flatten) H):=by
 refine Tri.mk Tryz.func190 rfl Tryz.ntmps190 rfl fun w hw=>?_
 obtain⟨vs,hR,hvl,hvs⟩:=hw
 obtain⟨pa,pl,pc,rfl,hpl,hpc,hpr⟩:=hR
 rw [Nat.mul_one] at hpl
 have hbl:bss.length=pl:=by omega
 repeat' (refine W.gb ?_;try intro b_)
 refine SW.cut [0] [] (fun _:Unit=>[(3,.int .i64 (bss.flatten.length:Int))]) (fun _=>[]) (fun _=>True) ?_ ?_
 ·repeat' (refine W.go ?_;try intro b_)
  refine SW.loopG [0,9,10] [] (fun i:Nat=>[(3,.int .i64 ((bss.take i).flatten.length:Int)),(11,.int .i64 (i:Int))]) (fun _=>[]) (fun i=>pl-i) (fun i=>i≤pl) 0 (by omega) ?_
  intro i hi
  by_cases hip:i<pl
  ·obtain⟨bs,hbs⟩:∃ bs,bss[i]?=some bs:=⟨_,List.getElem?_eq_getElem (by omega)⟩
   obtain⟨a,len,cap,hvi,hrd⟩:=hvs i bs hbs
   have hfl:=flat_le bss (i+1)
   have hf2:=take_flat bss hbs
   obtain⟨pb,po,l,T,fz,rfl,hpb,hpk,hpy⟩:=hpr.resolve_left (by omega)
   have hl:l[po+i]?=some (.slice a len cap):=by
    rw [← hpy,List.getElem?_take,if_pos (by omega),List.getElem?_drop] at hvi
    exact hvi
   obtain⟨hbsl,hlc⟩:=hrd.len1
   have hNl:((bss.take (i+1)).flatten).length=((bss.take i).flatten).length+len:=by rw [hf2,List.length_append,hbsl]
   have hNi:(((bss.take (i+1)).flatten).length:Int)=(((bss.take i).flatten).length:Int)+len:=by omega
   generalize ((bss.take i).flatten).length=N at hNl hNi ⊢
   repeat' (refine W.go ?_;try intro b_)
   rw [← hNi]
   refine HandF.mk (i+1) ?_
   omega
  ·have hi2:i=pl:=by omega
   subst hi2
   have hall:bss.take i=bss:=List.take_of_length_le (by omega)
   rw [hall]
   repeat' (refine W.go ?_;try intro b_)
   refine CutF.mk () ?_
   trivial
 rintro _ -
 repeat' (refine W.gb ?_;try intro b_)
 refine W.call (Grow_p bss.flatten.length hn) ?_
 intro v1 H1 h1
 have h11:=h1.isOne
 repeat' (refine W.gb ?_;try intro b_)
 refine SW.cutH [] H1 (fun x:Value×Hp=>[(6,x.1)]) (fun x=>x.2) (fun x=>Sl 5 1 x.1 (cbs bss.flatten) x.2) ?_ ?_
 ·repeat' (refine W.go ?_;try intro b_)
  refine SW.loopF [25,26] (fun x:Nat×Value×Hp=>[(6,x.2.1),(27,.int .i64 (x.1:Int))]) (fun x=>x.2.2) (fun x=>pl-x.1) (fun x=>x.1≤pl∧Sl 5 1 x.2.1 (cbs (bss.take x.1).flatten) x.2.2) (0,v1,H1) ⟨by omega,h1⟩ ?_
  rintro⟨i,v2,H2⟩ ⟨hi,h2⟩
  dsimp only at hi h2 ⊢
  have h21:=h2.isOne
  by_cases hip:i<pl
  ·obtain⟨bs,hbs⟩:∃ bs,bss[i]?=some bs:=⟨_,List.getElem?_eq_getElem (by omega)⟩
   obtain⟨a,len,cap,hvi,hrd⟩:=hvs i bs hbs
   have hfl:=flat_le bss (i+1)
   have hf2:=take_flat bss hbs
   obtain⟨pb,po,l,T,fz,rfl,hpb,hpk,hpy⟩:=hpr.resolve_left (by omega)
   have hl:l[po+i]?=some (.slice a len cap):=by
    rw [← hpy,List.getElem?_take,if_pos (by omega),List.getElem?_drop] at hvi
    exact hvi
   obtain⟨hbsl,hlc⟩:=hrd.len1
   have hNl:((bss.take (i+1)).flatten).length=((bss.take i).flatten).length+len:=by rw [hf2,List.length_append,hbsl]
   repeat' (refine W.go ?_;try intro b_)
   refine W.ap h2 (fun w2 hs=>hrd.srcAt hs) (fun v3 H3 h3=>?_) (hys:=by rw [cbs_len];omega) (hbytes:=by rw [cbs_len,cbs_len];omega)
   have h31:=h3.isOne
   rw [← cbs_app,← hf2] at h3
   repeat' (refine W.go ?_;try intro b_)
   refine HandF.mk (i+1,v3,H3) ?_
   exact⟨by omega,h3⟩
  ·have hi2:i=pl:=by omega
   subst hi2
   have hall:bss.take i=bss:=List.take_of_length_le (by omega)
   rw [hall] at h2
   repeat' (refine W.go ?_;try intro b_)
   refine CutF.mk (v2,H2) ?_
   exact h2
 rintro⟨v2,H2⟩ h2
 dsimp only at h2 ⊢
 have h21:=h2.isOne
 repeat' (refine W.go ?_;try intro b_)
 refine Fin.to H2 ?_
 exact F.f1 h2
theorem Equal_p(va vb:Value)(x y:List UInt8):Tri Tryz.prog 152 [va,vb] [] (fun w=>Rd [] w 1 va (cbs x)∧Rd [] w 1 vb (cbs y)) (fun v H=>v=.bool (decide (x=y))∧H=[]):=by
 refine Tri.mk Tryz.func152 rfl Tryz.ntmps152 rfl fun w hw=>?_
 obtain⟨h1,h2⟩:=hw
 obtain⟨a,la,ca,rfl,-⟩:=h1.get
 obtain⟨b,lb,cb,rfl,-⟩:=h2.get
 repeat' (refine W.go ?_;try intro b_)
 refine W.cst (fun w2 hs=>h1.srcAt hs) ?_
 repeat' (refine W.go ?_;try intro b_)
 refine W.cst (fun w2 hs=>h2.srcAt hs) ?_
 refine W.est ?_
 rw [strV_eq]
 repeat' (refine W.go ?_;try intro b_)
 exact F.f1 ⟨rfl,rfl⟩
theorem Clone_p(v:Value)(x:List UInt8)(hx:x.length≤1099511627776):Tri Tryz.prog 65 [v] [] (fun w=>Rd [] w 1 v (cbs x)) (fun v H=>Sl 5 1 v (cbs x) H):=by
 refine Tri.mk Tryz.func65 rfl Tryz.ntmps65 rfl fun w hw=>?_
 obtain⟨a,la,ca,rfl,hl,hc,hr⟩:=hw.get
 rw [cbs_len,Nat.mul_one] at hl
 cases a with
 | none=>
  have h0:la=0:=by
   rcases Nat.eq_zero_or_pos la with h|h
   ·exact h
   ·obtain⟨b,o,l,T,fz,e,-⟩:=hr h
    cases e
  subst h0
  have hx0:x=[]:=List.eq_nil_of_length_eq_zero hl
  subst hx0
  repeat' (refine W.go ?_;try intro b_)
  exact F.f1 (Sl.nil _ _)
 | some a=>
  repeat' (refine W.go ?_;try intro b_)
  have h0:Sl 5 1 (.slice (some ⟨b_,0,none⟩) 0 0) [] [(b_,cl ([]:List Value) 5)]:=Sl.mk (xs:=[]) (junk:=[]) (len:=0) (cap:=0) rfl rfl (Nat.le_refl _)
  refine W.ap h0 (fun w2 hs=>hw.srcAt hs) (fun v1 H1 h1=>?_) (hys:=by rw [cbs_len];omega) (hbytes:=by rw [cbs_len];simp;omega)
  have h11:=h1.isOne
  rw [List.nil_append] at h1
  repeat' (refine W.go ?_;try intro b_)
  refine Fin.to H1 ?_
  exact F.f1 h1
end Go.Proofs.YtnigolgkkjidiaaGreat
namespace Go.Proofs.YtnigolgkkjidiaaGreat
open Go
attribute [local irreducible] SW SL SQ SH SA SS Pu Fin CutF HandF
section
variable {P:Program}{C:Ctx}{L:List Oper}{Q:Exit→Fr→Hp→Prop}{B:List Nat}{R R' H:Hp}{fuel:Nat}{listed:Array Bool}{ρ:Fr}{o:Oper}
theorem SS.lkA{t len r:Nat}{z:Value}{x y:Operand}{b:List UInt8}{l:List (List UInt8×Value)}(i:Nat)(Ws:List Nat)(hi:L[i]?=some o){d':Option Nat}(hk:SS P C L Q B R' fuel (listed.setIfInBounds i true) (pt ρ d' (.tuple #[(atK l b).getD z,.bool (atK l b).isSome])) H)(hb:b.length=len)(hl:∀ x∈l,x.1.length=len)(hok:canL L B listed i Ws=true:=by kernel_rfl)(ho:o.op=.lookup t x y true:=by exact rfl)(iM:MapB P t len z:=by infer_instance)(hx:ev ρ x=some (.map (some r)):=by exact rfl)(hy:ev ρ y=some (.agg (cbs b).toArray):=by exact rfl)(hat:At H r (mo l):=by infer_instance)(hin:Ins R r (mo l) R':=by infer_instance)(hg:gd L ρ o=some true:=by exact rfl)(hd:dk C.n o.dst=some d':=by exact rfl)(hQ:∀ c ρ H,Q (.panic c) ρ H→False:=by exact fun _ _ _ h=>Fin.np h):SS P C L Q B R (fuel+1) listed ρ H:=
 SS.putL i Ws hi hok hQ hin.ok.2.1 (fun x hx=>(hin.ok.2.2 x hx).elim (fun e=>.inr (e▸hat.mem)) .inl) (fun a hf=>.inl ⟨gd_wanted hf hg,fun w hr=>by
  have hb2:=hr.2 _ hin.ok.1
  unfold execOp;rw [ho];simp [hf.eval hx,hf.eval hy,run_lookupA b hb hl hb2]⟩) hd hk
end
def RdH(H:Hp)(v:Value)(bs:List UInt8):Prop:=
 ∃ (a:Option Addr) (len cap:Nat),v=.slice a len cap∧bs.length=len∧len≤cap∧(len=0∨∃ (b o:Nat) (l:List Value) (T:TypeId) (fz:Nat×Nat),a=some ⟨b,o,none⟩∧(b,Obj.cells l.toArray T fz)∈H∧(l.drop o).take len=cbs bs)
theorem RdH.of{e:Nat}{v:Value}{bs:List UInt8}{Hs:Hp}(h:Sl e 1 v (cbs bs) Hs):RdH Hs v bs:=by
 rcases h with ⟨rfl,hb,rfl⟩|⟨b,len,cap,junk,rfl,hx,hj,hlc,rfl⟩
 ·have:bs=[]:=by simpa using hb
  subst this
  exact⟨none,0,0,rfl,rfl,Nat.le_refl _,.inl rfl⟩
 ·rw [Nat.mul_one] at hx
  refine⟨_,len,cap,rfl,by rw [← cbs_len];exact hx,hlc,.inr ⟨b,0,cbs bs++junk,e,(0,0),rfl,by simp,?_⟩⟩
  rw [List.drop_zero,← hx,List.take_left'];rfl
theorem RdH.mono{H H':Hp}{v:Value}{bs:List UInt8}(h:RdH H v bs)(hs:∀ x∈H,x∈H'):RdH H' v bs:=by
 obtain⟨a,len,cap,h1,h2,h3,h4⟩:=h
 exact⟨a,len,cap,h1,h2,h3,h4.imp id fun⟨b,o,l,T,fz,e1,e2,e3⟩=>⟨b,o,l,T,fz,e1,hs _ e2,e3⟩⟩
theorem RdH.one{H:Hp}{v:Value}{bs:List UInt8}(h:RdH H v bs):One v:=by
 obtain⟨a,len,cap,rfl,-⟩:=h;exact⟨rfl⟩
theorem RdH.rd{K:List Nat}{w0 w:World}{H Hc Ht r:Hp}{v:Value}{bs:List UInt8}(h:RdH Ht v bs)(hs:St K w0 H w) [hp:Part H (Hc++Ht) r]:Rd (Hc.map Prod.fst) w 1 v (cbs bs):=by
 obtain⟨a,len,cap,rfl,h2,h3,h4⟩:=h
 have hs2:=hs.perm hp.perm
 have hn:=hs2.nodup
 refine⟨a,len,cap,rfl,by rw [cbs_len,h2,Nat.mul_one],h3,h4.imp id fun⟨b,o,l,T,fz,e1,e2,e3⟩=>⟨b,o,l,T,fz,e1,hs2.own b _ (by simp [e2]),fun hm=>?_,by rw [Nat.mul_one];exact e3⟩⟩
 simp only [List.map_append,List.append_assoc] at hn
 exact (List.nodup_append.1 hn).2.2 b hm b (List.mem_append_left _ (List.mem_map_of_mem (f:=Prod.fst) e2)) rfl
theorem one_at{K:List Nat}{vs:List Value}{a:Option Addr}{l c:Nat}{b:List UInt8}{w:World}(hv:vs=[.slice a l c])(h:Rd K w 1 (.slice a l c) (cbs b)):∀ (i:Nat) (bs:List UInt8),[b][i]?=some bs→∃ (a:Option Addr) (len cap:Nat),vs[i]?=some (Value.slice a len cap)∧Rd K w 1 (.slice a len cap) (cbs bs):=by
 intro i bs hi
 have hi0:i=0:=by
  have:=(List.getElem?_eq_some_iff.1 hi).1
  simp at this;omega
 subst hi0
 cases hi
 subst hv
 exact⟨a,l,c,rfl,h⟩
structure Bk where
 kept:List (List UInt8)
 clash:Option (List UInt8×List UInt8)
def Bk.new:Bk:=⟨[],none⟩
def Bk.add(s:Bk)(t:List UInt8):Bk:=
 match s.kept.find? fun k=>decide (Sha.sum t=Sha.sum k) with
 | some old=>if old≠t∧s.clash=none then { s with clash:=some (old,t) } else s
 | none=>if s.kept.length<16384 then { s with kept:=s.kept++[t] } else s
abbrev bkc(tp m:Nat)(cp:Option Addr):List Value:=[.func (.func 109) #[.pointer (some ⟨tp,0,none⟩)] #[],.map (some m),.pointer cp]
abbrev kvs(kt:List (List UInt8×Value)):List (List UInt8×Value):=kt.map fun x=>(Sha.sum x.1,x.2)
theorem kvs_len(kt:List (List UInt8×Value)):∀ x∈kvs kt,x.1.length=32:=by
 intro x hx
 obtain⟨y,-,rfl⟩:=List.mem_map.1 hx
 exact Sha.sum_len _
theorem kvs_app(kt:List (List UInt8×Value))(t:List UInt8)(v:Value):kvs kt++[(Sha.sum t,v)]=kvs (kt++[(t,v)]):=by simp
theorem atK_kvs(kt:List (List UInt8×Value))(t:List UInt8):atK (kvs kt) (Sha.sum t)=(kt.find? fun x=>decide (Sha.sum t=Sha.sum x.1)).map Prod.snd:=by
 unfold atK kvs
 rw [List.find?_map]
 simp [Function.comp_def]
theorem find_kept(kt:List (List UInt8×Value))(t:List UInt8):(kt.map Prod.fst).find? (fun k=>decide (Sha.sum t=Sha.sum k))=(kt.find? fun x=>decide (Sha.sum t=Sha.sum x.1)).map Prod.fst:=by
 rw [List.find?_map]
 rfl
def ClP(Ht:Hp):Option (List UInt8×List UInt8)→Option Addr→Prop
 | none,cp=>cp=none
 | some (x,y),cp=>∃ c vx vy,cp=some ⟨c,0,none⟩∧(c,cl [vx,vy] 346)∈Ht∧RdH Ht vx x∧RdH Ht vy y∧x.length≤1099511627776∧y.length≤1099511627776
theorem ClP.mono{H H':Hp}{q:Option (List UInt8×List UInt8)}{cp:Option Addr}(h:ClP H q cp)(hs:∀ x∈H,x∈H'):ClP H' q cp:=by
 cases q with
 | none=>exact h
 | some x=>
  obtain⟨x,y⟩:=x
  obtain⟨c,vx,vy,h1,h2,h3,h4,h5⟩:=h
  exact⟨c,vx,vy,h1,hs _ h2,h3.mono hs,h4.mono hs,h5⟩
def BookP(b tp:Nat)(s:Bk)(H:Hp):Prop:=
 ∃ (m:Nat) (kt:List (List UInt8×Value)) (cp:Option Addr) (Ht:Hp),H=(b,cl (bkc tp m cp) 234)::(m,mo (kvs kt))::(tp,cl tabC 239)::Ht ∧
  s.kept=kt.map Prod.fst∧(∀ x∈kt,RdH Ht x.2 x.1∧x.1.length≤1099511627776)∧ClP Ht s.clash cp
instance texts:MapB Tryz.prog 231 32 (.slice none 0 0) where
 ok:=⟨119,50,Tryz.underlying231,⟨by kernel_rfl,inferInstance,_,Tryz.underlying119,Tryz.underlying5,by kernel_rfl,inferInstance⟩,by kernel_rfl⟩
theorem BNew_p(tp:Nat):Tri Tryz.prog 45 [.pointer (some ⟨tp,0,none⟩)] [(tp,cl tabC 239)] (fun _=>True) (fun v H=>∃ b,v=.pointer (some ⟨b,0,none⟩)∧BookP b tp Bk.new H):=by
 refine Tri.mk Tryz.func45 rfl Tryz.ntmps45 rfl fun w hw=>?_
 repeat' (refine W.go ?_;try intro b_)
 refine W.mkm fun m=>?_
 have hbd:bfill (fun i=>[(0,1),(1,1),(2,1)][i]?) ([.nilFunc]++[.map none]++[.pointer none]) [(0,.func (.func 109) #[.pointer (some ⟨tp,0,none⟩)] #[]),(1,.map (some m))]=some (bkc tp m none):=rfl
 repeat' (refine W.go ?_;try intro b_)
 refine F.f1 ?_
 exact⟨b_,rfl,m,[],none,[],rfl,rfl,by simp,rfl⟩
theorem BSum_p{b tp:Nat}{s:Bk}{H:Hp}(hB:BookP b tp s H)(k:UInt8)(pv:Value)(bss:List (List UInt8))(hn:bss.flatten.length≤1099511626000)(hn2:bss.length≤1099511627776) :
  Tri Tryz.prog 141 [.pointer (some ⟨b,0,none⟩),.int .u8 (k.toNat:Int),pv] H (fun w=>RdS (H.map Prod.fst) w pv bss) (fun v H'=>v=.agg (cbs (Sha.sum (k::bss.flatten))).toArray∧BookP b tp (s.add (k::bss.flatten)) H'):=by
 obtain⟨m,kt,cp,Ht,rfl,hk,hr,hc⟩:=hB
 refine Tri.mk Tryz.func141 rfl Tryz.ntmps141 rfl fun w hw=>?_
 have hpv:=hw.one
 have hw2:=hw
 obtain⟨-,⟨pa,pl,pc,rfl,-⟩,-⟩:=hw
 have hb1:bfill (fun i=>some (i*1,1)) (zs [.int .u8 0] 1) [(0,.int .u8 (k.toNat:Int))]=some (cbs [k]):=rfl
 repeat' (refine W.go ?_;try intro b_)
 refine W.call (Concat_p _ bss (by omega) hn2) ?_ rfl (fun w2 hs=>hw2.ro (Hc:=[]) hs)
 intro v1 H1 h1
 have h11:=h1.isOne
 obtain⟨a1,l1,c1,rfl,hl1⟩:=h1.form
 rw [cbs_len,Nat.mul_one] at hl1
 have hA:Sl 5 1 (.slice (some ⟨b_,0,none⟩) 1 1) (cbs [k]) [(b_,cl (cbs [k]) 5)]:=by
  have:=Sl.mk (e:=5) (n:=1) (b:=b_) (len:=1) (cap:=1) (xs:=cbs [k]) (junk:=[]) rfl rfl (Nat.le_refl _)
  rwa [List.append_nil] at this
 refine W.ap hA (fun w2 hs=>h1.srcAt hs inferInstance) (fun v2 H2 h2=>?_) (hys:=by rw [cbs_len];omega) (hbytes:=by rw [cbs_len,cbs_len,List.length_singleton];omega)
 have h21:=h2.isOne
 rw [← cbs_app,show [k]++bss.flatten=k::bss.flatten from rfl] at h2
 have hTl:(k::bss.flatten).length≤1099511627000:=by rw [List.length_cons];omega
 generalize k::bss.flatten=T at h2 hTl ⊢
 obtain⟨a2,l2,c2,rfl,hl2⟩:=h2.form
 have hb4:bfill (fun i=>some (i*1,1)) (zs [.slice none 0 0] 1) [(0,.slice a2 l2 c2)]=some [.slice a2 l2 c2]:=rfl
 have hf:[T].flatten=T:=by simp
 have hT:=fun b4=>TSum_p (tp:=tp) [T] (.slice (some ⟨b4,0,none⟩) 1 1) (by rw [hf];omega) (by simp)
 rw [hf] at hT
 repeat' (refine W.go ?_;try intro b_)
 refine SL.callv [(tp,cl tabC 239)] rfl rfl rfl rfl rfl rfl (hT b_) (fun w2 hs=>?_) ?_
 ·exact RdS.at (T:=50) (fz:=(0,0)) (Hc:=[(tp,cl tabC 239)]) (vs:=[.slice a2 l2 c2]) (bss:=[T]) hs rfl (Nat.le_refl _) rfl (one_at rfl (Rd.own (Hc:=[(tp,cl tabC 239)]) h2 hs inferInstance))
 rintro _ _ ⟨rfl,rfl⟩
 have h32:(cbs (Sha.sum T)).length=32:=by rw [cbs_len,Sha.sum_len]
 repeat' (refine W.go ?_;try intro b_)
 (refine SW.regionS [] ?_ (by kernel_rfl);refine SS.T 0 rfl ?_;refine SS.T 1 rfl ?_;refine SS.T 2 rfl ?_;(first|refine SS.ls 3 [] rfl ?_|refine SS.sR 3 rfl ?_);(first|refine SS.lw 4 [] rfl ?_|refine SS.la 4 [] rfl ?_|refine SS.aR 4 rfl ?_);refine SS.lkA 5 [] rfl ?_ (Sha.sum_len _) (kvs_len _);refine SS.T 6 rfl ?_;refine SS.T 7 rfl ?_;refine SS.T 8 rfl ?_;refine SS.T 9 rfl ?_;refine SS.T 10 rfl ?_;refine SS.done ?_ (by kernel_rfl))
 rw [atK_kvs]
 have hkeep:BookP b tp s ((b,cl (bkc tp m cp) 234)::(m,mo (kvs kt))::(tp,cl tabC 239)::Ht):=⟨m,kt,cp,Ht,rfl,hk,hr,hc⟩
 have hadd:s.add T=match (kt.find? fun x=>decide (Sha.sum T=Sha.sum x.1)).map Prod.fst with
   | some old=>if old≠T∧s.clash=none then { s with clash:=some (old,T) } else s
   | none=>if s.kept.length<16384 then { s with kept:=s.kept++[T] } else s:=by
  unfold Bk.add
  rw [hk,find_kept]
 cases hfd:kt.find? fun x=>decide (Sha.sum T=Sha.sum x.1) with
 | none=>
  rw [hfd] at hadd
  have hkl:(kvs kt).length=kt.length:=List.length_map ..
  have hskl:s.kept.length=kt.length:=by rw [hk,List.length_map]
  have hn0:atK (kvs kt) (Sha.sum T)=none:=by rw [atK_kvs,hfd];rfl
  dsimp only [Option.map_none,Option.getD_none,Option.isSome_none]
  dsimp only [Option.map_none] at hadd
  by_cases hlt:kt.length<16384
  ·rw [if_pos (by omega)] at hadd
   repeat' (refine W.go ?_;try intro b_)
   refine W.lnm ?_
   rw [hkl]
   repeat' (refine W.go ?_;try intro b_)
   (refine SW.regionS [6] ?_ (by kernel_rfl);refine SS.T 0 rfl ?_;refine SS.T 1 rfl ?_;refine SS.T 2 rfl ?_;(first|refine SS.ls 3 [6] rfl ?_|refine SS.sR 3 rfl ?_);(first|refine SS.lw 4 [6] rfl ?_|refine SS.la 4 [6] rfl ?_|refine SS.aR 4 rfl ?_);refine SS.T 5 rfl ?_;refine SS.effB 6 ?_ rfl (by kernel_rfl))
   refine W.mup ?_ (Sha.sum_len _) (kvs_len _) hn0
   rw [kvs_app]
   (refine SL.nilB ?_;refine SS.done ?_ (by kernel_rfl))
   repeat' (refine W.go ?_;try intro b_)
   refine F.cH ((b,cl (bkc tp m cp) 234)::(m,mo (kvs (kt++[(T,.slice a2 l2 c2)])))::(tp,cl tabC 239)::(H2++Ht)) (cbs (Sha.sum T)) ?_
   refine⟨rfl,m,kt++[(T,.slice a2 l2 c2)],cp,H2++Ht,rfl,?_,?_,?_⟩
   ·rw [hadd,List.map_append,← hk];rfl
   ·intro x hx
    rcases List.mem_append.1 hx with h|h
    ·exact⟨(hr x h).1.mono fun y hy=>List.mem_append_right _ hy,(hr x h).2⟩
    ·rw [List.mem_singleton] at h
     subst h
     exact⟨(RdH.of h2).mono fun y hy=>List.mem_append_left _ hy,by show T.length≤_;omega⟩
   ·rw [hadd]
    exact hc.mono fun y hy=>List.mem_append_right _ hy
  ·rw [if_neg (by omega)] at hadd
   repeat' (refine W.go ?_;try intro b_)
   refine W.lnm ?_
   rw [hkl]
   repeat' (refine W.go ?_;try intro b_)
   refine F.cH ((b,cl (bkc tp m cp) 234)::(m,mo (kvs kt))::(tp,cl tabC 239)::Ht) (cbs (Sha.sum T)) ?_
   exact⟨rfl,by rw [hadd];exact hkeep⟩
 | some x=>
  obtain⟨old,ov⟩:=x
  rw [hfd] at hadd
  have hmem:=List.mem_of_find?_eq_some hfd
  obtain⟨hov,hol⟩:=hr _ hmem
  dsimp only at hov hol
  have hov2:=hov
  have hov1:=hov.one
  obtain⟨oa,ol,oc,rfl,-⟩:=hov2
  dsimp only [Option.map_some,Option.getD_some,Option.isSome_some]
  dsimp only [Option.map_some] at hadd
  repeat' (refine W.go ?_;try intro b_)
  refine W.call (Equal_p (.slice oa ol oc) (.slice a2 l2 c2) old T) ?_ rfl (fun w2 hs=>⟨hov.rd (Hc:=[]) hs,Rd.ownB [] h2 hs⟩)
  rintro _ _ ⟨rfl,rfl⟩
  by_cases ho:old=T
  ·rw [decide_eq_true ho]
   rw [if_neg (by simp [ho])] at hadd
   repeat' (refine W.go ?_;try intro b_)
   refine F.cH ((b,cl (bkc tp m cp) 234)::(m,mo (kvs kt))::(tp,cl tabC 239)::Ht) (cbs (Sha.sum T)) ?_
   exact⟨rfl,by rw [hadd];exact hkeep⟩
  ·rw [decide_eq_false ho]
   cases hcl:s.clash with
   | none=>
    rw [hcl] at hc
    have hcp:cp=none:=hc
    subst hcp
    rw [if_pos ⟨ho,hcl⟩] at hadd
    have hb9:bfill (fun i=>[(0,1),(1,1)][i]?) ([.slice none 0 0]++[.slice none 0 0]) [(0,.slice oa ol oc),(1,.slice a2 l2 c2)]=some [.slice oa ol oc,.slice a2 l2 c2]:=rfl
    repeat' (refine W.go ?_;try intro b_)
    rw [show (bkc tp m none).set 2 (.pointer (some ⟨b_,0,none⟩))=bkc tp m (some ⟨b_,0,none⟩) from rfl]
    refine F.cH ((b,cl (bkc tp m (some ⟨b_,0,none⟩)) 234)::(m,mo (kvs kt))::(tp,cl tabC 239)::(b_,cl [.slice oa ol oc,.slice a2 l2 c2] 346)::(H2++Ht)) (cbs (Sha.sum T)) ?_
    refine⟨rfl,m,kt,some ⟨b_,0,none⟩,(b_,cl [.slice oa ol oc,.slice a2 l2 c2] 346)::(H2++Ht),rfl,?_,?_,?_⟩
    ·rw [hadd];exact hk
    ·intro x hx
     exact⟨(hr x hx).1.mono fun y hy=>List.mem_cons_of_mem _ (List.mem_append_right _ hy),(hr x hx).2⟩
    ·rw [hadd]
     exact⟨b_,_,_,rfl,by simp,hov.mono fun y hy=>List.mem_cons_of_mem _ (List.mem_append_right _ hy),(RdH.of h2).mono fun y hy=>List.mem_cons_of_mem _ (List.mem_append_left _ hy),hol,by omega⟩
   | some q=>
    obtain⟨q1,q2⟩:=q
    have hc2:=hc
    rw [hcl] at hc2
    obtain⟨c,vx,vy,rfl,-⟩:=hc2
    rw [if_neg (by rw [hcl];simp)] at hadd
    repeat' (refine W.go ?_;try intro b_)
    refine F.cH ((b,cl (bkc tp m (some ⟨c,0,none⟩)) 234)::(m,mo (kvs kt))::(tp,cl tabC 239)::Ht) (cbs (Sha.sum T)) ?_
    exact⟨rfl,by rw [hadd];exact hkeep⟩
end Go.Proofs.YtnigolgkkjidiaaGreat
namespace Go.Proofs.YtnigolgkkjidiaaGreat
open Go
attribute [local irreducible] SW SL SQ SH SA SS Pu Fin CutF HandF
instance digEq:EqB Tryz.prog 119 32 where
 guard:=by kernel_rfl
 row:=inferInstance
 ok:=⟨_,Tryz.underlying119,Tryz.underlying5,by kernel_rfl,inferInstance⟩
theorem two_at{K:List Nat}{vs:List Value}{a a':Option Addr}{l l' c c':Nat}{b b':List UInt8}{w:World}(hv:vs=[.slice a l c,.slice a' l' c'])(h:Rd K w 1 (.slice a l c) (cbs b))(h':Rd K w 1 (.slice a' l' c') (cbs b')):∀ (i:Nat) (bs:List UInt8),[b,b'][i]?=some bs→∃ (a:Option Addr) (len cap:Nat),vs[i]?=some (Value.slice a len cap)∧Rd K w 1 (.slice a len cap) (cbs bs):=by
 intro i bs hi
 have hi0:i=0∨i=1:=by
  have:=(List.getElem?_eq_some_iff.1 hi).1
  simp at this;omega
 subst hv
 rcases hi0 with rfl|rfl
 ·cases hi
  exact⟨a,l,c,rfl,h⟩
 ·cases hi
  exact⟨a',l',c',rfl,h'⟩
theorem RText_p(k:UInt8)(v:Value)(bss:List (List UInt8))(hn:bss.flatten.length≤1099511626000)(hn2:bss.length≤1099511627776):Tri Tryz.prog 298 [.int .u8 (k.toNat:Int),v] [] (fun w=>RdS [] w v bss) (fun v H=>Sl 5 1 v (cbs (k::bss.flatten)) H):=by
 refine Tri.mk Tryz.func298 rfl Tryz.ntmps298 rfl fun w hw=>?_
 obtain⟨vs,hR,hvl,hvs⟩:=hw
 obtain⟨pa,pl,pc,rfl,hpl,hpc,hpr⟩:=hR
 rw [Nat.mul_one] at hpl
 have hbl:bss.length=pl:=by omega
 have hb1:bfill (fun i=>some (i*1,1)) (zs [.int .u8 0] 1) [(0,.int .u8 (k.toNat:Int))]=some (cbs [k]):=rfl
 repeat' (refine W.gb ?_;try intro b_)
 have hA:Sl 5 1 (.slice (some ⟨b_,0,none⟩) 1 1) (cbs (k::(bss.take 0).flatten)) [(b_,cl (cbs [k]) 5)]:=by
  have:=Sl.mk (e:=5) (n:=1) (b:=b_) (len:=1) (cap:=1) (xs:=cbs [k]) (junk:=[]) rfl rfl (Nat.le_refl _)
  rw [List.append_nil] at this
  simpa using this
 refine SW.cutH [] [(b_,cl (cbs [k]) 5)] (fun x:Value×Hp=>[(5,x.1)]) (fun x=>x.2) (fun x=>Sl 5 1 x.1 (cbs (k::bss.flatten)) x.2) ?_ ?_
 ·repeat' (refine W.go ?_;try intro b_)
  refine SW.loopF [10,11] (fun x:Nat×Value×Hp=>[(5,x.2.1),(12,.int .i64 (x.1:Int))]) (fun x=>x.2.2) (fun x=>pl-x.1) (fun x=>x.1≤pl∧Sl 5 1 x.2.1 (cbs (k::(bss.take x.1).flatten)) x.2.2) (0,.slice (some ⟨b_,0,none⟩) 1 1,[(b_,cl (cbs [k]) 5)]) ⟨by omega,hA⟩ ?_
  rintro⟨i,v2,H2⟩ ⟨hi,h2⟩
  dsimp only at hi h2 ⊢
  have h21:=h2.isOne
  by_cases hip:i<pl
  ·obtain⟨bs,hbs⟩:∃ bs,bss[i]?=some bs:=⟨_,List.getElem?_eq_getElem (by omega)⟩
   obtain⟨a,len,cap,hvi,hrd⟩:=hvs i bs hbs
   have hfl:=flat_le bss (i+1)
   have hf2:=take_flat bss hbs
   obtain⟨pb,po,l,T,fz,rfl,hpb,hpk,hpy⟩:=hpr.resolve_left (by omega)
   have hl:l[po+i]?=some (.slice a len cap):=by
    rw [← hpy,List.getElem?_take,if_pos (by omega),List.getElem?_drop] at hvi
    exact hvi
   obtain⟨hbsl,hlc⟩:=hrd.len1
   have hNl:((bss.take (i+1)).flatten).length=((bss.take i).flatten).length+len:=by rw [hf2,List.length_append,hbsl]
   repeat' (refine W.go ?_;try intro b_)
   refine W.ap h2 (fun w2 hs=>hrd.srcAt hs) (fun v3 H3 h3=>?_) (hys:=by rw [cbs_len];omega) (hbytes:=by rw [cbs_len,cbs_len,List.length_cons];omega)
   have h31:=h3.isOne
   rw [← cbs_app,List.cons_append,← hf2] at h3
   repeat' (refine W.go ?_;try intro b_)
   refine HandF.mk (i+1,v3,H3) ?_
   exact⟨by omega,h3⟩
  ·have hi2:i=pl:=by omega
   subst hi2
   have hall:bss.take i=bss:=List.take_of_length_le (by omega)
   rw [hall] at h2
   repeat' (refine W.go ?_;try intro b_)
   refine CutF.mk (v2,H2) ?_
   exact h2
 rintro⟨v2,H2⟩ h2
 dsimp only at h2 ⊢
 have h21:=h2.isOne
 repeat' (refine W.go ?_;try intro b_)
 refine Fin.to H2 ?_
 exact F.f1 h2
theorem RSum4_p(k:UInt8)(v:Value)(bss:List (List UInt8))(hn:bss.flatten.length≤1099511626000)(hn2:bss.length≤1099511627776):Tri Tryz.prog 279 [.int .u8 (k.toNat:Int),v] [] (fun w=>RdS [] w v bss) (fun v H=>v=.agg (cbs (Sha.sum (k::bss.flatten))).toArray∧H=[]):=by
 refine Tri.mk Tryz.func279 rfl Tryz.ntmps279 rfl fun w hw=>?_
 have hpv:=hw.one
 have hl3:(cbs (Sha.sum (k::bss.flatten))).length=32:=by rw [cbs_len,Sha.sum_len]
 repeat' (refine W.go ?_;try intro b_)
 refine W.call (RText_p k v bss hn hn2) ?_ rfl (fun w2 hs=>hw.ro (Hc:=[]) hs)
 intro v1 H1 h1
 have h11:=h1.isOne
 repeat' (refine W.go ?_;try intro b_)
 refine W.call (RSum_p v1 _ (by rw [List.length_cons];omega)) ?_ rfl (fun w2 hs=>Rd.ownB [] h1 hs)
 rintro _ _ ⟨rfl,rfl⟩
 repeat' (refine W.go ?_;try intro b_)
 refine F.c0 _ ?_
 exact⟨rfl,rfl⟩
end Go.Proofs.YtnigolgkkjidiaaGreat
namespace Go.Proofs.YtnigolgkkjidiaaGreat
open Go
attribute [local irreducible] SW SL SQ SH SA SS Pu Fin CutF HandF
instance(priority:=low) cv8n (n:Nat):Cv .u8 (n:Int) ((UInt8.ofNat n).toNat:Int):=⟨by
 rw [wrap8,UInt8.toNat_ofNat'];omega⟩
theorem Sl.own(e n b:Nat){len:Nat}{xs:List Value}(h:xs.length=len*n):Sl e n (.slice (some ⟨b,0,none⟩) len len) xs [(b,cl xs e)]:=by
 have:=Sl.mk (e:=e) (n:=n) (b:=b) (len:=len) (cap:=len) (xs:=xs) (junk:=[]) h (by simp) (Nat.le_refl _)
 rwa [List.append_nil] at this
theorem put_n(n:Nat)(v:UInt64)(hn:1≤n)(hn8:n≤8):Tri Tryz.prog 142 [.int .i64 (n:Int),u64v v] [] (fun _=>True) (fun r H=>∃ b,r=.slice (some ⟨b,0,none⟩) n n∧H=[(b,cl (cbs (leN n v)) 5)]):=by
 refine Tri.mk Tryz.func142 rfl Tryz.ntmps142 rfl fun w hw=>?_
 repeat' (refine W.go ?_;try intro b_)
 refine W.call (bytes_p n v (byU v) 209 [numV n v] hn hn8 (fun k hk=>up_p n v k (by omega))) ?_
 rintro _ _ ⟨b,rfl,rfl⟩
 rw [show (List.range n).map (byU v)=leN n v from rfl]
 repeat' (refine W.go ?_;try intro b_)
 refine Fin.to [(b,cl (cbs (leN n v)) 5)] ?_
 refine F.f1 ?_
 exact⟨b,rfl,rfl⟩
theorem rput_n(n:Nat)(v:UInt64)(hn8:n≤8):Tri Tryz.prog 159 [.int .i64 (n:Int),u64v v] [] (fun _=>True) (fun r H=>Sl 5 1 r (cbs (leN n v)) H):=by
 refine Tri.mk Tryz.func159 rfl Tryz.ntmps159 rfl fun w hw=>?_
 repeat' (refine W.gb ?_;try intro b_)
 have hV:v.toNat<18446744073709551616:=v.toNat_lt
 refine SW.cutH [0] [] (fun x:Value×Hp=>[(5,x.1)]) (fun x=>x.2) (fun x=>Sl 5 1 x.1 (cbs (leN n v)) x.2) ?_ ?_
 ·repeat' (refine W.go ?_;try intro b_)
  rw [show u64v v=.int .u64 ((v.toNat/256^0:Nat):Int) by simp [u64v]]
  refine SW.loopF [0] (fun x:Nat×Value×Hp=>[(1,.int .u64 ((v.toNat/256^x.1:Nat):Int)),(5,x.2.1),(6,.int .i64 (x.1:Int))]) (fun x=>x.2.2) (fun x=>n-x.1) (fun x=>x.1≤n∧Sl 5 1 x.2.1 (cbs (leN x.1 v)) x.2.2) (0,.slice none 0 0,[]) ⟨by omega,Sl.nil _ _⟩ ?_
  rintro⟨i,v2,H2⟩ ⟨hi,h2⟩
  dsimp only at hi h2 ⊢
  have h21:=h2.isOne
  by_cases hin:i<n
  ·have hs:leN (i+1) v=leN i v++[byU v i]:=by simp [leN,List.range_succ]
   have hb:=byU_eq v (k:=i) (by omega)
   have hq:((v.toNat/256^(i+1):Nat):Int)=((v.toNat/256^i:Nat):Int)/256:=by rw [Nat.pow_succ,← Nat.div_div_eq_div_mul];rfl
   have hx:v.toNat/256^i≤v.toNat:=Nat.div_le_self ..
   generalize v.toNat/256^i=X at hb hq hx ⊢
   have hb1:bfill (fun i=>some (i*1,1)) (zs [.int .u8 0] 1) [(0,.int .u8 ((byU v i).toNat:Int))]=some (cbs [byU v i]):=rfl
   haveI i1:Cv .u8 ((X:Int)%256) ((byU v i).toNat:Int):=⟨by rw [wrap8,hb,UInt8.toNat_ofNat'];omega⟩
   repeat' (refine W.go ?_;try intro b_)
   refine W.ap (ys:=cbs [byU v i]) (mm:=1) h2 (fun w hs=>(Sl.own 5 1 b_ (xs:=cbs [byU v i]) rfl).srcAt hs inferInstance) (fun v3 H3 h3=>?_) (hys:=rfl) (hbytes:=by simp [leN_len];omega)
   have h31:=h3.isOne
   rw [← cbs_app,← hs] at h3
   repeat' (refine W.go ?_;try intro b_)
   refine W.qu64 ?_
   repeat' (refine W.go ?_;try intro b_)
   rw [← hq]
   refine HandF.mk (i+1,v3,H3) ?_
   exact⟨by omega,h3⟩
  ·have:i=n:=by omega
   subst this
   repeat' (refine W.go ?_;try intro b_)
   refine CutF.mk (v2,H2) ?_
   exact h2
 rintro⟨v2,H2⟩ h2
 dsimp only at h2 ⊢
 have h21:=h2.isOne
 repeat' (refine W.go ?_;try intro b_)
 refine Fin.to H2 ?_
 exact F.f1 h2
end Go.Proofs.YtnigolgkkjidiaaGreat
