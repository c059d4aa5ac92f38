/- What stands on a device: its blocks, whether they fit. -/
import Derived.Test.YtnigolgkkjidiaaGreatPm29
import Derived.Test.YtnigolgkkjidiaaGreatPm30
import Derived.Test.YtnigolgkkjidiaaGreatPm26
set_option linter.unusedVariables false
set_option linter.unusedSimpArgs false
set_option linter.unusedSectionVars false
set_option maxHeartbeats 1000000
namespace Go.Proofs.YtnigolgkkjidiaaGreat
open Go
attribute [local irreducible] SW SL SQ SH SA SS Pu Fin CutF HandF
def ldS(σ:Dv)(a n:Nat):Int×List (List UInt8):=if n=0∨σ.down=false then (0,σ.blks a n) else (8,[])
theorem mload_p{fp d tr s bk p t:Nat}(h:Gm.Ok p t){kind cnt:Int}{bv lv Lv ev tv:Value}(o0:One bv)(o1:One lv)(o2:One Lv)(o3:One ev)(o4:One tv){σ:Dv}{Hd:Hp}(hD:DevP d σ Hd)(hlen:σ.len=256*Gm.total p t)(from_ n:Nat)(hn:from_+n≤Gm.total p t) :
  Tri Tryz.prog 117 [ptv fp,.int .i64 (from_:Int),.int .i64 (n:Int)] ((fp,cl (foundC d tr s bk p t kind bv lv cnt Lv ev tv) 145)::Hd) (fun _=>True)
  (fun v H=>∃ v1 Hb,v=.tuple #[v1,.int .i64 (ldS σ from_ n).1]∧Bls v1 (ldS σ from_ n).2 Hb∧H=(fp,cl (foundC d tr s bk p t kind bv lv cnt Lv ev tv) 145)::(Hd++Hb)):=by
 refine Tri.mk Tryz.func117 rfl Tryz.ntmps117 rfl fun w hw=>?_
 have htl:=Gm.total_le2 h
 have hl3:(foundC d tr s bk p t kind bv lv cnt Lv ev tv).length=13:=rfl
 unfold ldS
 generalize Gm.total p t=m at *
 repeat' (first|(refine W.gb ?_;try intro b_)|fail)
 refine SW.cutH [] [] (fun x:Value×Hp=>[(8,x.1)]) (fun x=>x.2) (fun x=>(n=0∨σ.down=false)∧Bls x.1 (σ.blks from_ n) x.2) ?_ ?_
 ·repeat' (first|(refine W.go ?_;try intro b_)|fail)
  refine SW.loopF [0,1,12] (fun x:Nat×Value×List Value×Hp×Hp=>[(8,x.2.1),(13,.int .i64 (x.1:Int))]) (fun x=>x.2.2.2.1++x.2.2.2.2) (fun x=>n-x.1)
   (fun x=>(x.1≤n∧(x.1=0∨σ.down=false))∧Sl 50 1 x.2.1 x.2.2.1 x.2.2.2.1∧RB x.2.2.2.2 x.2.2.1 (σ.blks from_ x.1)) (0,.slice none 0 0,[],[],[]) ⟨⟨Nat.zero_le _,.inl rfl⟩,Sl.nil _ _,RB.nil _⟩ ?_
  rintro⟨k,v2,vs2,Hv2,Ht2⟩ ⟨⟨hk,hk0⟩,hS2,hR2⟩
  dsimp only at hk hk0 hS2 hR2 ⊢
  have hY2:=hS2.isOne
  have hvl2:=hR2.1
  rw [Dv.blks_len] at hvl2
  by_cases hkn:k<n
  ·have hby:=gbytes_p (k:=from_+k) (by omega)
   have hld:=load_p hD ((256*(from_+k):Nat):Int) 256
   have hr0:σ.rdy ((256*(from_+k):Nat):Int) 256=if σ.down=true then 8 else 0:=by
    unfold Dv.rdy
    split
    ·rfl
    ·rw [hlen,if_neg (by omega)]
   rw [hr0] at hld
   rw [show ((from_+k:Nat):Int)=(from_:Int)+(k:Int) by omega] at hby
   repeat' (first|(refine W.go ?_;try intro b_)|fail)
   (refine SW.regionS [9] ?_ (by kernel_rfl);refine SS.T 0 rfl ?_;refine SS.T 1 rfl ?_;refine SS.T 2 rfl ?_;refine SS.T 3 rfl ?_;(first|refine SS.ls 4 [9] rfl ?_|refine SS.sR 4 rfl ?_);refine SS.T 5 rfl ?_;refine SS.T 6 rfl ?_;refine SS.T 7 rfl ?_;refine SS.effK 8 ?_ rfl (by kernel_rfl))
   refine W.call hby ?_
   rintro _ _ ⟨rfl,rfl⟩
   (refine SL.nilB ?_;refine SS.effB 9 ?_ rfl (by kernel_rfl))
   refine W.call hld ?_
   rintro _ _ ⟨sv,Hs,rfl,hsv,rfl⟩
   have hsv1:=hsv.isOne
   obtain⟨a3,l3,c3,rfl,-⟩:=hsv.form
   (refine SL.nilB ?_;refine SS.T 10 rfl ?_;refine SS.T 11 rfl ?_;refine SS.T 12 rfl ?_;refine SS.T 13 rfl ?_;refine SS.T 14 rfl ?_;refine SS.done ?_ (by kernel_rfl))
   by_cases hdn:σ.down=true
   ·rw [if_pos hdn]
    rw [if_neg (by rw [hdn];simp;omega)]
    repeat' (first|(refine W.go ?_;try intro b_)|fail)
    refine Fin.to ((fp,cl (foundC d tr s bk p t kind bv lv cnt Lv ev tv) 145)::(Hd++[])) ?_
    exact F.f2 ⟨_,[],rfl,⟨[],[],[],Sl.nil _ _,RB.nil _,rfl⟩,rfl⟩
   ·rw [if_neg hdn]
    have hb44:bfill (fun i=>some (i*1,1)) (zs [.slice none 0 0] 1) [(0,.slice a3 l3 c3)]=some [.slice a3 l3 c3]:=rfl
    repeat' (first|(refine W.go ?_;try intro b_)|fail)
    refine W.ap hS2 (ys:=[.slice a3 l3 c3]) (mm:=1) (fun w2 hs=>(Sl.own 50 1 b_ (xs:=[.slice a3 l3 c3]) rfl).srcAt hs inferInstance) (fun v3 H3 h3=>?_) (hys:=rfl) (hbytes:=by rw [hvl2];simp;omega)
    have h31:=h3.isOne
    repeat' (first|(refine W.go ?_;try intro b_)|fail)
    refine HandF.mk (k+1,v3,vs2++[.slice a3 l3 c3],H3,Hs++Ht2) ?_
    refine⟨⟨hkn,.inr (by simpa using hdn)⟩,h3,?_⟩
    dsimp only
    rw [Dv.blks_succ]
    exact (hR2.mono fun x hx=>List.mem_append_right _ hx).snoc ((RdH.of hsv).mono fun x hx=>List.mem_append_left _ hx)
  ·have hkn2:k=n:=by omega
   subst hkn2
   repeat' (first|(refine W.go ?_;try intro b_)|fail)
   refine CutF.mk (v2,Hv2++Ht2) ?_
   exact⟨hk0,vs2,Hv2,Ht2,hS2,hR2,rfl⟩
 rintro⟨v2,Hb2⟩ ⟨hok,hB⟩
 dsimp only at hok hB ⊢
 have hY2:=hB.one
 rw [if_pos hok]
 repeat' (first|(refine W.go ?_;try intro b_)|fail)
 refine Fin.to ((fp,cl (foundC d tr s bk p t kind bv lv cnt Lv ev tv) 145)::(Hd++Hb2)) ?_
 exact F.f2 ⟨v2,Hb2,rfl,hB,rfl⟩
theorem epsB_eq{p:Nat}(l:List (List UInt8))(hb:∀ b∈l,b.length=256)(hl:1+Gm.epochs p≤l.length):epsL ((l.drop 1).take (Gm.epochs p)).flatten (Gm.sealed p)=epsB p l:=by
 unfold epsL epsB epAt
 apply List.map_congr_left
 intro k hk
 have hk:=List.mem_range.1 hk
 have hel:(l.drop 1).take (Gm.epochs p)=(l.drop 1).take (Gm.epochs p):=rfl
 have h256:∀ b∈(l.drop 1).take (Gm.epochs p),b.length=256:=fun b hbm=>hb b (List.mem_of_mem_drop (List.mem_of_mem_take hbm))
 have hlen:((l.drop 1).take (Gm.epochs p)).length=Gm.epochs p:=by rw [List.length_take,List.length_drop];omega
 have hk32:k/32<Gm.epochs p:=by unfold Gm.epochs Gm.up;omega
 generalize (l.drop 1).take (Gm.epochs p)=m at *
 have hg:m[k/32]?=some (m.getD (k/32) []):=by rw [List.getD_eq_getElem?_getD,List.getElem?_eq_getElem (by omega)];rfl
 have hf:=flat_at h256 [] hg
 rw [List.append_nil] at hf
 rw [← hf,List.drop_take,List.take_take,List.drop_drop,Nat.min_eq_left (by omega)]
 congr 3
 omega
theorem fits_p{dt fp d tr s bk tb p t:Nat}(h:Gm.Ok p t){kind cnt:Int}{bv lv Lv ev tv:Value}{bss:List (List UInt8)}{β:Bk}{r:Rg}(hr:r.Ok){Hk Hb:Hp}(hK:BookP bk tb β Hk)(hB:Bls bv bss Hb)(o1:One lv)(o2:One Lv)(o3:One ev)(o4:One tv)(hn:bss.length=Gm.leaves p)(hb:∀ b∈bss,b.length=256) :
  Tri Tryz.prog 120 [ptv fp] ((fp,cl (foundC d tr s bk p t kind bv lv cnt Lv ev tv) 145)::(tr,cl (trc dt r) 225)::(Hk++Hb)) (fun _=>True)
  (fun v H=>v=.bool (fitsB p t r.root bss)∧∃ ev' tv' Hk' Hx,BookP bk tb (rootK β bss) Hk'∧H=(fp,cl (foundC d tr s bk p t kind bv lv cnt Lv ev' tv') 145)::(tr,cl (trc dt r) 225)::(Hk'++(Hb++Hx)) ∧
   if fitsB p t r.root bss=true then ∃ tp be Ht,tv'=ptv tp∧ev'=.slice (some ⟨be,0,none⟩) (Gm.sealed p) (Gm.sealed p)∧Hx=(be,cl (uv (epsB p bss)) 28)::Ht∧TreeV tp bk (sumsB bss) Ht else ev'=ev∧tv'=tv∧Hx=[]):=by
 have hbo:=hB.one
 have hpl:=planted_p (fp:=fp) (d:=d) (tr:=tr) (s:=s) (kind:=kind) (cnt:=cnt) h hK hB o1 o2 o3 o4 hn hb
 have hll:=Gm.leaves_le h
 have hL:Gm.leaves p=1+Gm.epochs p+Gm.sealed p:=rfl
 rw [epsB_eq bss hb (by omega)] at hpl
 obtain⟨vs,Hv,Ht0,hS,hR,rfl⟩:=hB
 have hvl:=hR.1
 have hS0:=hS
 rcases hS with ⟨-,hz,-⟩|⟨bb,len,cap,junk,rfl,hxl,hj,hlc,rfl⟩
 ·rw [hz] at hvl;simp at hvl;omega
 obtain rfl:len=bss.length:=by omega
 have h1:0<bss.length:=by omega
 obtain⟨u,hu1,hu2⟩:=hR.2 0 _ (List.getElem?_eq_getElem h1)
 have hv0:(vs++junk)[0]?=some u:=by rw [List.getElem?_append_left (by omega)];exact hu1
 have huo:=hu2.one
 refine Tri.mk Tryz.func120 rfl Tryz.ntmps120 rfl fun w hw=>?_
 have hsb:=sBytes_p h
 have hrd:=read_p tr dt r hr
 have h32:(rootB bss).length=32:=Sha.sum_len _
 have h33:=hr.len
 have hf:fitsB p t r.root bss=(decide (rootB bss=r.root)&&decide (superB p t=bss.getD 0 [])):=rfl
 have hq1:((rgc r).drop 1).take 32=cbs r.root:=by
  show (r.root.map bv).take 32=_
  rw [List.take_of_length_le (by simp [h33])]
  rfl
 have hql:(cbs r.root).length=32:=cl32 h33
 have hsl:(sumsB bss).length≤1024:=by rw [sumsB_len];omega
 have hroot:rootV (sumsB bss)=rootB bss:=rfl
 have hg0:bss.getD 0 []=bss[0]:=by rw [List.getD_eq_getElem?_getD,List.getElem?_eq_getElem h1];rfl
 rw [hg0] at hf
 rw [hf]
 clear hf
 have hl3:(foundC d tr s bk p t kind (.slice (some ⟨bb,0,none⟩) bss.length cap) lv cnt Lv ev tv).length=13:=rfl
 repeat' (first|(refine W.go ?_;try intro b_)|fail)
 refine W.call hpl ?_
 rintro _ _ ⟨tp,be,Htr,Hk2,rfl,rfl,hT,hK2⟩
 have hro:=Root_p hT hK2 hsl
 rw [hroot] at hro
 repeat' (first|(refine W.go ?_;try intro b_)|fail)
 refine W.call hsb ?_
 rintro _ _ ⟨b1,rfl,rfl⟩
 repeat' (first|(refine W.go ?_;try intro b_)|fail)
 (refine SW.regionS [] ?_ (by kernel_rfl);refine SS.T 0 rfl ?_;refine SS.T 2 rfl ?_;refine SS.T 3 rfl ?_;refine SS.T 4 rfl ?_;refine SS.T 5 rfl ?_;(first|refine SS.ls 6 [] rfl ?_|refine SS.sR 6 rfl ?_);refine SS.effK 1 ?_ rfl (by kernel_rfl))
 refine W.call hro ?_
 rintro _ _ ⟨Hk3,rfl,rfl,hK3⟩
 (refine SL.nilB ?_;refine SS.effK 7 ?_ rfl (by kernel_rfl))
 refine W.call hrd ?_
 rintro _ _ ⟨rfl,rfl⟩
 by_cases he:rootB bss=r.root
 ·rw [decide_eq_true he,Bool.true_and]
  (refine SL.nilB ?_;refine SS.T 8 rfl ?_;refine SS.tw 9 rfl (p_neA_f rfl rfl rfl h32 he) ?_;refine SS.T 10 rfl ?_;(first|refine SS.sk 11 rfl ?_|refine SS.T 11 rfl ?_);(first|refine SS.sk 12 rfl ?_|refine SS.T 12 rfl ?_);(first|refine SS.sk 13 rfl ?_|refine SS.T 13 rfl ?_);(first|refine SS.sk 14 rfl ?_|refine SS.T 14 rfl ?_);(first|refine SS.sk 15 rfl ?_|refine SS.ls 15 [] rfl ?_|refine SS.sR 15 rfl ?_);(first|refine SS.sk 16 rfl ?_|refine SS.T 16 rfl ?_);(first|refine SS.sk 17 rfl ?_|refine SS.ls 17 [] rfl ?_|refine SS.sR 17 rfl ?_);(first|refine SS.sk 18 rfl ?_;(first|refine SS.sk 19 rfl ?_|refine SS.T 19 rfl ?_);refine SS.T 20 rfl ?_;refine SS.done ?_ (by kernel_rfl)|refine SS.effK 18 ?_ rfl (by kernel_rfl)))
  refine W.call (Equal_p _ _ (superB p t) bss[0]) ?_ (hpre:=fun w2 hs=>⟨Rd.my (Hc:=[]) (T:=5) b1 _ hs (superB_len _ _),hu2.rd (Hc:=[]) hs⟩)
  rintro _ _ ⟨rfl,rfl⟩
  by_cases hq:superB p t=bss[0]
  ·rw [decide_eq_true hq]
   (refine SL.nilB ?_;(first|refine SS.sk 19 rfl ?_|refine SS.T 19 rfl ?_);refine SS.T 20 rfl ?_;refine SS.done ?_ (by kernel_rfl))
   repeat' (first|(refine W.go ?_;try intro b_)|fail)
   rw [show (foundC d tr s bk p t kind (.slice (some ⟨bb,0,none⟩) bss.length cap) lv cnt Lv ev tv).set 12 (ptv tp)=foundC d tr s bk p t kind (.slice (some ⟨bb,0,none⟩) bss.length cap) lv cnt Lv ev (ptv tp) from rfl,show (foundC d tr s bk p t kind (.slice (some ⟨bb,0,none⟩) bss.length cap) lv cnt Lv ev (ptv tp)).set 11 (.slice (some ⟨be,0,none⟩) (Gm.sealed p) (Gm.sealed p))=foundC d tr s bk p t kind (.slice (some ⟨bb,0,none⟩) bss.length cap) lv cnt Lv (.slice (some ⟨be,0,none⟩) (Gm.sealed p) (Gm.sealed p)) (ptv tp) from rfl]
   refine Fin.to ((fp,cl (foundC d tr s bk p t kind (.slice (some ⟨bb,0,none⟩) bss.length cap) lv cnt Lv (.slice (some ⟨be,0,none⟩) (Gm.sealed p) (Gm.sealed p)) (ptv tp)) 145)::(tr,cl (trc dt r) 225)::(Hk3++(([(bb,cl (vs++junk) 50)]++Ht0)++((be,cl (uv (epsB p bss)) 28)::Htr)))) ?_
   refine F.f1 ⟨rfl,_,_,Hk3,_,hK3,rfl,?_⟩
   rw [if_pos rfl]
   exact⟨tp,be,Htr,rfl,rfl,rfl,hT⟩
  ·rw [decide_eq_false hq]
   (refine SL.nilB ?_;(first|refine SS.sk 19 rfl ?_|refine SS.T 19 rfl ?_);refine SS.T 20 rfl ?_;refine SS.done ?_ (by kernel_rfl))
   repeat' (first|(refine W.go ?_;try intro b_)|fail)
   refine Fin.to ((fp,cl (foundC d tr s bk p t kind (.slice (some ⟨bb,0,none⟩) bss.length cap) lv cnt Lv ev tv) 145)::(tr,cl (trc dt r) 225)::(Hk3++(([(bb,cl (vs++junk) 50)]++Ht0)++[]))) ?_
   refine F.f1 ⟨rfl,_,_,Hk3,_,hK3,rfl,?_⟩
   rw [if_neg (by decide)]
   exact⟨rfl,rfl,rfl⟩
 ·rw [decide_eq_false he,Bool.false_and]
  (refine SL.nilB ?_;refine SS.T 8 rfl ?_;refine SS.tw 9 rfl (p_neA_t rfl rfl rfl h32 h33 he) ?_;refine SS.T 10 rfl ?_;(first|refine SS.sk 11 rfl ?_|refine SS.T 11 rfl ?_);(first|refine SS.sk 12 rfl ?_|refine SS.T 12 rfl ?_);(first|refine SS.sk 13 rfl ?_|refine SS.T 13 rfl ?_);(first|refine SS.sk 14 rfl ?_|refine SS.T 14 rfl ?_);(first|refine SS.sk 15 rfl ?_|refine SS.ls 15 [] rfl ?_|refine SS.sR 15 rfl ?_);(first|refine SS.sk 16 rfl ?_|refine SS.T 16 rfl ?_);(first|refine SS.sk 17 rfl ?_|refine SS.ls 17 [] rfl ?_|refine SS.sR 17 rfl ?_);(first|refine SS.sk 18 rfl ?_;(first|refine SS.sk 19 rfl ?_|refine SS.T 19 rfl ?_);refine SS.T 20 rfl ?_;refine SS.done ?_ (by kernel_rfl)|refine SS.effK 18 ?_ rfl (by kernel_rfl)))
  repeat' (first|(refine W.go ?_;try intro b_)|fail)
  refine Fin.to ((fp,cl (foundC d tr s bk p t kind (.slice (some ⟨bb,0,none⟩) bss.length cap) lv cnt Lv ev tv) 145)::(tr,cl (trc dt r) 225)::(Hk3++(([(bb,cl (vs++junk) 50)]++Ht0)++[]))) ?_
  refine F.f1 ⟨rfl,_,_,Hk3,_,hK3,rfl,?_⟩
  rw [if_neg (by decide)]
  exact⟨rfl,rfl,rfl⟩
abbrev nv(xs:List Nat):List Value:=xs.map fun k:Nat=>(.int .i64 (k:Int):Value)
instance nv_oc(xs:List Nat):OC (nv xs):=⟨fun u hu=>by obtain⟨k,-,rfl⟩:=List.mem_map.1 hu;rfl⟩
theorem idxI_p(v:Value)(l:List Nat)(k:Nat)(hn:l.length≤1000000):Tri Tryz.prog 274 [v,.int .i64 (k:Int)] [] (fun w=>Rd [] w 1 v (nv l)) (fun r H=>∃ z:Int,r=.int .i64 z∧H=[]∧(0≤z↔k∈l)):=by
 refine Tri.mk Tryz.func274 rfl Tryz.ntmps274 rfl fun w hw=>?_
 obtain⟨a,la,ca,rfl,hl1,hc1,hr1⟩:=hw.get
 rw [Nat.mul_one,List.length_map] at hl1
 subst hl1
 repeat' (first|(refine W.go ?_;try intro b_)|fail)
 refine SW.loopF [0,1,7] (fun j:Nat=>[(8,.int .i64 (j:Int))]) (fun _=>[]) (fun j=>l.length-j) (fun j=>j≤l.length∧∀ i,i<j→l[i]?≠some k) 0 ⟨Nat.zero_le _,fun i h=>by omega⟩ ?_
 rintro j ⟨hj,hj2⟩
 by_cases hjn:j<l.length
 ·obtain⟨bb,o,lv,T,fz,rfl,hb,hkK,hy⟩:=hr1 (by omega)
  have hlj:=List.getElem?_eq_getElem hjn
  have hlu:lv[o+j]?=some (.int .i64 ((l[j]:Nat):Int)):=by
   have h2:((lv.drop o).take (l.length*1))[j]?=(nv l)[j]?:=by rw [hy]
   rw [List.getElem?_take,if_pos (by omega),List.getElem?_drop,List.getElem?_map,hlj] at h2
   exact h2
  generalize l[j]=q at *
  by_cases hq:k=q
  ·subst hq
   repeat' (first|(refine W.go ?_;try intro b_)|fail)
   refine Fin.to [] ?_
   exact F.f1 ⟨(j:Int),rfl,rfl,⟨fun _=>List.mem_of_getElem? hlj,fun _=>by omega⟩⟩
  ·repeat' (first|(refine W.go ?_;try intro b_)|fail)
   refine HandF.mk (j+1) ?_
   refine⟨hjn,fun i hi hc=>?_⟩
   by_cases hij:i=j
   ·subst hij;rw [hlj] at hc;cases hc;exact hq rfl
   ·exact hj2 i (by omega) hc
 ·have hjl:j=l.length:=by omega
  subst hjl
  repeat' (first|(refine W.go ?_;try intro b_)|fail)
  refine Fin.to [] ?_
  refine F.f1 ⟨-1,rfl,rfl,⟨fun h=>by omega,fun hm=>?_⟩⟩
  obtain⟨i,hi⟩:=List.mem_iff_getElem?.1 hm
  exact absurd hi (hj2 i (List.getElem?_eq_some_iff.1 hi).1)
theorem contI_p(v:Value)(l:List Nat)(k:Nat)(hn:l.length≤1000000):Tri Tryz.prog 235 [v,.int .i64 (k:Int)] [] (fun w=>Rd [] w 1 v (nv l)) (fun r H=>r=.bool (decide (k∈l))∧H=[]):=by
 refine Tri.mk Tryz.func235 rfl Tryz.ntmps235 rfl fun w hw=>?_
 have hv:=hw.isOne
 obtain⟨a,la,ca,rfl,-⟩:=hw.get
 repeat' (first|(refine W.go ?_;try intro b_)|fail)
 refine W.call (idxI_p _ l k hn) ?_ (hpre:=fun w2 hs=>hw.ro (Hc:=[]) hs)
 rintro _ _ ⟨z,rfl,rfl,hz⟩
 by_cases hk:k∈l
 ·have:=hz.2 hk
  rw [decide_eq_true hk]
  repeat' (first|(refine W.go ?_;try intro b_)|fail)
  refine Fin.to [] ?_
  exact F.f1 ⟨rfl,rfl⟩
 ·have:z<0:=by
   rcases Int.lt_or_le z 0 with h|h
   ·exact h
   ·exact absurd (hz.1 h) hk
  rw [decide_eq_false hk]
  repeat' (first|(refine W.go ?_;try intro b_)|fail)
  refine Fin.to [] ?_
  exact F.f1 ⟨rfl,rfl⟩
theorem tabs_snoc(l:List Ent)(x:Ent):tabs (l++[x])=addT (tabs l) x:=by unfold tabs;rw [List.foldl_append];rfl
theorem addT_le(o:List Nat)(x:Ent):(addT o x).length≤o.length+1:=by unfold addT;split <;> simp
theorem tabs_le(l:List Ent):(tabs l).length≤l.length:=by
 have key:∀ (l:List Ent) (o:List Nat),(l.foldl addT o).length≤o.length+l.length:=fun l=>by
  induction l with
  | nil=>intro o;simp
  | cons x l ih=>
   intro o
   rw [List.foldl_cons,List.length_cons]
   have:=ih (addT o x)
   have:=addT_le o x
   omega
 have:=key l []
 simpa [tabs] using this
theorem mtables_p{fp d tr s bk p t:Nat}{kind cnt:Int}{bv lv ev tv:Value}(us:List Value)(l:List Ent)(hul:us.length=l.length)(hoc:OC us)(hK:∀ x∈l,0≤x.1∧x.1<65536)(hn:l.length≤1000){Lv:Value}{He:Hp}(hS:Sl 315 2 Lv (entsC us l) He)(o0:One bv)(o1:One lv)(o3:One ev)(o4:One tv) :
  Tri Tryz.prog 184 [ptv fp] ((fp,cl (foundC d tr s bk p t kind bv lv cnt Lv ev tv) 145)::He) (fun _=>True)
  (fun v H=>∃ Hn,Sl 3 1 v (nv (tabs l)) Hn∧H=(fp,cl (foundC d tr s bk p t kind bv lv cnt Lv ev tv) 145)::(He++Hn)):=by
 refine Tri.mk Tryz.func184 rfl Tryz.ntmps184 rfl fun w hw=>?_
 have hS1:=hS.isOne
 obtain⟨a,len,cap,rfl,hl1⟩:=hS.form
 rw [entsC_len _ _ hul] at hl1
 obtain rfl:len=l.length:=by omega
 repeat' (first|(refine W.gb ?_;try intro b_)|fail)
 refine SW.cutH [] [] (fun x:Value×Hp=>[(3,x.1)]) (fun x=>x.2) (fun x=>Sl 3 1 x.1 (nv (tabs l)) x.2) ?_ ?_
 ·repeat' (first|(refine W.go ?_;try intro b_)|fail)
  refine SW.loopF [11,12] (fun x:Nat×Value×Hp=>[(3,x.2.1),(13,.int .i64 (x.1:Int))]) (fun x=>x.2.2) (fun x=>l.length-x.1) (fun x=>x.1≤l.length∧Sl 3 1 x.2.1 (nv (tabs (l.take x.1))) x.2.2) (0,.slice none 0 0,[]) ⟨Nat.zero_le _,Sl.nil _ _⟩ ?_
  rintro⟨k,v2,H2⟩ ⟨hk,h2⟩
  dsimp only at hk h2 ⊢
  have h21:=h2.isOne
  by_cases hkn:k<l.length
  ·rcases hS with ⟨hz,hz2,-⟩|⟨bb,len,cap2,junk,hz,hxl,hj,hlc,rfl⟩
   ·simp only [Value.slice.injEq] at hz;omega
   simp only [Value.slice.injEq] at hz
   obtain⟨rfl,rfl,rfl⟩:=hz
   have hx:=List.getElem?_eq_getElem hkn
   have huk:us[k]?=some us[k]:=List.getElem?_eq_getElem (by omega)
   have hrow:=entsC_at huk hx
   have hrow2:(((entsC us l++junk).drop (k*2)).take 2)=[.int .i64 l[k].1,us[k]]:=by
    have hle:=entsC_len us l hul
    rw [List.drop_append_of_le_length (by omega),List.take_append_of_le_length (by rw [List.length_drop];omega)]
    exact hrow
   have hK0:=hK _ (List.getElem_mem hkn)
   have hts:tabs (l.take (k+1))=addT (tabs (l.take k)) l[k]:=by rw [List.take_add_one,hx,← tabs_snoc];rfl
   have htl:(tabs (l.take k)).length≤k:=by have:=tabs_le (l.take k);rw [List.length_take] at this;omega
   have hou:One us[k]:=⟨hoc.ok _ (List.getElem_mem _)⟩
   generalize us[k]=u at *
   generalize l[k]=x at *
   obtain⟨K,hKK⟩:∃ K:Nat,x.1=(K:Int):=⟨x.1.toNat,by omega⟩
   have hdv:((K:Int)/32)=((K/32:Nat):Int):=rfl
   have hci:=contI_p v2 (tabs (l.take k)) (K/32) (by omega)
   rw [hKK] at hK0
   rw [hKK] at hrow2
   unfold addT at hts
   rw [show x.1.toNat=K by omega] at hts
   repeat' (first|(refine W.go ?_;try intro b_)|fail)
   rw [hdv]
   refine W.call hci ?_ (hpre:=fun w2 hs=>Rd.own (Hc:=[]) h2 hs inferInstance)
   rintro _ _ ⟨rfl,rfl⟩
   by_cases hin:K/32∈tabs (l.take k)
   ·rw [if_pos hin] at hts
    rw [decide_eq_true hin]
    rw [← hts] at h2
    repeat' (first|(refine W.go ?_;try intro b_)|fail)
    refine HandF.mk (k+1,v2,H2) ?_
    exact⟨hkn,h2⟩
   ·rw [if_neg hin] at hts
    rw [decide_eq_false hin]
    have hb26:bfill (fun i=>some (i*1,1)) (zs [.int .i64 0] 1) [(0,.int .i64 ((K/32:Nat):Int))]=some (nv [K/32]):=rfl
    repeat' (first|(refine W.go ?_;try intro b_)|fail)
    refine W.ap h2 (ys:=nv [K/32]) (mm:=1) (fun w2 hs=>(Sl.own 3 1 b_ (xs:=nv [K/32]) rfl).srcAt hs inferInstance) (fun v3 H3 h3=>?_) (hys:=rfl) (hbytes:=by simp;omega)
    have h31:=h3.isOne
    rw [← List.map_append,← hts] at h3
    repeat' (first|(refine W.go ?_;try intro b_)|fail)
    refine HandF.mk (k+1,v3,H3) ?_
    exact⟨hkn,h3⟩
  ·have hkl:k=l.length:=by omega
   rw [hkl,List.take_length] at h2
   subst hkl
   repeat' (first|(refine W.go ?_;try intro b_)|fail)
   refine CutF.mk (v2,H2) ?_
   exact h2
 rintro⟨v2,H2⟩ h2
 dsimp only at h2 ⊢
 have h21:=h2.isOne
 repeat' (first|(refine W.go ?_;try intro b_)|fail)
 refine Fin.to ((fp,cl (foundC d tr s bk p t kind bv lv cnt (.slice a l.length cap) ev tv) 145)::(He++H2)) ?_
 exact F.f1 ⟨H2,h2,rfl⟩
end Go.Proofs.YtnigolgkkjidiaaGreat
