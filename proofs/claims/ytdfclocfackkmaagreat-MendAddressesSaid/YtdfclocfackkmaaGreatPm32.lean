/- What stands on a device: its blocks, whether they fit. -/
import Derived.Test.YtdfclocfackkmaaGreatPm31
set_option linter.unusedVariables false
set_option linter.unusedSimpArgs false
set_option linter.unusedSectionVars false
set_option maxHeartbeats 1000000
namespace Go.Proofs.YtdfclocfackkmaaGreat
open Go Go.Proofs.Tryz
section
attribute [local irreducible] SW SL SQ SH SA SS Pu Fin bS aN
def ldS(C:Dv)(a n:Nat):Int×LL:=if n=0\/C.down=false then (0,C.blks a n) else (8,[])
theorem aHV{fp d tr s bk p t:Nat}(h:Gm.Ok p t){kind cnt:Int}{bv lv Lv ev tv:Value}(o0:One bv)(o1:One lv)(o2:One Lv)(o3:One ev)(o4:One tv){C:Dv}{Hd:Hp}(hD:eX d C Hd)(hlen:C.len=256*Gm.total p t)(from_ n:Nat)(hn:from_+n<=Gm.total p t):Tri prog 134 [ptv fp,.int .i64 (from_:Int),.int .i64 (n:Int)] ((fp,cl (bZ d tr s bk p t kind bv lv cnt Lv ev tv) 157)::Hd) NT (fun v H=>∃ v1 Hb,v=.tuple #[v1,.int .i64 (ldS C from_ n).1]/\Bls v1 (ldS C from_ n).2 Hb/\H=(fp,cl (bZ d tr s bk p t kind bv lv cnt Lv ev tv) 157)::(Hd++Hb)):=by
 refine Tri.mt func134 ntmps134 fun w hw=>?_;have htl:=Gm.total_le2 h;have hl3:(bZ d tr s bk p t kind bv lv cnt Lv ev tv).length=13:=rfl;unfold ldS;generalize Gm.total p t=m at *;refine W.j ?_;refine bP [] [] (fun x:Value×Hp=>[(8,x.1)]) (fun x=>x.2) (fun x=>(n=0\/C.down=false)/\Bls x.1 (C.blks from_ n) x.2) ?_ ?_
 ·refine W.k ?_;refine bE [0,1,12] (fun x:Nat×Value×LV×Hp×Hp=>[(8,x.2.1),(13,.int .i64 (x.1:Int))]) (fun x=>x.2.2.2.1++x.2.2.2.2) (fun x=>n-x.1)
   (fun x=>(x.1<=n/\(x.1=0\/C.down=false))/\Sl 31 1 x.2.1 x.2.2.1 x.2.2.2.1/\RB x.2.2.2.2 x.2.2.1 (C.blks from_ x.1)) (0,.slice none 0 0,[],[],[]) ⟨⟨Nat.zero_le _,.inl rfl⟩,Sl.nil _ _,RB.nil _⟩ ?_
  rintro⟨k,v2,vs2,Hv2,Ht2⟩ ⟨⟨hk,hk0⟩,hS2,hR2⟩;dsimp only at hk hk0 hS2 hR2 |-;have hY2:=hS2.isOne;have hvl2:=hR2.1;rw [Dv.blks_len] at hvl2;by_cases hkn:k<n
  ·have hby:=tD (k:=from_+k) oQ;have hld:=aG9 hD ((256*(from_+k):Nat):Int) 256;have hr0:C.rdy ((256*(from_+k):Nat):Int) 256=if C.down=true then 8 else 0:=by
    unfold Dv.rdy;split
    ·rfl
    rw [hlen,if_neg oQ]
   rw [hr0] at hld;rw [show ((from_+k:Nat):Int)=(from_:Int)+(k:Int) by omega] at hby;refine W.k ?_;(refine SW.l [9] [0,1,2,3,4,5,6,7] ?_;refine aX 8 ?_);refine W.cq hby ?_;(refine bB [] ?_;refine bL 9 ?_);refine aF hld ?_;rintro _ _ ⟨sv,Hs,rfl,hsv,rfl⟩;have hsv1:=hsv.isOne;obtain⟨a3,l3,c3,rfl,-⟩:=hsv.form;(refine SL.l [10,11,12,13,14,15] ?_);by_cases hdn:C.down=true
   ·rw [if_pos hdn];rw [if_neg (by rw [hdn];simp;omega)];refine W.k ?_;refine Fin.to ((fp,cl (bZ d tr s bk p t kind bv lv cnt Lv ev tv) 157)::(Hd++[])) ?_;exact F.f2 ⟨_,[],rfl,⟨[],[],[],Sl.nil _ _,RB.nil _,rfl⟩,rfl⟩
   rw [if_neg hdn];have hb44:bV (fun i=>some (i*1,1)) (zs [.slice none 0 0] 1) [(0,.slice a3 l3 c3)]=some [.slice a3 l3 c3]:=rfl;refine W.k fun b_=>?_;refine W.ap hS2 (ys:=[.slice a3 l3 c3]) (mm:=1) (fun w2 hs=>(Sl.own 31 1 b_ (xs:=[.slice a3 l3 c3]) rfl).srcAt hs inferInstance) (fun v3 H3 h3=>?_) (hys:=rfl) (hbytes:=by rw [hvl2];simp;omega);have h31:=h3.isOne;refine W.k ?_;refine aN.mk (k+1,v3,vs2++[.slice a3 l3 c3],H3,Hs++Ht2) ?_;refine⟨⟨hkn,.inr (by simpa using hdn)⟩,h3,?_⟩;dsimp only;rw [Dv.blks_succ];exact (hR2.mono fun x hx=>aM _ hx).snoc ((RdH.of hsv).mono fun x hx=>aO _ hx)
  have hkn2:k=n:=oQ;subst hkn2;refine W.k ?_;refine bS.mk (v2,Hv2++Ht2) ?_;exact⟨hk0,vs2,Hv2,Ht2,hS2,hR2,rfl⟩
 rintro⟨v2,Hb2⟩ ⟨hok,hB⟩;dsimp only at hok hB |-;have hY2:=hB.one;rw [if_pos hok];refine W.k ?_;refine Fin.to ((fp,cl (bZ d tr s bk p t kind bv lv cnt Lv ev tv) 157)::(Hd++Hb2)) ?_;exact F.f2 ⟨v2,Hb2,rfl,hB,rfl⟩
theorem aHK{p:Nat}(l:LL)(hb:∀ b∈l,b.length=256)(hl:1+Gm.epochs p<=l.length):uH ((l.drop 1).take (Gm.epochs p)).flatten (Gm.sealed p)=nZ p l:=by
 unfold uH nZ vN;apply eJ;intro k hk;have hk:=eK.1 hk;have hel:(l.drop 1).take (Gm.epochs p)=(l.drop 1).take (Gm.epochs p):=rfl;have h256:∀ b∈(l.drop 1).take (Gm.epochs p),b.length=256:=fun b hbm=>hb b (kH (dM hbm));have hlen:((l.drop 1).take (Gm.epochs p)).length=Gm.epochs p:=by rw [aH,bG];omega
 have hk32:k/32<Gm.epochs p:=by unfold Gm.epochs Gm.up;omega
 generalize (l.drop 1).take (Gm.epochs p)=m at *;have hg:m[k/32]?=some (m.getD (k/32) []):=by rw [aE,aA oQ];rfl
 have hf:=aHL h256 [] hg;rw [aG] at hf;rw [<-hf,jT,fK,cG,cO oQ];congr 3;omega
theorem aKi{dt fp d tr s bk tb p t:Nat}(h:Gm.Ok p t){kind cnt:Int}{bv lv Lv ev tv:Value}{bss:LL}{D:Bk}{r:Rg}(hr:r.Ok){Hk Hb:Hp}(hK:eP bk tb D Hk)(hB:Bls bv bss Hb)(o1:One lv)(o2:One Lv)(o3:One ev)(o4:One tv)(hn:bss.length=Gm.leaves p)(hb:∀ b∈bss,b.length=256):Tri prog 137 [ptv fp] ((fp,cl (bZ d tr s bk p t kind bv lv cnt Lv ev tv) 157)::(tr,cl (trc dt r) 201)::(Hk++Hb)) NT (fun v H=>v=.bool (lC p t r.root bss)/\∃ ev' tv' Hk' Hx,eP bk tb (vI D bss) Hk'/\H=(fp,cl (bZ d tr s bk p t kind bv lv cnt Lv ev' tv') 157)::(tr,cl (trc dt r) 201)::(Hk'++(Hb++Hx)) /\ if lC p t r.root bss=true then ∃ tp be Ht,tv'=ptv tp/\ev'=.slice (some ⟨be,0,none⟩) (Gm.sealed p) (Gm.sealed p)/\Hx=(be,cl (uv (nZ p bss)) 23)::Ht/\rJ tp bk (gF bss) Ht else ev'=ev/\tv'=tv/\Hx=[]):=by
 have hbo:=hB.one;have hpl:=aBi (fp:=fp) (d:=d) (tr:=tr) (s:=s) (kind:=kind) (cnt:=cnt) h hK hB o1 o2 o3 o4 hn hb;have hll:=Gm.leaves_le h;have hL:Gm.leaves p=1+Gm.epochs p+Gm.sealed p:=rfl;rw [aHK bss hb oQ] at hpl;obtain⟨vs,Hv,Ht0,hS,hR,rfl⟩:=hB;have hvl:=hR.1;have hS0:=hS;rcases hS with ⟨-,hz,-⟩|⟨bb,len,cap,junk,rfl,hxl,hj,hlc,rfl⟩
 ·rw [hz] at hvl;simp at hvl;omega
 obtain rfl:len=bss.length:=by omega
 have h1:0<bss.length:=oQ;obtain⟨u,hu1,hu2⟩:=hR.2 0 _ (aA h1);have hv0:(vs++junk)[0]?=some u:=by rw [aJ oQ];exact hu1
 have huo:=hu2.one;refine Tri.mt func137 ntmps137 fun w hw=>?_;have hsb:=aGv h;have hrd:=uR tr dt r hr;have h32:(gE bss).length=32:=Sha.sum_len _;have h33:=hr.len;have hf:lC p t r.root bss=(decide (gE bss=r.root)&&decide (iC p t=bss.getD 0 [])):=rfl;have hq1:((rgc r).drop 1).take 32=cbs r.root:=by show (r.root.map bv).take 32=_;rw [aK (by simp [h33])];rfl
 have hql:(cbs r.root).length=32:=lN h33;have hsl:(gF bss).length<=1024:=by rw [lB];omega
 have hroot:fN (gF bss)=gE bss:=rfl;have hg0:bss.getD 0 []=bss[0]:=by rw [aE,aA h1];rfl
 rw [hg0] at hf;rw [hf];clear hf;have hl3:(bZ d tr s bk p t kind (.slice (some ⟨bb,0,none⟩) bss.length cap) lv cnt Lv ev tv).length=13:=rfl;refine W.k ?_;refine aF hpl ?_;rintro _ _ ⟨tp,be,Htr,Hk2,rfl,rfl,hT,hK2⟩;have hro:=aD8 hT hK2 hsl;rw [hroot] at hro;refine W.k ?_;refine aF hsb ?_;rintro _ _ ⟨b1,rfl,rfl⟩;refine W.k ?_;(refine SW.l [] [0,2,3,4,5,6] ?_;refine aX 1 ?_);refine aF hro ?_;rintro _ _ ⟨Hk3,rfl,rfl,hK3⟩;(refine bB [] ?_;refine aX 7 ?_);refine W.cq hrd ?_;by_cases he:gE bss=r.root
 ·rw [decide_eq_true he,jO];(refine SL.l [8] ?_;refine dS 9 rfl (aAr rfl rfl rfl h32 he) ?_;refine SG.l [10,11,12,13,14,15,16,17] ?_;(first|refine cY 18 rfl ?_;refine SG.l [19,20,21] ?_|refine aX 18 ?_));refine W.cq (zN _ _ (iC p t) bss[0]) ?_ (hpre:=fun w2 hs=>⟨Rd.my (Hc:=[]) (T:=5) b1 _ hs (zK _ _),hu2.rd (Hc:=[]) hs⟩);by_cases hq:iC p t=bss[0]
  ·rw [decide_eq_true hq];(refine SL.l [19,20,21] ?_);refine W.k ?_;rw [show (bZ d tr s bk p t kind (.slice (some ⟨bb,0,none⟩) bss.length cap) lv cnt Lv ev tv).set 12 (ptv tp)=bZ d tr s bk p t kind (.slice (some ⟨bb,0,none⟩) bss.length cap) lv cnt Lv ev (ptv tp) from rfl,show (bZ d tr s bk p t kind (.slice (some ⟨bb,0,none⟩) bss.length cap) lv cnt Lv ev (ptv tp)).set 11 (.slice (some ⟨be,0,none⟩) (Gm.sealed p) (Gm.sealed p))=bZ d tr s bk p t kind (.slice (some ⟨bb,0,none⟩) bss.length cap) lv cnt Lv (.slice (some ⟨be,0,none⟩) (Gm.sealed p) (Gm.sealed p)) (ptv tp) from rfl];refine Fin.to ((fp,cl (bZ d tr s bk p t kind (.slice (some ⟨bb,0,none⟩) bss.length cap) lv cnt Lv (.slice (some ⟨be,0,none⟩) (Gm.sealed p) (Gm.sealed p)) (ptv tp)) 157)::(tr,cl (trc dt r) 201)::(Hk3++(([(bb,cl (vs++junk) 31)]++Ht0)++((be,cl (uv (nZ p bss)) 23)::Htr)))) ?_;refine F.f1 ⟨rfl,_,_,Hk3,_,hK3,rfl,?_⟩;rw [if_pos rfl];exact⟨tp,be,Htr,rfl,rfl,rfl,hT⟩
  rw [decide_eq_false hq];(refine SL.l [19,20,21] ?_);refine W.k ?_;refine Fin.to ((fp,cl (bZ d tr s bk p t kind (.slice (some ⟨bb,0,none⟩) bss.length cap) lv cnt Lv ev tv) 157)::(tr,cl (trc dt r) 201)::(Hk3++(([(bb,cl (vs++junk) 31)]++Ht0)++[]))) ?_;refine F.f1 ⟨rfl,_,_,Hk3,_,hK3,rfl,?_⟩;rw [if_neg dQ];exact⟨rfl,rfl,rfl⟩
 rw [decide_eq_false he,fX];(refine SL.l [8] ?_;refine dS 9 rfl (aEJ rfl rfl rfl h32 h33 he) ?_;refine SG.l [10,11,12,13,14,15,16,17] ?_;(first|refine cY 18 rfl ?_;refine SG.l [19,20,21] ?_|refine aX 18 ?_));refine W.k ?_;refine Fin.to ((fp,cl (bZ d tr s bk p t kind (.slice (some ⟨bb,0,none⟩) bss.length cap) lv cnt Lv ev tv) 157)::(tr,cl (trc dt r) 201)::(Hk3++(([(bb,cl (vs++junk) 31)]++Ht0)++[]))) ?_;refine F.f1 ⟨rfl,_,_,Hk3,_,hK3,rfl,?_⟩;rw [if_neg dQ];exact⟨rfl,rfl,rfl⟩
abbrev nv(xs:List Nat):LV:=xs.map fun k:Nat=>(.int .i64 (k:Int):Value)
instance nv_oc(xs:List Nat):OC (nv xs):=⟨fun u hu=>by obtain⟨k,-,rfl⟩:=bM.1 hu;rfl⟩
theorem aOp(v:Value)(l:List Nat)(k:Nat)(hn:l.length<=1000000):Tri prog 222 [v,.int .i64 (k:Int)] [] (fun w=>Rd [] w 1 v (nv l)) (fun r H=>∃ z:Int,r=.int .i64 z/\H=[]/\(0<=z↔k∈l)):=by
 refine Tri.mt func222 ntmps222 fun w hw=>?_;obtain⟨a,la,ca,rfl,hl1,hc1,hr1⟩:=hw.get;rw [Nat.mul_one,aC] at hl1;subst hl1;refine W.k ?_;refine bE [0,1,7] (fun j:Nat=>[(8,.int .i64 (j:Int))]) (fun _=>[]) (fun j=>l.length-j) (fun j=>j<=l.length/\∀ i,i<j->l[i]?≠some k) 0 ⟨Nat.zero_le _,fun i h=>by omega⟩ ?_;rintro j ⟨hj,hj2⟩;by_cases hjn:j<l.length
 ·obtain⟨bb,o,lv,T,fz,rfl,hb,hkK,hy⟩:=hr1 oQ;have hlj:=aA hjn;have hlu:lv[o+j]?=some (.int .i64 ((l[j]:Nat):Int)):=by
   have h2:((lv.drop o).take (l.length*1))[j]?=(nv l)[j]?:=by rw [hy]
   rw [bD,if_pos oQ,bH,aL,hlj] at h2;exact h2
  generalize l[j]=q at *;by_cases hq:k=q
  ·subst hq;refine W.k ?_;refine Fin.to [] ?_;exact F.f1 ⟨(j:Int),rfl,rfl,⟨fun _=>aP hlj,fun _=>by omega⟩⟩
  refine W.k ?_;refine aN.mk (j+1) ?_;refine⟨hjn,fun i hi hc=>?_⟩;by_cases hij:i=j
  ·subst hij;rw [hlj] at hc;cases hc;exact hq rfl
  exact hj2 i oQ hc
 have hjl:j=l.length:=oQ;subst hjl;refine W.k ?_;refine Fin.to [] ?_;refine F.f1 ⟨-1,rfl,rfl,⟨fun h=>by omega,fun hm=>?_⟩⟩;obtain⟨i,hi⟩:=cW.1 hm;exact absurd hi (hj2 i (aD.1 hi).1)
theorem aHI(v:Value)(l:List Nat)(k:Nat)(hn:l.length<=1000000):Tri prog 173 [v,.int .i64 (k:Int)] [] (fun w=>Rd [] w 1 v (nv l)) (fun r H=>r=.bool (decide (k∈l))/\H=[]):=by
 refine Tri.mt func173 ntmps173 fun w hw=>?_;have hv:=hw.isOne;obtain⟨a,la,ca,rfl,-⟩:=hw.get;refine W.k ?_;refine aF (aOp _ l k hn) ?_ (hpre:=fun w2 hs=>hw.ro (Hc:=[]) hs);rintro _ _ ⟨z,rfl,rfl,hz⟩;by_cases hk:k∈l
 ·have:=hz.2 hk;rw [decide_eq_true hk];refine W.k ?_;exact F.n
 have:z<0:=by
  rcases zO z 0 with h|h
  ·exact h
  exact absurd (hz.1 h) hk
 rw [decide_eq_false hk];refine W.k ?_;exact F.n
theorem xT(l:List Ent)(x:Ent):dA (l++[x])=vM (dA l) x:=by unfold dA;rw [iH];rfl
theorem aLU(o:List Nat)(x:Ent):(vM o x).length<=o.length+1:=by unfold vM;split <;> simp
theorem oH(l:List Ent):(dA l).length<=l.length:=by
 have key:∀ (l:List Ent) (o:List Nat),(l.foldl vM o).length<=o.length+l.length:=fun l=>by
  induction l with
  | nil=>intro o;simp
  | cons x l ih=>
   intro o
   rw [fC,aW]
   have:=ih (vM o x)
   have:=aLU o x
   omega
 have:=key l [];simpa [dA] using this
theorem aI4{fp d tr s bk p t:Nat}{kind cnt:Int}{bv lv ev tv:Value}(us:LV)(l:List Ent)(hul:us.length=l.length)(hoc:OC us)(hK:∀ x∈l,0<=x.1/\x.1<65536)(hn:l.length<=1000){Lv:Value}{He:Hp}(hS:Sl 112 2 Lv (eH us l) He)(o0:One bv)(o1:One lv)(o3:One ev)(o4:One tv):Tri prog 208 [ptv fp] ((fp,cl (bZ d tr s bk p t kind bv lv cnt Lv ev tv) 157)::He) NT (fun v H=>∃ Hn,Sl 3 1 v (nv (dA l)) Hn/\H=(fp,cl (bZ d tr s bk p t kind bv lv cnt Lv ev tv) 157)::(He++Hn)):=by
 refine Tri.mt func208 ntmps208 fun w hw=>?_;have hS1:=hS.isOne;obtain⟨a,len,cap,rfl,hl1⟩:=hS.form;rw [fL _ _ hul] at hl1;obtain rfl:len=l.length:=by omega
 refine W.j ?_;refine bP [] [] (fun x:Value×Hp=>[(3,x.1)]) (fun x=>x.2) (fun x=>Sl 3 1 x.1 (nv (dA l)) x.2) ?_ ?_
 ·refine W.k ?_;refine bE [11,12] (fun x:Nat×Value×Hp=>[(3,x.2.1),(13,.int .i64 (x.1:Int))]) (fun x=>x.2.2) (fun x=>l.length-x.1) (fun x=>x.1<=l.length/\Sl 3 1 x.2.1 (nv (dA (l.take x.1))) x.2.2) (0,.slice none 0 0,[]) ⟨Nat.zero_le _,Sl.nil _ _⟩ ?_;rintro⟨k,v2,H2⟩ ⟨hk,h2⟩;dsimp only at hk h2 |-;have h21:=h2.isOne;by_cases hkn:k<l.length
  ·rcases hS with ⟨hz,hz2,-⟩|⟨bb,len,cap2,junk,hz,hxl,hj,hlc,rfl⟩
   ·simp only [Value.slice.injEq] at hz;omega
   simp only [Value.slice.injEq] at hz;obtain⟨rfl,rfl,rfl⟩:=hz;have hx:=aA hkn;have huk:us[k]?=some us[k]:=aA oQ;have hrow:=aFN huk hx;have hrow2:(((eH us l++junk).drop (k*2)).take 2)=[.int .i64 l[k].1,us[k]]:=by have hle:=fL us l hul;rw [cJ oQ,bU (by rw [bG];omega)];exact hrow
   have hK0:=hK _ (dG hkn);have hts:dA (l.take (k+1))=vM (dA (l.take k)) l[k]:=by rw [aY,hx,<-xT];rfl
   have htl:(dA (l.take k)).length<=k:=by have:=oH (l.take k);rw [aH] at this;omega
   have hou:One us[k]:=⟨hoc.ok _ (dG _)⟩;generalize us[k]=u at *;generalize l[k]=x at *;obtain⟨K,hKK⟩:∃ K:Nat,x.1=(K:Int):=⟨x.1.toNat,oQ⟩;have hdv:((K:Int)/32)=((K/32:Nat):Int):=rfl;have hci:=aHI v2 (dA (l.take k)) (K/32) oQ;rw [hKK] at hK0;rw [hKK] at hrow2;unfold vM at hts;rw [show x.1.toNat=K by omega] at hts;refine W.k fun b_=>?_;rw [hdv];refine W.cq hci ?_ (hpre:=fun w2 hs=>Rd.own (Hc:=[]) h2 hs inferInstance);by_cases hin:K/32∈dA (l.take k)
   ·rw [if_pos hin] at hts;rw [decide_eq_true hin];rw [<-hts] at h2;refine W.k ?_;refine aN.mk (k+1,v2,H2) ?_;exact⟨hkn,h2⟩
   rw [if_neg hin] at hts;rw [decide_eq_false hin];have hb26:bV (fun i=>some (i*1,1)) (zs [.int .i64 0] 1) [(0,.int .i64 ((K/32:Nat):Int))]=some (nv [K/32]):=rfl;refine W.k fun b_=>?_;refine W.ap h2 (ys:=nv [K/32]) (mm:=1) (fun w2 hs=>(Sl.own 3 1 b_ (xs:=nv [K/32]) rfl).srcAt hs inferInstance) (fun v3 H3 h3=>?_) (hys:=rfl) (hbytes:=by simp;omega);have h31:=h3.isOne;rw [<-aZ,<-hts] at h3;refine W.k ?_;refine aN.mk (k+1,v3,H3) ?_;exact⟨hkn,h3⟩
  have hkl:k=l.length:=oQ;rw [hkl,bO] at h2;subst hkl;refine W.k ?_;refine bS.mk (v2,H2) ?_;exact h2
 rintro⟨v2,H2⟩ h2;dsimp only at h2 |-;have h21:=h2.isOne;refine W.k ?_;refine Fin.to ((fp,cl (bZ d tr s bk p t kind bv lv cnt (.slice a l.length cap) ev tv) 157)::(He++H2)) ?_;exact F.f1 ⟨H2,h2,rfl⟩
end
end Go.Proofs.YtdfclocfackkmaaGreat
