/- The document's AES: a key made ready. -/
import Derived.Test.YtdfclocfackkmaaGreatPm13
set_option linter.unusedVariables false
set_option linter.unusedSimpArgs false
set_option linter.unusedSectionVars false
set_option maxHeartbeats 1600000
namespace Go.Proofs.YtdfclocfackkmaaGreat
open Go Go.Proofs.Tryz
section
attribute [local irreducible] SW SL SQ SH SA SS Pu Fin bS aN
namespace Rg
def twN(n:Nat):LB:=(List.range n).map (fun k=>mul 2 (UInt8.ofNat k))++List.replicate (256-n) 0
def twL:LB:=(List.range 256).map fun k=>mul 2 (UInt8.ofNat k)
theorem twN_len{n:Nat}(h:n<=256):(twN n).length=256:=by unfold twN;simp;omega
theorem twN_set{n:Nat}(h:n<256):(twN n).set n (mul 2 (UInt8.ofNat n))=twN (n+1):=by unfold twN;rw [bY _ _ (by simp),bT,aZ,aT];congr 1;rw [aC,dR,dO,show 256-n=(256-(n+1))+1 by omega,fI];rfl
theorem twN_all:twN 256=twL:=by unfold twN twL;simp
theorem twL_len:twL.length=256:=by unfold twL;simp
def subT(T:LB)(w:LB):LB:=w.map fun x=>T.getD x.toNat 0
def nextW(T:LB)(w:LB)(p:UInt8)(i n:Nat):LB:=
 if i%n=0 then Aes.xorH (subT T (Aes.rotW w)) p else if n=8/\i%8=4 then subT T w else w
def nextP(U:LB)(p:UInt8)(i n:Nat):UInt8:=if i%n=0 then U.getD p.toNat 0 else p
def grow(T U:LB)(n:Nat)(ws:LL):Nat->LL×UInt8
 | 0=>(ws,1)
 | m+1=>((grow T U n ws m).1++[Aes.xor4 ((grow T U n ws m).1.getD (ws.length+m-n) []) (nextW T ((grow T U n ws m).1.getD (ws.length+m-1) []) (grow T U n ws m).2 (ws.length+m) n)],nextP U (grow T U n ws m).2 (ws.length+m) n)
theorem nextW_len(T:LB){w:LB}(h:w.length=4)(p:UInt8)(i n:Nat):(nextW T w p i n).length=4:=by
 unfold nextW Aes.xorH Aes.rotW subT;split
 ·rw [cE,aC];simp;omega
 split
 ·rw [aC];exact h
 exact h
theorem grow_len(T U:LB)(n:Nat)(ws:LL)(m:Nat):(grow T U n ws m).1.length=ws.length+m:=by
 induction m with
 | zero=>rfl
 | succ m ih=>unfold grow;rw [aB,ih];rfl
theorem grow_at{T U:LB}{n:Nat}{ws:LL}{m i:Nat}(h:i<ws.length+m):(grow T U n ws m).1[i]?=some ((grow T U n ws m).1.getD i []):=by rw [aE,aA (by rw [grow_len];exact h)];rfl
theorem grow_four{T U:LB}{n:Nat}(hn:0<n){ws:LL}(hw:∀ y∈ws,y.length=4)(hl:n<=ws.length)(m:Nat):∀ y∈(grow T U n ws m).1,y.length=4:=by
 induction m with
 | zero=>exact hw
 | succ m ih=>
  intro y hy
  unfold grow at hy
  rcases bJ.1 hy with hy|hy
  ·exact ih y hy
  ·obtain rfl:=bW.1 hy
   have h1:=ih _ (aP (grow_at (T:=T) (U:=U) (n:=n) (ws:=ws) (m:=m) (i:=ws.length+m-n) oQ))
   have h2:=ih _ (aP (grow_at (T:=T) (U:=U) (n:=n) (ws:=ws) (m:=m) (i:=ws.length+m-1) oQ))
   rw [Aes.xor4_len (by rw [h1,nextW_len _ h2])]
   exact h1
theorem nextW_a(T:LB)(b0 b1 b2 b3 p:UInt8){i n:Nat}(h:i%n=0):nextW T [b0,b1,b2,b3] p i n=[T.getD b1.toNat 0 ^^^ p,T.getD b2.toNat 0,T.getD b3.toNat 0,T.getD b0.toNat 0]:=by unfold nextW;rw [if_pos h];rfl
theorem nextW_b(T:LB)(b0 b1 b2 b3 p:UInt8){i n:Nat}(h:¬ i%n=0)(h8:n=8/\i%8=4):nextW T [b0,b1,b2,b3] p i n=[T.getD b0.toNat 0,T.getD b1.toNat 0,T.getD b2.toNat 0,T.getD b3.toNat 0]:=by unfold nextW;rw [if_neg h,if_pos h8];rfl
theorem nextW_c(T:LB)(w:LB)(p:UInt8){i n:Nat}(h:¬ i%n=0)(h8:¬ (n=8/\i%8=4)):nextW T w p i n=w:=by unfold nextW;rw [if_neg h,if_neg h8]
theorem nextP_a(U:LB)(p:UInt8){i n:Nat}(h:i%n=0):nextP U p i n=U.getD p.toNat 0:=by unfold nextP;rw [if_pos h]
theorem nextP_b(U:LB)(p:UInt8){i n:Nat}(h:¬ i%n=0):nextP U p i n=p:=by unfold nextP;rw [if_neg h]
def sched(x:LB):LL:=(grow subL twL (x.length/4) (Aes.keyW x (x.length/4)) (3*(x.length/4)+28)).1
end Rg
def rcL(X Y:LV)(ws r:Value):LV:=X++(Y++[ws,r])
section
variable {X Y:LV}{ws r:Value}(hX:X.length=256)(hY:Y.length=256)
include hX hY
theorem aAx:(rcL X Y ws r).length=514:=by unfold rcL;simp [hX,hY]
theorem aK3:(rcL X Y ws r)[512]?=some ws:=by unfold rcL;rw [aV oQ,aV oQ,hX,hY];rfl
theorem aNx:(rcL X Y ws r)[513]?=some r:=by unfold rcL;rw [aV oQ,aV oQ,hX,hY];rfl
theorem aNy{i:Nat}(h:i<256):(rcL X Y ws r)[i]?=X[i]?:=by unfold rcL;rw [aJ oQ]
theorem aNz{i:Nat}(h:i<256):(rcL X Y ws r)[256+i]?=Y[i]?:=by unfold rcL;rw [aV oQ,hX,show 256+i-256=i from dB ..,aJ oQ]
theorem aK2(v:Value):(rcL X Y ws r).set 512 v=rcL X Y v r:=by unfold rcL;rw [bY _ _ oQ,bY _ _ oQ,hX,hY];rfl
theorem aOS(v:Value):(rcL X Y ws r).set 513 v=rcL X Y ws v:=by unfold rcL;rw [bY _ _ oQ,bY _ _ oQ,hX,hY];rfl
theorem aOU{i:Nat}(h:i<256)(v:Value):(rcL X Y ws r).set (256+i) v=rcL X (Y.set i v) ws r:=by unfold rcL;rw [bY _ _ oQ,hX,show 256+i-256=i from dB ..,gI _ _ oQ]
theorem aOT(Z:LV)(hZ:Z.length=256):(rcL X Y ws r).take 0++Z++(rcL X Y ws r).drop (0+256)=rcL Z Y ws r:=by unfold rcL;rw [cU,List.nil_append,fT,<-hX,List.drop_left]
end
theorem aQe:List.replicate 512 (.int .u8 0)++[.slice none 0 0]++[.int .i64 0]=rcL (cbs (Rg.backN 0)) (cbs (Rg.twN 0)) (.slice none 0 0) (.int .i64 0):=by unfold rcL;rw [<-Rg.zero256,show cbs (Rg.twN 0)=List.replicate 256 (.int .u8 0) from Rg.zero256.symm,show (512:Nat)=256+256 from rfl,<-gG];simp only [aT,lW]
@[irreducible] def Hid (p:Prop):Prop:=p
theorem Hid.mk{p:Prop}(h:p):Hid p:=by unfold Hid;exact h
theorem Hid.out{p:Prop}(h:Hid p):p:=by unfold Hid at h;exact h
theorem aN4(pl:Nat->Option (Nat×Nat))(z:LV):bV pl z []=some z:=by unfold bV;rfl
theorem aIj{lv:LV}{ko len:Nat}{xs:LB}(hv:(lv.drop ko).take (len*1)=cbs xs){i:Nat}{x:UInt8}(hx:xs[i]?=some x):lv[ko+i]?=some (u8v x):=by
 have h1:((lv.drop ko).take (len*1))[i]?=some (u8v x):=by rw [hv];exact aBP hx
 rw [bD] at h1;split at h1
 ·rw [bH] at h1;exact h1
 cases h1
def aFb(c n:Nat)(ws:LL)(H:Hp):Prop:=∃ wv Hs,Sl 193 4 wv (cbs ws.flatten) Hs/\H=(c,cl (rcL (cbs Rg.subL) (cbs Rg.twL) wv (.int .i64 (n:Int))) 219)::Hs
theorem aIf{kb ko len cap:Nat}(xs:LB)(hx:xs.length=16\/xs.length=32):Tri prog 35 [.slice (some ⟨kb,ko,none⟩) len cap] [] (fun w=>Rd [] w 1 (.slice (some ⟨kb,ko,none⟩) len cap) (cbs xs)) (fun v H=>∃ c,v=.pointer (some ⟨c,0,none⟩)/\aFb c (xs.length/4+6) (Rg.sched xs) H):=by
 refine Tri.mt func35 ntmps35 fun w hw=>?_;obtain⟨hlen,hcap⟩:xs.length=len/\len<=cap:=hw.len1;have hb11:bV (fun i=>[(0,256),(256,256),(512,1),(513,1)][i]?) (List.replicate 512 (.int .u8 0)++[.slice none 0 0]++[.int .i64 0]) []=some (rcL (cbs (Rg.backN 0)) (cbs (Rg.twN 0)) (.slice none 0 0) (.int .i64 0)):=by rw [<-aQe];exact aN4 _ _
 have l1:(cbs Rg.subL).length=256:=by rw [aI,Rg.subL_len]
 have l2:(cbs (Rg.backN 256)).length=256:=by rw [aI,Rg.backN_len]
 have l3:(cbs (Rg.backN 0)).length=256:=by rw [aI,Rg.backN_len]
 have l4:(cbs (Rg.twN 0)).length=256:=by rw [aI,Rg.twN_len (Nat.zero_le _)]
 have hsx:=aOT l3 l4 (ws:=.slice none 0 0) (r:=.int .i64 0) (cbs Rg.subL) l1;have hle:=aAx l3 l4 (ws:=.slice none 0 0) (r:=.int .i64 0);refine pC ?_;refine mQ ?_;refine W.as ?_;refine jB ?_;refine pC ?_;refine mQ ?_;refine bN (pQ rfl rfl hb11) rfl rfl ?_;clear hb11;have z1:Rg.twN 0=Rg.twN 0:=rfl;generalize hA:cbs (Rg.backN 0)=A at *;generalize hX:cbs Rg.subL=X at *;generalize hY0:cbs (Rg.twN 0)=Y0 at *;have oX:OC X:=by rw [<-hX];infer_instance
 refine aBz fun b3=>?_;refine W.j ?_;refine W.cq aLc ?_;rw [hX];generalize cbs (Rg.backN 256)=B at *;have kX:=Hid.mk hX;have kY:=Hid.mk hY0;clear hA hX hY0;have hle':0+256<=(rcL A Y0 (.slice none 0 0) (.int .i64 0)).length:=oQ;refine W.j ?_;rw [hsx];clear hsx hle hle';obtain⟨n,hn⟩:∃ n,xs.length/4=n:=⟨_,rfl⟩;have hd:(len:Int)/4=(n:Int):=oQ;have lT:(cbs Rg.twL).length=256:=by rw [aI,Rg.twL_len]
 refine bP [0,3] [(b3,cl (rcL X Y0 (.slice none 0 0) (.int .i64 0)) 219)] (fun _:Unit=>[]) (fun _=>[(b3,cl (rcL X (cbs Rg.twL) (.slice none 0 0) (.int .i64 0)) 219)]) NT ?_ ?_
 ·refine W.k ?_;rw [<-kY.out];refine bE [0,3] (fun n:Nat=>[(4,.int .i64 (n:Int))]) (fun n=>[(b3,cl (rcL X (cbs (Rg.twN n)) (.slice none 0 0) (.int .i64 0)) 219)]) (fun n=>256-n) (fun n=>n<=256) 0 (Nat.zero_le _) ?_;intro i hi;by_cases h:i<256
  ·have lY:(cbs (Rg.twN i)).length=256:=by rw [aI,Rg.twN_len hi]
   have hset:=aEk (Rg.twN i) i (Rg.mul 2 (UInt8.ofNat i));rw [Rg.twN_set h] at hset;have hs:=aOU (ws:=.slice none 0 0) (r:=.int .i64 0) l1 lY h (u8v (Rg.mul 2 (UInt8.ofNat i)));rw [hset] at hs;have hl:256+i<(rcL X (cbs (Rg.twN i)) (.slice none 0 0) (.int .i64 0)).length:=by rw [aAx l1 lY];omega
   have hc:=aHi 2 (UInt8.ofNat i);generalize Rg.mul 2 (UInt8.ofNat i)=m at *;generalize cbs (Rg.twN i)=Y at *;refine W.k ?_;(refine SW.l [] [0,1,2,3,5,6] ?_;refine aX 4 ?_);refine W.cq hc ?_;(refine SL.l [7] ?_;refine aX 8 ?_;refine W.i ?_;refine SS.dn ?_);rw [hs];refine W.k ?_;refine aN.mk (i+1) ?_;omega
  have:i=256:=oQ;subst this;rw [Rg.twN_all];refine W.k ?_;refine bS.mk () ?_;trivial
 rintro _ -;generalize hY:cbs Rg.twL=Y at *;have kY2:=Hid.mk hY;clear hY kY;have hl3:513<(rcL X Y (.slice none 0 0) (.int .i64 0)).length:=by rw [aAx l1 lT];decide
 refine W.j ?_;rw [hd,show (n:Int)+6=((n+6:Nat):Int) by omega,aOS l1 lT];clear hl3;have h4n:4*n=xs.length:=oQ;refine bP [0,3,5] [(b3,cl (rcL X Y (.slice none 0 0) (.int .i64 ((n+6:Nat):Int))) 219)] (fun _:Value×Hp=>[]) (fun s=>(b3,cl (rcL X Y s.1 (.int .i64 ((n+6:Nat):Int))) 219)::s.2) (fun s=>Sl 193 4 s.1 (cbs (Aes.keyW xs n).flatten) s.2) ?_ ?_
 ·refine W.k ?_;refine bE [0,3,5] (fun s:Nat×Value×Hp=>[(6,.int .i64 (s.1:Int))]) (fun s=>(b3,cl (rcL X Y s.2.1 (.int .i64 ((n+6:Nat):Int))) 219)::s.2.2) (fun s=>n-s.1) (fun s=>s.1<=n/\Sl 193 4 s.2.1 (cbs (Aes.keyW xs s.1).flatten) s.2.2) (0,.slice none 0 0,[]) ⟨Nat.zero_le _,Sl.nil _ _⟩ ?_;rintro⟨k,wv,Hs⟩ ⟨hk,hS⟩;dsimp only at hk hS |-;have hS1:=hS.isOne;by_cases h:k<n
  ·have hws:=aK3 l1 lT (ws:=wv) (r:=.int .i64 ((n+6:Nat):Int));obtain⟨a',len',cap',he,h1,h2,h3⟩:=hw;cases he;obtain⟨pb,po,lv,T,fz,he2,hb,hkk,hv⟩:=h3.resolve_left oQ;cases he2;obtain⟨y0,hy0⟩:∃ y,xs[4*k]?=some y:=⟨_,aA oQ⟩;obtain⟨y1,hy1⟩:∃ y,xs[4*k+1]?=some y:=⟨_,aA oQ⟩;obtain⟨y2,hy2⟩:∃ y,xs[4*k+2]?=some y:=⟨_,aA oQ⟩;obtain⟨y3,hy3⟩:∃ y,xs[4*k+3]?=some y:=⟨_,aA oQ⟩;have hy:(xs.drop (4*k)).take 4=[y0,y1,y2,y3]:=by
    have e:∀ j y,xs[4*k+j]?=some y->(xs.drop (4*k))[j]?=some y:=fun j y h=>by rw [bH];exact h
    refine cM fun j=>?_;rw [bD];match j with
    | 0=>simpa using hy0
    | 1=>simpa using hy1
    | 2=>simpa using hy2
    | 3=>simpa using hy3
    | j+4=>rw [if_neg oQ];rfl
   have g0:=aIj hv hy0;have g1:=aIj hv hy1;have g2:=aIj hv hy2;have g3:=aIj hv hy3;have hfl:=dH (n:=4) (L:=Aes.keyW xs k) (fun x hx=>Aes.keyW_four (x:=xs) (k:=k) oQ x hx);rw [Aes.keyW_len] at hfl;have hb41:=b4 (w:=[y0,y1,y2,y3]) rfl;have hc:(cbs [y0,y1,y2,y3]).length=4:=rfl;have hz:bV (fun i=>some (i*1,1)) (List.replicate 4 (.int .u8 0)) [(0,u8v y0),(1,u8v y1),(2,u8v y2),(3,u8v y3)]=some (cbs [y0,y1,y2,y3]):=rfl;clear hy0 hy1 hy2 hy3 hv;refine W.k ?_;(refine SW.l [30,33] [0,1,2,3,4,5,6,7,8,9,10,11,12,13,14,15,16,17,18,19,20,21,22,23,24,25,26,27,28] ?_;refine aX 29 ?_);refine iQ fun b5=>?_;(refine bB [] ?_;refine bL 30 ?_);refine W.ap (ys:=cbs [y0,y1,y2,y3]) (mm:=1) hS (fun w2 hs=>(Sl.own 193 4 b5 (xs:=cbs [y0,y1,y2,y3]) hc).srcAt hs inferInstance) (fun v3 H3 h3=>?_) (hys:=hc) (hbytes:=by rw [hc,aI,hfl];omega);have h31:=h3.isOne;rw [show cbs (Aes.keyW xs k).flatten++cbs [y0,y1,y2,y3]=cbs (Aes.keyW xs k++[[y0,y1,y2,y3]]).flatten by simp,<-hy,<-Aes.keyW_succ] at h3;have hl5:512<(rcL X Y wv (.int .i64 ((n+6:Nat):Int))).length:=by rw [aAx l1 lT];decide
   have hsw:=aK2 l1 lT (ws:=wv) (r:=.int .i64 ((n+6:Nat):Int)) v3;(refine SL.l [31,32] ?_;refine bL 33 ?_;refine W.i ?_;refine SS.dn ?_);rw [hsw];refine W.k ?_;refine aN.mk (k+1,v3,H3) ?_;exact⟨h,h3⟩
  have:k=n:=oQ;subst this;refine W.k ?_;refine bS.mk (wv,Hs) ?_;exact hS
 rintro⟨wv,Hs⟩ hS;dsimp only at hS |-;have hS1:=hS.isOne;have hk4:∀ y∈Aes.keyW xs n,y.length=4:=Aes.keyW_four oQ;have hkl:=Aes.keyW_len xs n;have hT:∀ (x:UInt8) (wv r:Value),(rcL X Y wv r)[x.toNat]?=some (u8v (Rg.subL.getD x.toNat 0)):=fun x wv r=>by have hx:x.toNat<256:=x.toNat_lt;rw [aNy l1 lT hx,<-kX.out];exact aBP (by rw [aE,aA (by rw [Rg.subL_len];exact hx)];rfl)
 have hU:∀ (x:UInt8) (wv r:Value),(rcL X Y wv r)[256+x.toNat]?=some (u8v (Rg.twL.getD x.toNat 0)):=fun x wv r=>by have hx:x.toNat<256:=x.toNat_lt;rw [aNz l1 lT hx,<-kY2.out];exact aBP (by rw [aE,aA (by rw [Rg.twL_len];exact hx)];rfl)
 generalize hT0:Rg.subL=T at *;have kT:=Hid.mk hT0;clear hT0;generalize hU0:Rg.twL=U at *;have kU:=Hid.mk hU0;clear hU0;refine W.j ?_;refine bP [3] ((b3,cl (rcL X Y wv (.int .i64 ((n+6:Nat):Int))) 219)::Hs) (fun _:Value×Hp=>[]) (fun s=>(b3,cl (rcL X Y s.1 (.int .i64 ((n+6:Nat):Int))) 219)::s.2) (fun s=>Sl 193 4 s.1 (cbs (Rg.sched xs).flatten) s.2) ?_ ?_
 ·refine W.k ?_;refine bE [0,3,5] (fun s:Nat×Value×Hp×UInt8=>[(7,u8v s.2.2.2),(8,.int .i64 ((n+s.1:Nat):Int))]) (fun s=>(b3,cl (rcL X Y s.2.1 (.int .i64 ((n+6:Nat):Int))) 219)::s.2.2.1) (fun s=>3*n+28-s.1)
   (fun s=>s.1<=3*n+28/\Sl 193 4 s.2.1 (cbs (Rg.grow T U n (Aes.keyW xs n) s.1).1.flatten) s.2.2.1/\s.2.2.2=(Rg.grow T U n (Aes.keyW xs n) s.1).2) (0,wv,Hs,1) ⟨Nat.zero_le _,hS,rfl⟩ ?_
  rintro⟨m,wv2,H2,p⟩ ⟨hm,hS2,hp⟩;dsimp only at hm hS2 hp |-;have hS21:=hS2.isOne;have hw5:=aK3 l1 lT (ws:=wv2) (r:=.int .i64 ((n+6:Nat):Int));have hw6:=aNx l1 lT (ws:=wv2) (r:=.int .i64 ((n+6:Nat):Int));by_cases h:m<3*n+28
  ·obtain⟨ws,hws⟩:∃ ws,(Rg.grow T U n (Aes.keyW xs n) m).1=ws:=⟨_,rfl⟩;have hl6:ws.length=n+m:=by rw [<-hws,Rg.grow_len,hkl]
   have hw4:W4 ws:=by rw [<-hws];exact Rg.grow_four oQ hk4 oQ m
   have hsucc:Rg.grow T U n (Aes.keyW xs n) (m+1)=(ws++[Aes.xor4 (ws.getD m []) (Rg.nextW T (ws.getD (n+m-1) []) p (n+m) n)],Rg.nextP U p (n+m) n):=by show (_,_)=_;rw [hws,hkl,<-hp,show n+m-n=m by omega]
   rw [hws] at hS2;have hwa:ws[m]?=some (ws.getD m []):=by rw [aE,aA oQ];rfl
   have hwb:ws[n+m-1]?=some (ws.getD (n+m-1) []):=by rw [aE,aA oQ];rfl
   generalize ws.getD m []=wa at *;generalize ws.getD (n+m-1) []=wb at *;obtain⟨b0,b1,b2,b3',rfl⟩:=four (hw4 wb (aP hwb));obtain⟨a0,a1,a2,a3,rfl⟩:=four (hw4 wa (aP hwa));have hfl:=dH (n:=4) hw4;have hS0:=hS2;rcases hS2 with ⟨-,h0,-⟩|⟨bw,lw,cw,junk,rfl,g1,g2,g3,rfl⟩
   ·have:(cbs ws.flatten).length=0:=by rw [h0];rfl
    rw [aI,hfl] at this;omega
   have glw:ws.length=lw:=by rw [aI,hfl] at g1;omega
   have hga:=nD (junk:=junk) hw4 hwa;have hgb:=nD (junk:=junk) hw4 hwb;haveI:eB (((n+m:Nat):Int)-(n:Int)) m:=⟨oQ⟩;haveI:eB (((n+m:Nat):Int)-1) (n+m-1):=⟨oQ⟩;have hca:(cbs [a0,a1,a2,a3]).length=4:=rfl;have hcb:(cbs [b0,b1,b2,b3']).length=4:=rfl;generalize cbs ws.flatten++junk=J at *;have hM:((n+m:Nat):Int)%(n:Int)=(((n+m)%n:Nat):Int):=by simp
   have hM8:((n+m:Nat):Int)%8=(((n+m)%8:Nat):Int):=oQ;have hN4:=Rg.nextW_len T (w:=[b0,b1,b2,b3']) rfl p (n+m) n;have hp8:p.toNat<256:=p.toNat_lt;have hb08:b0.toNat<256:=b0.toNat_lt;have hb18:b1.toNat<256:=b1.toNat_lt;have hb28:b2.toNat<256:=b2.toNat_lt;have hb38:b3'.toNat<256:=b3'.toNat_lt;have t0:=hT b0 (.slice (some ⟨bw,0,none⟩) lw cw) (.int .i64 ((n+6:Nat):Int));have t1:=hT b1 (.slice (some ⟨bw,0,none⟩) lw cw) (.int .i64 ((n+6:Nat):Int));have t2:=hT b2 (.slice (some ⟨bw,0,none⟩) lw cw) (.int .i64 ((n+6:Nat):Int));have t3:=hT b3' (.slice (some ⟨bw,0,none⟩) lw cw) (.int .i64 ((n+6:Nat):Int));have tp:=hU p (.slice (some ⟨bw,0,none⟩) lw cw) (.int .i64 ((n+6:Nat):Int));refine W.k fun b_=>?_;refine bN (yG rfl rfl rfl rfl) rfl rfl ?_;refine jB ?_;refine bP [0,3,5,8,9] [(b_,cl (cbs [b0,b1,b2,b3']) 193),(b3,cl (rcL X Y (.slice (some ⟨bw,0,none⟩) lw cw) (.int .i64 ((n+6:Nat):Int))) 219),(bw,cl J 193)] (fun _:Unit=>[(7,u8v (Rg.nextP U p (n+m) n))])
    (fun _=>[(b_,cl (cbs (Rg.nextW T [b0,b1,b2,b3'] p (n+m) n)) 193),(b3,cl (rcL X Y (.slice (some ⟨bw,0,none⟩) lw cw) (.int .i64 ((n+6:Nat):Int))) 219),(bw,cl J 193)]) NT ?_ ?_
   ·refine aAP rfl (fun h_=>?_) (fun h_=>?_) <;> dsimp only [xX] at h_
    ·have h0:(n+m)%n=0:=oQ;have e:Rg.nextW T [b0,b1,b2,b3'] p (n+m) n=_:=Rg.nextW_a T b0 b1 b2 b3' p h0;have e2:Rg.nextP U p (n+m) n=_:=Rg.nextP_a U p h0;rw [e,e2];have hz:bV (fun i=>some (i*1,1)) (List.replicate 4 (.int .u8 0)) [(0,.int .u8 ((T.getD b1.toNat 0 ^^^ p).toNat:Int)),(1,u8v (T.getD b2.toNat 0)),(2,u8v (T.getD b3'.toNat 0)),(3,u8v (T.getD b0.toNat 0))]=some (cbs [T.getD b1.toNat 0 ^^^ p,T.getD b2.toNat 0,T.getD b3'.toNat 0,T.getD b0.toNat 0]):=rfl;have hz4:(cbs [T.getD b1.toNat 0 ^^^ p,T.getD b2.toNat 0,T.getD b3'.toNat 0,T.getD b0.toNat 0]).length=4:=rfl;refine pC ?_;(refine SW.l [31] [0,1,2,3,4,5,6,7,8,9,10,11,12,13,14,15,16,17,18,19,20,21,22,23,24,25,26,27,28,29,30] ?_;refine bL 31 ?_;refine W.i ?_;refine SS.dn ?_);refine W.k ?_;refine bS.mk () ?_;trivial
    have h0:¬ (n+m)%n=0:=oQ;have e2:Rg.nextP U p (n+m) n=_:=Rg.nextP_b U p h0;rw [e2];by_cases h8:n=8/\(n+m)%8=4
    ·obtain⟨h81,h82⟩:=h8;have e:=Rg.nextW_b T b0 b1 b2 b3' p h0 ⟨h81,h82⟩;rw [e];have hz:bV (fun i=>some (i*1,1)) (List.replicate 4 (.int .u8 0)) [(0,u8v (T.getD b0.toNat 0)),(1,u8v (T.getD b1.toNat 0)),(2,u8v (T.getD b2.toNat 0)),(3,u8v (T.getD b3'.toNat 0))]=some (cbs [T.getD b0.toNat 0,T.getD b1.toNat 0,T.getD b2.toNat 0,T.getD b3'.toNat 0]):=rfl;have hz4:(cbs [T.getD b0.toNat 0,T.getD b1.toNat 0,T.getD b2.toNat 0,T.getD b3'.toNat 0]).length=4:=rfl;refine W.k ?_;(refine SW.l [29] [0,1,2,3,4,5,6,7,8,9,10,11,12,13,14,15,16,17,18,19,20,21,22,23,24,25,26,27,28] ?_;refine bL 29 ?_;refine W.i ?_;refine SS.dn ?_);refine W.k ?_;refine bS.mk () ?_;trivial
    have e:=Rg.nextW_c T [b0,b1,b2,b3'] p h0 h8;rw [e];by_cases h81:n=8
    ·have h82:¬ (n+m)%8=4:=fun h=>h8 ⟨h81,h⟩;refine W.k ?_;refine bS.mk () ?_;trivial
    refine W.k ?_;refine bS.mk () ?_;trivial
   rintro _ -;generalize Rg.nextW T [b0,b1,b2,b3'] p (n+m) n=N at *;generalize Rg.nextP U p (n+m) n=p' at *;clear t0 t1 t2 t3 tp hgb hT hU;obtain⟨c0,c1,c2,c3,rfl⟩:=four hN4;have hx4:Aes.xor4 [a0,a1,a2,a3] [c0,c1,c2,c3]=[a0 ^^^ c0,a1 ^^^ c1,a2 ^^^ c2,a3 ^^^ c3]:=rfl;rw [hx4] at hsucc;have hc:(cbs [a0 ^^^ c0,a1 ^^^ c1,a2 ^^^ c2,a3 ^^^ c3]).length=4:=rfl;have hz:bV (fun i=>some (i*1,1)) (List.replicate 4 (.int .u8 0)) [(0,.int .u8 ((a0 ^^^ c0).toNat:Int)),(1,.int .u8 ((a1 ^^^ c1).toNat:Int)),(2,.int .u8 ((a2 ^^^ c2).toNat:Int)),(3,.int .u8 ((a3 ^^^ c3).toNat:Int))]=some (cbs [a0 ^^^ c0,a1 ^^^ c1,a2 ^^^ c2,a3 ^^^ c3]):=rfl;have hbx:=b4 (w:=[a0 ^^^ c0,a1 ^^^ c1,a2 ^^^ c2,a3 ^^^ c3]) rfl;refine W.k fun b_=>?_;(refine SW.l [27,30] [0,1,2,3,4,5,6,7,8,9,10,11,12,13,14,15,16,17,18,19,20,21,22,23,24,25] ?_;refine aX 26 ?_);refine iQ fun b5=>?_;(refine bB [] ?_;refine bL 27 ?_);refine W.ap (ys:=cbs [a0 ^^^ c0,a1 ^^^ c1,a2 ^^^ c2,a3 ^^^ c3]) (mm:=1) hS0 (fun w2 hs=>(Sl.own 193 4 b5 (xs:=cbs [a0 ^^^ c0,a1 ^^^ c1,a2 ^^^ c2,a3 ^^^ c3]) hc).srcAt hs inferInstance) (fun v3 H3 h3=>?_) (hys:=hc) (hbytes:=by rw [hc,aI,hfl];omega);have h31:=h3.isOne;rw [show cbs ws.flatten++cbs [a0 ^^^ c0,a1 ^^^ c1,a2 ^^^ c2,a3 ^^^ c3]=cbs (ws++[[a0 ^^^ c0,a1 ^^^ c1,a2 ^^^ c2,a3 ^^^ c3]]).flatten by simp] at h3;have hl5:512<(rcL X Y (.slice (some ⟨bw,0,none⟩) lw cw) (.int .i64 ((n+6:Nat):Int))).length:=by rw [aAx l1 lT];decide
   have hsw:=aK2 l1 lT (ws:=.slice (some ⟨bw,0,none⟩) lw cw) (r:=.int .i64 ((n+6:Nat):Int)) v3;(refine SL.l [28,29] ?_;refine bL 30 ?_;refine W.i ?_;refine SS.dn ?_);rw [hsw];refine W.k ?_;rw [show ((n+m:Nat):Int)+1=((n+(m+1):Nat):Int) by omega];refine aN.mk (m+1,v3,H3,p') ?_;dsimp only;rw [hsucc];exact⟨oQ,h3,rfl⟩
  have hm2:m=3*n+28:=oQ;have e:Rg.sched xs=(Rg.grow T U n (Aes.keyW xs n) m).1:=by rw [hm2];unfold Rg.sched;rw [hn,kT.out,kU.out]
  rw [<-e] at hS2;clear e hp;refine W.k ?_;refine bS.mk (wv2,H2) ?_;exact hS2
 rintro⟨wv2,H2⟩ hS2;dsimp only at hS2 |-;refine W.k ?_;refine Fin.to ((b3,cl (rcL X Y wv2 (.int .i64 ((n+6:Nat):Int))) 219)::H2) ?_;exact F.f1 ⟨b3,rfl,wv2,H2,hS2,by rw [hn,kT.out,kX.out,kU.out,kY2.out]⟩
end
namespace Ae
set_option maxRecDepth 100000
def cl8(a b:Nat):Nat:=(b/2^0%2*(a*2^0)) ^^^ ((b/2^1%2*(a*2^1)) ^^^ ((b/2^2%2*(a*2^2)) ^^^ ((b/2^3%2*(a*2^3)) ^^^ ((b/2^4%2*(a*2^4)) ^^^ ((b/2^5%2*(a*2^5)) ^^^ ((b/2^6%2*(a*2^6)) ^^^ (b/2^7%2*(a*2^7))))))))
def rd1(i:Nat)(p:Nat):Nat:=p ^^^ (p/2^(i+8)%2*(283*2^i))
def rd(p:Nat):Nat:=rd1 0 (rd1 1 (rd1 2 (rd1 3 (rd1 4 (rd1 5 (rd1 6 p))))))
def mulU(a b:Nat):Nat:=rd (cl8 a b)
theorem bitx(p q k:Nat):(p ^^^ q)/2^k%2=(p/2^k%2) ^^^ (q/2^k%2):=by rw [<-eZ,<-eZ,<-eZ,Nat.shiftRight_xor_distrib];exact Nat.xor_mod_two_pow (n:=1)
theorem sel(u v m:Nat)(hu:u<2)(hv:v<2):(u ^^^ v)*m=(u*m) ^^^ (v*m):=by rcases (by omega:u=0\/u=1) with rfl|rfl <;> rcases (by omega:v=0\/v=1) with rfl|rfl <;> simp
theorem selB(p q k m:Nat):(p ^^^ q)/2^k%2*m=(p/2^k%2*m) ^^^ (q/2^k%2*m):=by rw [bitx,sel _ _ _ (Nat.mod_lt _ dQ) (Nat.mod_lt _ dQ)]
theorem x4(a b c d:Nat):(a ^^^ b) ^^^ (c ^^^ d)=(a ^^^ c) ^^^ (b ^^^ d):=by rw [pN,pN,<-pN b c d,Nat.xor_comm b c,pN c b d]
theorem cl8_x(a p q:Nat):cl8 a (p ^^^ q)=cl8 a p ^^^ cl8 a q:=by
 unfold cl8;simp only [selB];iterate 7
  refine Eq.trans ?_ (x4 _ _ _ _).symm
  refine congrArg _ ?_
 rfl
theorem rd1_x(i p q:Nat):rd1 i (p ^^^ q)=rd1 i p ^^^ rd1 i q:=by unfold rd1;rw [selB,x4]
theorem rd_x(p q:Nat):rd (p ^^^ q)=rd p ^^^ rd q:=by unfold rd;simp only [rd1_x]
theorem mulU_x(a p q:Nat):mulU a (p ^^^ q)=mulU a p ^^^ mulU a q:=by unfold mulU;rw [cl8_x,rd_x]
theorem mulU_0(a:Nat):mulU a 0=0:=by unfold mulU cl8;simp [rd,rd1]
def bs8(b:Nat):Nat:=(b/2^0%2*2^0) ^^^ ((b/2^1%2*2^1) ^^^ ((b/2^2%2*2^2) ^^^ ((b/2^3%2*2^3) ^^^ ((b/2^4%2*2^4) ^^^ ((b/2^5%2*2^5) ^^^ ((b/2^6%2*2^6) ^^^ (b/2^7%2*2^7)))))))
theorem bs8_all:∀ b,b<256->bs8 b=b:=by decide +kernel
theorem lin_id{f:Nat->Nat}(hx:∀ p q,f (p ^^^ q)=f p ^^^ f q)(h0:f 0=0)(hb:∀ i,i<8->f (2^i)=2^i){b:Nat}(hl:b<256):f b=b:=by
 have hs:∀ i,i<8->f (b/2^i%2*2^i)=b/2^i%2*2^i:=fun i hi=>by
  rcases (by omega:b/2^i%2=0\/b/2^i%2=1) with h|h
  ·rw [h,jM,h0]
  rw [h,Nat.one_mul,hb i hi]
 have e:=bs8_all b hl;have:f (bs8 b)=bs8 b:=by unfold bs8;simp only [hx];rw [hs 0 dQ,hs 1 dQ,hs 2 dQ,hs 3 dQ,hs 4 dQ,hs 5 dQ,hs 6 dQ,hs 7 dQ]
 rwa [e] at this
def ivL:List Nat:=[0,1,141,246,203,82,123,209,232,79,41,192,176,225,229,199,116,180,170,75,153,43,96,95,88,63,253,204,255,64,238,178,58,110,90,241,85,77,168,201,193,10,152,21,48,68,162,194,44,69,146,108,243,57,102,66,242,53,32,111,119,187,89,25,29,254,55,103,45,49,245,105,167,100,171,19,84,37,233,9,237,92,5,202,76,36,135,191,24,62,34,240,81,236,97,23,22,94,175,211,73,166,54,67,244,71,145,223,51,147,33,59,121,183,151,133,16,181,186,60,182,112,208,6,161,250,129,130,131,126,127,128,150,115,190,86,155,158,149,217,247,2,185,164,222,106,50,109,216,138,132,114,42,20,159,136,249,220,137,154,251,124,46,195,143,184,101,72,38,200,18,74,206,231,210,98,12,224,31,239,17,117,120,113,165,142,118,61,189,188,134,87,11,40,47,163,218,212,228,15,169,39,83,4,27,252,172,230,122,7,174,99,197,219,226,234,148,139,196,213,157,248,144,107,177,13,214,235,198,14,207,173,8,78,215,227,93,80,30,179,91,35,56,52,104,70,3,140,221,156,125,160,205,26,65,28]
theorem inv_t:∀ a,a<256->Gf.inv (UInt8.ofNat a)=UInt8.ofNat (ivL.getD a 0):=by decide +kernel
theorem ivL_lt:∀ a,a<256->ivL.getD a 0<256:=by decide +kernel
theorem inv_n{a:Nat}(h:a<256):(Gf.inv (UInt8.ofNat a)).toNat=ivL.getD a 0:=by rw [inv_t a h,cX,dK (ivL_lt a h)]
theorem inv_ok:∀ a,a<256->a≠0->∀ i,i<8->mulU (ivL.getD a 0) (mulU a (2^i))=2^i:=by decide +kernel
theorem inv_1:∀ a,a<256->a≠0->mulU a (ivL.getD a 0)=1:=by decide +kernel
theorem one_r:∀ a,a<256->mulU a 1=a:=by decide +kernel
theorem inv_u{a j:Nat}(ha:a<256)(h0:a≠0)(hj:j<256)(h:mulU a j=1):j=(Gf.inv (UInt8.ofNat a)).toNat:=by rw [inv_n ha];have:=lin_id (f:=fun j=>mulU (ivL.getD a 0) (mulU a j)) (fun p q=>by simp only [mulU_x]) (by simp only [mulU_0]) (inv_ok a ha h0) hj;rw [h,one_r _ (ivL_lt a ha)] at this;exact this.symm
theorem if_x(c x y:Nat)(h:c<2):(if c=1 then x ^^^ y else x)=x ^^^ (c*y):=by rcases (by omega:c=0\/c=1) with rfl|rfl <;> simp
theorem redP_eq(p:Nat):Rg.redP p 7=rd p:=by
 have hs:∀ j,Rg.redP p (j+1)=Rg.redP p j ^^^ (Rg.redP p j/2^(14-j)%2*(283*2^(6-j))):=fun j=>by rw [Rg.redP,if_x _ _ _ (Nat.mod_lt _ dQ)]
 rw [hs 6,hs 5,hs 4,hs 3,hs 2,hs 1,hs 0];rfl
theorem mulP_eq(a b:UInt8):Rg.mulP a b 8=cl8 a.toNat b.toNat:=by
 have hs:∀ k,Rg.mulP a b (k+1)=Rg.mulP a b k ^^^ (b.toNat/2^k%2*(a.toNat*2^k)):=fun k=>by rw [Rg.mulP,if_x _ _ _ (Nat.mod_lt _ dQ)]
 rw [hs 7,hs 6,hs 5,hs 4,hs 3,hs 2,hs 1,hs 0];unfold cl8;rw [show Rg.mulP a b 0=0 from rfl,Nat.zero_xor];simp only [pN]
theorem mul_eq(a b:UInt8):Rg.mul a b=UInt8.ofNat (mulU a.toNat b.toNat):=by unfold Rg.mul;rw [redP_eq,mulP_eq];rfl
theorem xor_lt8{a b:Nat}(ha:a<256)(hb:b<256):a ^^^ b<256:=nJ (n:=8) ha hb
theorem mulU_lt{a:Nat}(ha:a<256){b:Nat}(hb:b<256):mulU a b<256:=by
 have key:∀ a,a<256->∀ i,i<8->mulU a (2^i)<256:=by decide +kernel
 have e:=bs8_all b hb;have hs:∀ i,i<8->mulU a (b/2^i%2*2^i)<256:=fun i hi=>by
  rcases (by omega:b/2^i%2=0\/b/2^i%2=1) with h|h
  ·rw [h,jM,mulU_0];decide
  rw [h,Nat.one_mul];exact key a ha i hi
 rw [<-e];unfold bs8;simp only [mulU_x];exact xor_lt8 (hs 0 dQ) (xor_lt8 (hs 1 dQ) (xor_lt8 (hs 2 dQ) (xor_lt8 (hs 3 dQ) (xor_lt8 (hs 4 dQ) (xor_lt8 (hs 5 dQ) (xor_lt8 (hs 6 dQ) (hs 7 dQ)))))))
theorem rinv(a:Nat)(ha:a<256):Rg.inv (UInt8.ofNat a)=Gf.inv (UInt8.ofNat a):=by
 by_cases h0:a=0
 ·subst h0;decide +kernel
 have hn:(UInt8.ofNat a).toNat=a:=by rw [cX];omega
 have hmk:∀ k,k<256->(Rg.mul (UInt8.ofNat a) (UInt8.ofNat k) == 1)=true->k=(Gf.inv (UInt8.ofNat a)).toNat:=fun k hk h=>by have h1:=eq_of_beq h;rw [mul_eq,hn,show (UInt8.ofNat k).toNat=k by rw [cX];omega] at h1;have h2:=congrArg UInt8.toNat h1;rw [cX,dK (mulU_lt ha hk)] at h2;exact inv_u ha h0 hk h2
 have hin:(Rg.mul (UInt8.ofNat a) (UInt8.ofNat (Gf.inv (UInt8.ofNat a)).toNat) == 1)=true:=by rw [mul_eq,hn,mC,inv_n ha,inv_1 a ha h0];rfl
 unfold Rg.inv;cases hf:(List.range 256).find? fun k=>Rg.mul (UInt8.ofNat a) (UInt8.ofNat k) == 1 with
 | none=>
  have:=List.find?_eq_none.1 hf _ (eK.2 (UInt8.toNat_lt (Gf.inv (UInt8.ofNat a))))
  exact absurd hin this
 | some k=>
  have h1:=List.find?_some hf
  have h2:=eK.1 (mU hf)
  rw [Option.getD_some,hmk k h2 h1,mC]
theorem sb0:∀ k,k<256->UInt8.ofNat (Rg.subO (UInt8.ofNat (ivL.getD k 0)) 8)=Gf.aff (UInt8.ofNat (ivL.getD k 0)):=by decide +kernel
theorem sb(k:Nat)(h:k<256):UInt8.ofNat (Rg.subO (Gf.inv (UInt8.ofNat k)) 8)=Gf.subB k:=by unfold Gf.subB;rw [inv_t k h,sb0 k h]
theorem sub_eq:Rg.subL=Gf.subL:=eJ fun k hk=>by
 have hk:=eK.1 hk
 unfold Rg.sub
 rw [rinv k hk,sb k hk]
theorem tw:∀ k,k<256->mulU 2 k=(Gf.twice (UInt8.ofNat k)).toNat:=by decide +kernel
theorem tw8(a:UInt8):(Gf.twice a).toNat=mulU 2 a.toNat:=by have:=tw a.toNat a.toNat_lt;rw [mC] at this;exact this.symm
theorem twice_x(a b:UInt8):Gf.twice (a ^^^ b)=Gf.twice a ^^^ Gf.twice b:=by apply kG.1;rw [tw8,UInt8.toNat_xor,mulU_x,UInt8.toNat_xor,tw8,tw8]
theorem twL_at(a:UInt8):Rg.twL.getD a.toNat 0=Gf.twice a:=by unfold Rg.twL;rw [aE,aL,eI a.toNat_lt,Option.map_some,Option.getD_some,mC,mul_eq];apply kG.1;rw [tw8,cX,dK (mulU_lt dQ a.toNat_lt)];rfl
end Ae
end Go.Proofs.YtdfclocfackkmaaGreat
