/- Slices that are cut into chunks: the library's iterator. -/
import Derived.Test.YtdfclocfackkmaaGreatPm11
import Derived.Test.YtdfclocfackkmaaGreatPm12
set_option linter.unusedVariables false
set_option linter.unusedSimpArgs false
set_option linter.unusedSectionVars false
set_option maxHeartbeats 1000000
namespace Go.Proofs.YtdfclocfackkmaaGreat
open Go Go.Proofs.Tryz
section
attribute [local irreducible] SW SL SQ SH SA SS Pu Fin bS aN SX SJ
theorem aJ3{l bs bn kb ko len cap n:Nat}(xs:LB)(hn:0<n)(hn2:n<=1000000)(hlen:len<=1000000000)(J:Nat->Hp->Prop)(Jx:Hp->Prop)(H0:Hp)(h0:J 0 H0) (hY:∀ k Hk,n*k<len->J k Hk->Rnd prog l [.slice (some ⟨kb,ko+n*k,none⟩) (min n (len-n*k)) (min n (len-n*k))] Hk (fun w=>Rd (Hk.map Prod.fst) w 1 (.slice (some ⟨kb,ko,none⟩) len cap) (cbs xs)) (fun v H'=>(v=.bool true/\J (k+1) H')\/(v=.bool false/\Jx H'))):Tri prog 157 [.func (.yield l) #[] #[],.pointer (some ⟨bs,0,none⟩),.pointer (some ⟨bn,0,none⟩)] ((bs,cl [.slice (some ⟨kb,ko,none⟩) len cap] 186)::(bn,cl [.int .i64 (n:Int)] 3)::H0) (fun w=>Rd (((bs,cl [.slice (some ⟨kb,ko,none⟩) len cap] 186)::(bn,cl [.int .i64 (n:Int)] 3)::H0).map Prod.fst) w 1 (.slice (some ⟨kb,ko,none⟩) len cap) (cbs xs)) (fun v H'=>v=.tuple #[]/\((∃ k,len<=n*k/\n*k<len+n/\J k H')\/Jx H')):=by
 refine Tri.mt func157 ntmps157 fun w hw=>?_;have hlc:len<=cap:=hw.len1.2;refine W.j ?_;refine W.k ?_;refine bE [0,1,2] (fun s:Nat×Nat×Hp=>[(4,.int .i64 (s.1:Int))]) (fun s=>(bs,cl [.slice (some ⟨kb,ko,none⟩) len cap] 186)::(bn,cl [.int .i64 (n:Int)] 3)::s.2.2) (fun s=>len+n-s.1) (fun s=>s.1=n*s.2.1/\s.1<len+n/\J s.2.1 s.2.2) (0,0,H0) ⟨by simp,by simp;omega,h0⟩ ?_;rintro⟨i,k,Hk⟩ ⟨hik,hil,hJ⟩;dsimp only at hik hil hJ |-;by_cases h:i<len
 ·have hci:i<cap:=oQ;have hil':i<=len:=oQ;refine W.k ?_;(refine SW.l [] [0,1,2] ?_;refine dS 3 rfl (aKP rfl rfl rfl oQ oQ oQ) ?_;refine SG.l [4,5,6,7] ?_);rw [show min (n:Int) ((len-i:Nat):Int)=((min n (len-i):Nat):Int) by omega];obtain⟨m,hm⟩:∃ m,min n (len-i)=m:=⟨_,rfl⟩;have hm0:0<m:=oQ;have hml:i+m<=len:=oQ;rw [hm];refine pC ?_;refine aNT (aGG (SJ.cut 10 ?_));refine W.i ?_;refine bN (aP8 (l:=i) (h:=i+m) (c:=ko+i) rfl rfl rfl rfl rfl rfl oQ oQ oQ oQ oQ) rfl rfl ?_;refine jB ?_;have hY':=hY k Hk oQ hJ;rw [<-hik,hm] at hY';rw [show i+m-i=m by omega];refine SJ.yield Hk rfl rfl rfl rfl rfl hY' (fun w2 hs=>hw.ro (Hc:=Hk) hs) ?_;rintro _ H' (⟨rfl,hJ'⟩|⟨rfl,hJx⟩)
  ·refine SJ.all ?_;refine W.k ?_;rw [show (i:Int)+(n:Int)=((i+n:Nat):Int) by omega];refine aN.mk (i+n,k+1,H') ?_;exact⟨by dsimp only;rw [hik,Nat.mul_succ],by dsimp only;omega,hJ'⟩
  refine SJ.all ?_;refine W.k ?_;refine Fin.to H' ?_;exact F.f0 ⟨rfl,.inr hJx⟩
 refine W.k ?_;refine Fin.to Hk ?_;exact F.f0 ⟨rfl,.inl ⟨k,oQ,oQ,hJ⟩⟩
theorem aL7{kv:Value} [One kv]{n:Nat}(hn:0<n):Tri prog 82 [kv,.int .i64 (n:Int)] [] NT (fun v H=>∃ bs bn,v=.func (.func 157) #[] #[.pointer (some ⟨bs,0,none⟩),.pointer (some ⟨bn,0,none⟩)]/\H=[(bs,cl [kv] 186),(bn,cl [.int .i64 (n:Int)] 3)]):=by refine Tri.mt func82 ntmps82 fun w hw=>?_;refine W.k fun _ b_=>?_;rename_i bs;refine Fin.to [(bs,cl [kv] 186),(b_,cl [.int .i64 (n:Int)] 3)] ?_;exact F.f1 ⟨bs,b_,rfl,rfl⟩
namespace Aes
def keyW(x:LB)(k:Nat):LL:=(List.range k).map fun j=>(x.drop (4*j)).take 4
theorem keyW_len(x:LB)(k:Nat):(keyW x k).length=k:=by unfold keyW;simp
theorem keyW_succ(x:LB)(k:Nat):keyW x (k+1)=keyW x k++[(x.drop (4*k)).take 4]:=by unfold keyW;rw [bT,aZ];rfl
theorem keyW_four{x:LB}{k:Nat}(h:4*k<=x.length):∀ y∈keyW x k,y.length=4:=fun y hy=>by
 obtain⟨j,hj,rfl⟩:=bM.1 hy
 have:=eK.1 hj
 rw [aH,bG]
 omega
def grow(n:Nat)(ws:LL):Nat->LL
 | 0=>ws
 | m+1=>grow n ws m++[xor4 ((grow n ws m).getD (ws.length+m-n) []) (nextW ((grow n ws m).getD (ws.length+m-1) []) (ws.length+m) n)]
theorem grow_len(n:Nat)(ws:LL)(m:Nat):(grow n ws m).length=ws.length+m:=by
 induction m with
 | zero=>rfl
 | succ m ih=>unfold grow;rw [aB,ih];rfl
theorem grow_at{n:Nat}{ws:LL}{m i:Nat}(h:i<ws.length+m):(grow n ws m)[i]?=some ((grow n ws m).getD i []):=by rw [aE,aA (by rw [grow_len];exact h)];rfl
theorem grow_four{n:Nat}(hn:0<n){ws:LL}(hw:∀ y∈ws,y.length=4)(hl:n<=ws.length)(m:Nat):∀ y∈grow n ws m,y.length=4:=by
 induction m with
 | zero=>exact hw
 | succ m ih=>
  intro y hy
  unfold grow at hy
  rcases bJ.1 hy with hy|hy
  ·exact ih y hy
  ·obtain rfl:=bW.1 hy
   have h1:=ih _ (aP (grow_at (n:=n) (ws:=ws) (m:=m) (i:=ws.length+m-n) oQ))
   have h2:=ih _ (aP (grow_at (n:=n) (ws:=ws) (m:=m) (i:=ws.length+m-1) oQ))
   rw [xor4_len (by rw [h1,nextW_len h2])]
   exact h1
def sched(x:LB):LL:=grow (x.length/4) (keyW x (x.length/4)) (3*(x.length/4)+28)
end Aes
def aD4(c b n:Nat)(ws:LL)(H:Hp):Prop:=∃ wv Hs,Sl 193 4 wv (cbs ws.flatten) Hs/\H=(c,pY b wv (.int .i64 (n:Int)))::Hs
theorem b4{w:LB}(h:w.length=4):bV (fun i=>some (i*4,4)) (zs (List.replicate 4 (.int .u8 0)) 1) [(0,.agg (cbs w).toArray)]=some (cbs w):=by obtain⟨a,b,c,d,rfl⟩:=four h;rfl
theorem aN0{b kb ko len cap:Nat}(xs:LB)(hx:xs.length=16\/xs.length=32):Tri prog 27 [.pointer (some ⟨b,0,none⟩),.slice (some ⟨kb,ko,none⟩) len cap] [(b,gK)] (fun w=>Rd [b] w 1 (.slice (some ⟨kb,ko,none⟩) len cap) (cbs xs)) (fun v H=>∃ c Hc,v=.tuple #[.pointer (some ⟨c,0,none⟩),.int .i64 0]/\aD4 c b (xs.length/4+6) (Aes.sched xs) Hc/\H=Hc++[(b,gK)]):=by
 refine Tri.mkX func27 rfl ntmps27 rfl fun w hw=>?_;have hlc:xs.length=len/\len<=cap:=hw.len1;obtain⟨hlen,hcap⟩:=hlc;have h16:(xs.length:Int)/4=((xs.length/4:Nat):Int):=oQ;have hwo:One (Value.slice (some ⟨kb,ko,none⟩) len cap):=⟨rfl⟩;refine zW (Fin.toEnd rfl) ?_;refine W.j ?_;refine zW (Fin.toEnd rfl) ?_;refine aLQ [0,1,4,5] [(b,gK)] (fun _:Unit=>[]) (fun _=>[(b,gK)]) NT ?_ ?_
 ·rcases hx with hx|hx
  ·have hl:len=16:=oQ;subst hl;refine W.k ?_;refine bS.mk () ?_;trivial
  have hl:len=32:=oQ;subst hl;refine W.k ?_;refine bS.mk () ?_;trivial
 rintro _ -;obtain⟨n,hn⟩:∃ n,xs.length/4=n:=⟨_,rfl⟩;have hd:(len:Int)/4=(n:Int):=oQ;have hd6:(n:Int)+6=((n+6:Nat):Int):=oQ;have hb28:bV (fun i=>[(0,1),(1,1),(2,1)][i]?) [.pointer none,.slice none 0 0,.int .i64 0] [(0,.pointer (some ⟨b,0,none⟩)),(2,.int .i64 ((n+6:Nat):Int))]=some [.pointer (some ⟨b,0,none⟩),.slice none 0 0,.int .i64 ((n+6:Nat):Int)]:=rfl;refine zW (Fin.toEnd rfl) ?_;refine W.k ?_;rw [hd];refine zW (Fin.toEnd rfl) ?_;refine mQ ?_;refine W.mv ?_;refine W.mv ?_;refine W.za ?_;rw [hd6];refine W.k fun _ b_=>?_;refine aLR ?_;refine zW (Q0:=fun _ _ _=>False) (fun e a w ⟨_,_,_,_,h⟩=>h.elim) ?_;refine W.k ?_;rename_i bc;refine aF (aL7 (n:=4) dQ) ?_;rintro _ _ ⟨bs,bn,rfl,rfl⟩;refine jB ?_;refine SX.block ?_;refine aPy [0,1,4,5,6,7,31] ?_;rw [fR];refine aPA [(bs,cl [.slice (some ⟨kb,ko,none⟩) len cap] 186),(bn,cl [.int .i64 (4:Nat)] 3),(b_,cl [.pointer (some ⟨bc,0,none⟩)] 83),(bc,pY b (.slice none 0 0) (.int .i64 ((n+6:Nat):Int))),(b,gK)] ?_;have hw':∀ D l o w',St [b] w ((l,o)::(D,.deferred (some []))::[(bs,cl [.slice (some ⟨kb,ko,none⟩) len cap] 186),(bn,cl [.int .i64 (4:Nat)] 3),(b_,cl [.pointer (some ⟨bc,0,none⟩)] 83),(bc,pY b (.slice none 0 0) (.int .i64 ((n+6:Nat):Int))),(b,gK)]) w'->Rd [bs,bn,l,D,b_,bc,b] w' 1 (.slice (some ⟨kb,ko,none⟩) len cap) (cbs xs):=fun D l o w' hs=>
  hw.ro (Hc:=[(bs,cl [.slice (some ⟨kb,ko,none⟩) len cap] 186),(bn,cl [.int .i64 (4:Nat)] 3),(l,o),(D,.deferred (some [])),(b_,cl [.pointer (some ⟨bc,0,none⟩)] 83),(bc,pY b (.slice none 0 0) (.int .i64 ((n+6:Nat):Int))),(b,gK)]) hs
 have h4n:4*n=xs.length:=oQ;refine aJP (caps:=[.pointer (some ⟨bs,0,none⟩),.pointer (some ⟨bn,0,none⟩)]) (Pre:=fun D l w'=>Rd [bs,bn,l,D,b_,bc,b] w' 1 (.slice (some ⟨kb,ko,none⟩) len cap) (cbs xs))
  (RR:=fun D l v H'=>∃ r wv Hs,r.state=.ready/\r.pending=none/\Sl 193 4 wv (cbs (Aes.keyW xs n).flatten) Hs/\H'=(l,.loop r)::(D,.deferred (some []))::(b_,cl [.pointer (some ⟨bc,0,none⟩)] 83)::(bc,pY b wv (.int .i64 ((n+6:Nat):Int)))::(b,gK)::Hs) rfl ?ht hw' ?hk
 case ht=>
  intro D l rec hr1 hr2 hr3 hr4 hr5 hfit;refine Tri.perm' (Hd:=(bs,cl [.slice (some ⟨kb,ko,none⟩) len cap] 186)::(bn,cl [.int .i64 (4:Nat)] 3)::[(l,.loop rec),(D,.deferred (some [])),(b_,cl [.pointer (some ⟨bc,0,none⟩)] 83),(bc,pY b (.slice none 0 0) (.int .i64 ((n+6:Nat):Int))),(b,gK)])
   ((aJ3 (n:=4) xs dQ dQ oQ (fun k Hk=>∃ wv Hs,Sl 193 4 wv (cbs (Aes.keyW xs k).flatten) Hs/\Hk=(l,.loop rec)::(D,.deferred (some []))::(b_,cl [.pointer (some ⟨bc,0,none⟩)] 83)::(bc,pY b wv (.int .i64 ((n+6:Nat):Int)))::(b,gK)::Hs) (fun _=>False) _ ⟨_,[],Sl.nil _ _,rfl⟩ ?_).mono ?_)
  ·rintro k Hk hk ⟨wv,Hs,hS,rfl⟩;have hmin:min 4 (len-4*k)=4:=oQ;rw [hmin];refine Rnd.mk hr3 hfit rfl fun w2 hw2=>?_;rw [hr4,hr5];refine aID ?_;refine W.i ?_;refine aB5.mk hr1 ?_;refine SR.block ?_;have hr:=hw2.sub (4*k) (4*k+4) 4 oQ oQ oQ;rw [show 4*k+4-4*k=4 by omega] at hr;obtain⟨y,hy⟩:∃ y,(xs.drop (4*k)).take 4=y:=⟨_,rfl⟩;have hy4:y.length=4:=by rw [<-hy,aH,bG];omega
   rw [hy] at hr;obtain⟨a',len',cap',he,h1,h2,h3⟩:=hr;cases he;obtain⟨pb,po,lv,T,fz,he2,hb,hkk,hv⟩:=h3.resolve_left oQ;cases he2;rw [Nat.mul_one] at hv;have hc:(cbs y).length=4:=by rw [aI,hy4]
   have hb41:=b4 hy4;have hS1:=hS.isOne;have hfl:=dH (n:=4) (L:=Aes.keyW xs k) (fun x hx=>Aes.keyW_four (x:=xs) (k:=k) oQ x hx);rw [Aes.keyW_len] at hfl;(refine aGH [12] ?_ kQ;refine SG.l [0,1,2,3,4,5] ?_;refine dS 6 rfl (aNu rfl rfl oQ) ?_;refine SG.l [7] ?_;refine aX 8 ?_);refine iQ fun b4=>?_;(refine bB [] ?_;refine aX 9 ?_);refine W.ap (ys:=cbs y) (mm:=1) hS (fun w2 hs=>(Sl.own 193 4 b4 (xs:=cbs y) hc).srcAt hs inferInstance) (fun v3 H3 h3=>?_) (hys:=hc) (hbytes:=by rw [hc,aI,hfl];omega);have h31:=h3.isOne;rw [show cbs (Aes.keyW xs k).flatten++cbs y=cbs (Aes.keyW xs k++[y]).flatten by simp,<-hy,<-Aes.keyW_succ] at h3;(refine SL.l [10,11] ?_;refine bL 12 ?_;refine W.i ?_;refine SS.dn ?_);rw [List.set_cons_succ,fR];refine vU.mkB ((D,.deferred (some []))::(b_,cl [.pointer (some ⟨bc,0,none⟩)] 83)::(bc,pY b v3 (.int .i64 ((n+6:Nat):Int)))::(b,gK)::H3) ?_;rw [Loop.back hr1 hr2];exact .inl ⟨rfl,v3,H3,h3,rfl⟩
  rintro v H' ⟨rfl,(⟨k,hk1,hk2,wv,Hs,hS,rfl⟩|h)⟩
  ·have hkn:k=n:=oQ;subst hkn;exact⟨rec,wv,Hs,hr1,hr2,hS,rfl⟩
  exact h.elim
 case hk=>
  rintro D l v H' ⟨r,wv,Hs,hr1,hr2,hS,rfl⟩;refine⟨r,_,.refl _,by rw [hr1];decide,?_⟩;rw [hr2];refine zR.onB ?_;show SX (RF none) _ ⟨80,[b],w,mk1 D⟩ _ _ _ _;refine aPz (Q:=aGC prog { n:=80,K:=[b],w0:=w,ds:=mk1 D } D Tryz.f27 (fun v H=>∃ c Hc,v=.tuple #[.pointer (some ⟨c,0,none⟩),.int .i64 0]/\aD4 c b (xs.length/4+6) (Aes.sched xs) Hc/\H=Hc++[(b,gK)])) ?_ (aGC.toEnd rfl);have hk4:∀ y∈Aes.keyW xs n,y.length=4:=Aes.keyW_four oQ;have hkl:=Aes.keyW_len xs n;refine W.j ?_;refine bP [4,5,7] ((bc,pY b wv (.int .i64 ((n+6:Nat):Int)))::(b,gK)::Hs) (fun _:Value×Hp=>[]) (fun s=>(bc,pY b s.1 (.int .i64 ((n+6:Nat):Int)))::(b,gK)::s.2) (fun s=>Sl 193 4 s.1 (cbs (Aes.sched xs).flatten) s.2) ?_ ?_
  ·refine W.k ?_;refine bE [4,5,6,7] (fun s:Nat×Value×Hp=>[(9,.int .i64 ((n+s.1:Nat):Int))]) (fun s=>(b_,cl [.pointer (some ⟨bc,0,none⟩)] 83)::(bc,pY b s.2.1 (.int .i64 ((n+6:Nat):Int)))::(b,gK)::s.2.2) (fun s=>3*n+28-s.1)
    (fun s=>s.1<=3*n+28/\Sl 193 4 s.2.1 (cbs (Aes.grow n (Aes.keyW xs n) s.1).flatten) s.2.2) (0,wv,Hs) ⟨Nat.zero_le _,hS⟩ ?_
   rintro⟨m,wv2,H2⟩ ⟨hm,hS2⟩;dsimp only at hm hS2 |-;have hS21:=hS2.isOne;by_cases h:m<3*n+28
   ·obtain⟨ws,hws⟩:∃ ws,Aes.grow n (Aes.keyW xs n) m=ws:=⟨_,rfl⟩;have hl1:ws.length=n+m:=by rw [<-hws,Aes.grow_len,hkl]
    have hw4:W4 ws:=by rw [<-hws];exact Aes.grow_four oQ hk4 oQ m
    have hsucc:Aes.grow n (Aes.keyW xs n) (m+1)=ws++[Aes.xor4 (ws.getD m []) (Aes.nextW (ws.getD (n+m-1) []) (n+m) n)]:=by show Aes.grow n (Aes.keyW xs n) m++_=_;rw [hws,hkl,show n+m-n=m by omega]
    rw [hws] at hS2;have hwa:ws[m]?=some (ws.getD m []):=by rw [aE,aA oQ];rfl
    have hwb:ws[n+m-1]?=some (ws.getD (n+m-1) []):=by rw [aE,aA oQ];rfl
    generalize ws.getD m []=wa at *;generalize ws.getD (n+m-1) []=wb at *;have ha4:=hw4 wa (aP hwa);have hb4:=hw4 wb (aP hwb);have hn4:=Aes.nextW_len hb4 (n+m) n;have hx4:(Aes.xor4 wa (Aes.nextW wb (n+m) n)).length=4:=by rw [Aes.xor4_len oQ,ha4]
    have hfl:=dH (n:=4) hw4;have hS0:=hS2;rcases hS2 with ⟨-,h0,-⟩|⟨bw,lw,cw,junk,rfl,g1,g2,g3,rfl⟩
    ·have:(cbs ws.flatten).length=0:=by rw [h0];rfl
     rw [aI,hfl] at this;omega
    have glw:ws.length=lw:=by rw [aI,hfl] at g1;omega
    have hg:=nD (junk:=junk) hw4 hwa;haveI:eB (((n+m:Nat):Int)-(n:Int)) m:=⟨oQ⟩;have hca:(cbs wa).length=4:=by rw [aI,ha4]
    have hcx:(cbs (Aes.xor4 wa (Aes.nextW wb (n+m) n))).length=4:=by rw [aI,hx4]
    have hbx:=b4 hx4;refine W.k ?_;(refine SW.l [23] [0,1,2,3,4,5,6,7,8,9,10,11,12,14,15,16] ?_;skip );have hcall:=aLX (bw:=bw) (junk:=junk) (c:=bc) (b:=b) (r:=.int .i64 ((n+6:Nat):Int)) ws hw4 glw g3 wb (n+m) n oQ oQ oQ oQ hwb;refine iV 13 17 ?a ?b rfl rfl;case' a=>
     refine W.zl ?_;refine dU ?_;refine aX 17 ?_;refine W.cq hcall ?_
    case' b=>
     refine W.cq hcall ?_;refine dU ?_;refine aX 13 ?_;refine W.zl ?_
    all_goals
     (refine bB [] ?_;refine aX 18 ?_);refine W.cq (aN2 wa _ ha4 hn4) ?_;(refine bB [] ?_;refine aX 19 ?_);refine iQ fun b4=>?_;(refine bB [] ?_;refine aX 20 ?_);refine W.ap (ys:=cbs (Aes.xor4 wa (Aes.nextW wb (n+m) n))) (mm:=1) hS0 (fun w2 hs=>(Sl.own 193 4 b4 (xs:=cbs (Aes.xor4 wa (Aes.nextW wb (n+m) n))) hcx).srcAt hs inferInstance) (fun v3 H3 h3=>?_) (hys:=hcx) (hbytes:=by rw [hcx,aI,hfl];omega);have h31:=h3.isOne;rw [show cbs ws.flatten++cbs (Aes.xor4 wa (Aes.nextW wb (n+m) n))=cbs (ws++[Aes.xor4 wa (Aes.nextW wb (n+m) n)]).flatten by simp,<-hsucc] at h3;(refine SL.l [21,22] ?_;refine bL 23 ?_;refine W.i ?_;refine SS.dn ?_);refine W.k ?_;rw [show ((n+m:Nat):Int)+1=((n+(m+1):Nat):Int) by omega];rw [List.set_cons_succ,fR];refine aN.mk (m+1,v3,H3) ?_;exact⟨by dsimp only;omega,h3⟩
   have:m=3*n+28:=oQ;subst this;refine W.k ?_;refine bS.mk (wv2,H2) ?_;have e:Aes.sched xs=Aes.grow n (Aes.keyW xs n) (3*n+28):=by unfold Aes.sched;rw [hn]
   rw [e];exact hS2
  rintro⟨wv2,H2⟩ hS2;dsimp only at hS2 |-;have hS21:=hS2.isOne;refine W.k ?_;refine aGC.mk ?_;refine Fin.to ((bc,pY b wv2 (.int .i64 ((n+6:Nat):Int)))::H2++[(b,gK)]) ?_;exact F.f2 ⟨bc,_,rfl,⟨wv2,H2,hS2,by rw [hn]⟩,rfl⟩
end
end Go.Proofs.YtdfclocfackkmaaGreat
