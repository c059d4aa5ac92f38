/- A register beside a device: Set; and the example of chapter 9. -/
import Derived.Test.YtnigolgkkjidiaaGreatPm18
import Derived.Test.YtnigolgkkjidiaaGreatPm4
import Derived.Test.YtnigolgkkjidiaaGreatPm1
set_option linter.unusedVariables false
set_option linter.unusedSimpArgs false
set_option linter.unusedSectionVars false
namespace Go.Proofs.YtnigolgkkjidiaaGreat
open Go
attribute [local irreducible] SW SL SQ SH SA Pu Fin
def setD(σ:Dv)(r r':Rg):Dv:=if σ.down=true then σ else if r'.c≤r.c then σ else σ.doo
def setR(σ:Dv)(r r':Rg):Rg:=if σ.down=true then r else if r'.c≤r.c then r else if σ.dooE=0 then r' else r
def setE(σ:Dv)(r r':Rg):Int:=if σ.down=true then 8 else if r'.c≤r.c then 3 else σ.dooE
theorem set_p(tp p:Nat)(r r':Rg)(h:r.Ok)(h':r'.Ok){σ:Dv}{H:Hp}(hD:DevP p σ H):Tri Tryz.prog 125 [.pointer (some ⟨tp,0,none⟩),.agg (rgc r').toArray] ((tp,cl (trc p r) 225)::H) (fun _=>True)
  (fun v H'=>v=.int .i64 (setE σ r r')∧∃ H2,H'=(tp,cl (trc p (setR σ r r')) 225)::H2∧DevP p (setD σ r r') H2):=by
 obtain⟨f1,f2,f3,f4,f5,f6⟩:=trc_facts p h
 have hl':=rgc_len h'
 have hr':((rgc r').drop 0).take 33=rgc r':=by rw [List.drop_zero,List.take_of_length_le (by omega)]
 have fp:=trc_put p h h'
 have hdn:=ndown_p hD
 have hdo:=doo_p hD
 have b1:0+0+33≤(trc p r).length:=by omega
 refine Tri.mk Tryz.func125 rfl Tryz.ntmps125 rfl fun w hw=>?_
 repeat' (refine W.ow ?_;try intro b_)
 refine SL.callv H rfl rfl rfl rfl rfl rfl hdn (fun _ _=>trivial) ?_
 rintro _ Hx ⟨rfl,rfl⟩
 cases hd:σ.down
 ·repeat' (first|(refine SL.isGd ?_;refine SL.sk rfl rfl ?_)|(refine SL.isMove ?_;refine SL.pu (p_move rfl rfl) rfl rfl ?_)|(refine SL.isAssign ?_;refine SL.pu (p_assign rfl rfl) rfl rfl ?_)|(refine SL.isNil ?_;refine SL.pu (p_nil rfl rfl) rfl rfl ?_)|(refine SL.isFldA ?_;refine SL.pu (p_fieldAddr rfl rfl rfl) rfl rfl ?_)|(refine SL.isLoad ?_;(first|refine SL.pu (p_load_s rfl rfl rfl) rfl rfl ?_|refine SL.pu (p_load_s rfl rfl (by assumption)) rfl rfl ?_|refine SL.pu (p_load_a rfl rfl rfl rfl) rfl rfl ?_|refine SL.pu (p_load_a rfl rfl (by assumption) (by assumption)) rfl rfl ?_))|(refine SL.isCallB ?_;(first|refine SL.pu (p_len_slice rfl rfl) rfl rfl ?_|refine SL.pu (p_len_str rfl rfl) rfl rfl ?_|refine SL.pu (p_len_arr rfl rfl) rfl rfl ?_|refine SL.pu (p_cap_slice rfl rfl) rfl rfl ?_|refine SL.pu (p_max rfl rfl rfl rfl) rfl rfl ?_|refine SL.pu (p_min rfl rfl rfl rfl) rfl rfl ?_))|(refine SL.isPick ?_;(first|refine SL.pu (p_pick_t rfl rfl rfl) rfl rfl ?_|refine SL.pu (p_pick_f rfl rfl rfl) rfl rfl ?_))|(refine SL.isMkFn ?_;refine SL.pu (p_makeFunc rfl rfl rfl) rfl rfl ?_)|(refine SL.isUn ?_;refine SL.pu (p_not rfl rfl) rfl rfl ?_)|(refine SL.isBuild ?_;(first|refine SL.pu (p_build rfl rfl (by rfl)) rfl rfl ?_|refine SL.pu (p_build_arr rfl rfl (by rfl)) rfl rfl ?_))|(refine SL.isFld ?_;(first|refine SL.pu (p_field rfl rfl rfl) rfl rfl ?_|refine SL.pu (p_field rfl rfl (by assumption)) rfl rfl ?_|refine SL.pu (p_field_a rfl rfl rfl) rfl rfl ?_))|(refine SL.b_add ?_;refine SL.pu (p_add rfl rfl rfl (w64 (by omega))) rfl rfl ?_)|(refine SL.b_sub ?_;refine SL.pu (p_sub rfl rfl rfl (w64 (by omega))) rfl rfl ?_)|(refine SL.b_mul ?_;refine SL.pu (p_mul rfl rfl rfl (w64 (by omega))) rfl rfl ?_)|(refine SL.b_quo ?_;refine SL.pu (p_quo rfl rfl rfl (by decide) (w64 (by omega))) rfl rfl ?_)|(refine SL.b_rem ?_;refine SL.pu (p_rem rfl rfl rfl (by decide) rfl) rfl rfl ?_)|(refine SL.b_lss ?_;(first|refine SL.pu (Pu.t (p_lss rfl rfl rfl) (by omega)) rfl rfl ?_|refine SL.pu (Pu.f (p_lss rfl rfl rfl) (by omega)) rfl rfl ?_|refine SL.cmp (p_lss rfl rfl rfl) rfl rfl (fun h_=>?_) (fun h_=>?_)))|(refine SL.b_leq ?_;(first|refine SL.pu (Pu.t (p_leq rfl rfl rfl) (by omega)) rfl rfl ?_|refine SL.pu (Pu.f (p_leq rfl rfl rfl) (by omega)) rfl rfl ?_|refine SL.cmp (p_leq rfl rfl rfl) rfl rfl (fun h_=>?_) (fun h_=>?_)))|(refine SL.b_gtr ?_;(first|refine SL.pu (Pu.t (p_gtr rfl rfl rfl) (by omega)) rfl rfl ?_|refine SL.pu (Pu.f (p_gtr rfl rfl rfl) (by omega)) rfl rfl ?_|refine SL.cmp (p_gtr rfl rfl rfl) rfl rfl (fun h_=>?_) (fun h_=>?_)))|(refine SL.b_geq ?_;(first|refine SL.pu (Pu.t (p_geq rfl rfl rfl) (by omega)) rfl rfl ?_|refine SL.pu (Pu.f (p_geq rfl rfl rfl) (by omega)) rfl rfl ?_|refine SL.cmp (p_geq rfl rfl rfl) rfl rfl (fun h_=>?_) (fun h_=>?_)))|(refine SL.b_eql ?_;(first|refine SL.pu (p_eqnil rfl rfl rfl) rfl rfl ?_|refine SL.pu (p_eqslnil rfl rfl rfl) rfl rfl ?_|refine SL.pu (Pu.t (p_eql rfl rfl rfl) (by omega)) rfl rfl ?_|refine SL.pu (Pu.f (p_eql rfl rfl rfl) (by omega)) rfl rfl ?_|refine SL.cmp (p_eql rfl rfl rfl) rfl rfl (fun h_=>?_) (fun h_=>?_)))|(refine SL.b_neq ?_;(first|refine SL.pu (p_nenil rfl rfl rfl) rfl rfl ?_|refine SL.pu (p_neslnil rfl rfl rfl) rfl rfl ?_|refine SL.pu (Pu.t (p_neq rfl rfl rfl) (by omega)) rfl rfl ?_|refine SL.pu (Pu.f (p_neq rfl rfl rfl) (by omega)) rfl rfl ?_|refine SL.cmp (p_neq rfl rfl rfl) rfl rfl (fun h_=>?_) (fun h_=>?_)))|(refine SL.isBox ?_;(first|refine SL.box rfl rfl rfl rfl (fun b_=>?_)|refine SL.box_a rfl rfl rfl rfl (fun b_=>?_)))|(refine SL.isAlloc ?_;refine SL.alloc rfl rfl rfl (fun b_=>?_))|(refine SL.isStore ?_;(first|refine SL.store rfl rfl rfl rfl rfl (by first|assumption|exact Nat.le_of_ble_eq_true rfl) ?_|refine SL.store_w rfl rfl rfl rfl rfl (by first|assumption|rfl) (by rfl) ?_|refine SL.store_a rfl rfl rfl rfl rfl (by first|rfl|assumption) (by first|assumption|exact Nat.le_of_ble_eq_true rfl) (by first|assumption|rfl) ?_))|refine SL.nil ?_|refine SW.seq ?_|refine SW.region ?_|refine SW.block ?_|refine SW.cond_t rfl ?_|refine SW.cond_f rfl ?_|refine SW.ret ?_|refine SW.skip ?_|refine SW.exit ?_|refine SW.cond_b rfl (fun h_=>?_) (fun h_=>?_)|refine SW.regionQ Tryz.mixed (by kernel_rfl) ?_|(refine SQ.isGd ?_;refine SQ.sk rfl rfl ?_)|(refine SQ.isMove ?_;refine SQ.pu (p_move rfl rfl) rfl rfl ?_)|(refine SQ.isAssign ?_;refine SQ.pu (p_assign rfl rfl) rfl rfl ?_)|(refine SQ.isNil ?_;refine SQ.pu (p_nil rfl rfl) rfl rfl ?_)|(refine SQ.isFldA ?_;refine SQ.pu (p_fieldAddr rfl rfl rfl) rfl rfl ?_)|(refine SQ.isLoad ?_;(first|refine SQ.pu (p_load_s rfl rfl rfl) rfl rfl ?_|refine SQ.pu (p_load_s rfl rfl (by assumption)) rfl rfl ?_|refine SQ.pu (p_load_a rfl rfl rfl rfl) rfl rfl ?_|refine SQ.pu (p_load_a rfl rfl (by assumption) (by assumption)) rfl rfl ?_))|(refine SQ.isCallB ?_;(first|refine SQ.pu (p_len_slice rfl rfl) rfl rfl ?_|refine SQ.pu (p_len_str rfl rfl) rfl rfl ?_|refine SQ.pu (p_len_arr rfl rfl) rfl rfl ?_|refine SQ.pu (p_cap_slice rfl rfl) rfl rfl ?_|refine SQ.pu (p_max rfl rfl rfl rfl) rfl rfl ?_|refine SQ.pu (p_min rfl rfl rfl rfl) rfl rfl ?_))|(refine SQ.isPick ?_;(first|refine SQ.pu (p_pick_t rfl rfl rfl) rfl rfl ?_|refine SQ.pu (p_pick_f rfl rfl rfl) rfl rfl ?_))|(refine SQ.isMkFn ?_;refine SQ.pu (p_makeFunc rfl rfl rfl) rfl rfl ?_)|(refine SQ.isUn ?_;refine SQ.pu (p_not rfl rfl) rfl rfl ?_)|(refine SQ.isBuild ?_;(first|refine SQ.pu (p_build rfl rfl (by rfl)) rfl rfl ?_|refine SQ.pu (p_build_arr rfl rfl (by rfl)) rfl rfl ?_))|(refine SQ.isFld ?_;(first|refine SQ.pu (p_field rfl rfl rfl) rfl rfl ?_|refine SQ.pu (p_field rfl rfl (by assumption)) rfl rfl ?_|refine SQ.pu (p_field_a rfl rfl rfl) rfl rfl ?_))|(refine SQ.b_add ?_;refine SQ.pu (p_add rfl rfl rfl (w64 (by omega))) rfl rfl ?_)|(refine SQ.b_sub ?_;refine SQ.pu (p_sub rfl rfl rfl (w64 (by omega))) rfl rfl ?_)|(refine SQ.b_mul ?_;refine SQ.pu (p_mul rfl rfl rfl (w64 (by omega))) rfl rfl ?_)|(refine SQ.b_quo ?_;refine SQ.pu (p_quo rfl rfl rfl (by decide) (w64 (by omega))) rfl rfl ?_)|(refine SQ.b_rem ?_;refine SQ.pu (p_rem rfl rfl rfl (by decide) rfl) rfl rfl ?_)|(refine SQ.b_lss ?_;(first|refine SQ.pu (Pu.t (p_lss rfl rfl rfl) (by omega)) rfl rfl ?_|refine SQ.pu (Pu.f (p_lss rfl rfl rfl) (by omega)) rfl rfl ?_|refine SQ.cmp (p_lss rfl rfl rfl) rfl rfl (fun h_=>?_) (fun h_=>?_)))|(refine SQ.b_leq ?_;(first|refine SQ.pu (Pu.t (p_leq rfl rfl rfl) (by omega)) rfl rfl ?_|refine SQ.pu (Pu.f (p_leq rfl rfl rfl) (by omega)) rfl rfl ?_|refine SQ.cmp (p_leq rfl rfl rfl) rfl rfl (fun h_=>?_) (fun h_=>?_)))|(refine SQ.b_gtr ?_;(first|refine SQ.pu (Pu.t (p_gtr rfl rfl rfl) (by omega)) rfl rfl ?_|refine SQ.pu (Pu.f (p_gtr rfl rfl rfl) (by omega)) rfl rfl ?_|refine SQ.cmp (p_gtr rfl rfl rfl) rfl rfl (fun h_=>?_) (fun h_=>?_)))|(refine SQ.b_geq ?_;(first|refine SQ.pu (Pu.t (p_geq rfl rfl rfl) (by omega)) rfl rfl ?_|refine SQ.pu (Pu.f (p_geq rfl rfl rfl) (by omega)) rfl rfl ?_|refine SQ.cmp (p_geq rfl rfl rfl) rfl rfl (fun h_=>?_) (fun h_=>?_)))|(refine SQ.b_eql ?_;(first|refine SQ.pu (p_eqnil rfl rfl rfl) rfl rfl ?_|refine SQ.pu (p_eqslnil rfl rfl rfl) rfl rfl ?_|refine SQ.pu (Pu.t (p_eql rfl rfl rfl) (by omega)) rfl rfl ?_|refine SQ.pu (Pu.f (p_eql rfl rfl rfl) (by omega)) rfl rfl ?_|refine SQ.cmp (p_eql rfl rfl rfl) rfl rfl (fun h_=>?_) (fun h_=>?_)))|(refine SQ.b_neq ?_;(first|refine SQ.pu (p_nenil rfl rfl rfl) rfl rfl ?_|refine SQ.pu (p_neslnil rfl rfl rfl) rfl rfl ?_|refine SQ.pu (Pu.t (p_neq rfl rfl rfl) (by omega)) rfl rfl ?_|refine SQ.pu (Pu.f (p_neq rfl rfl rfl) (by omega)) rfl rfl ?_|refine SQ.cmp (p_neq rfl rfl rfl) rfl rfl (fun h_=>?_) (fun h_=>?_)))|refine SQ.nil ?_)
  ·exact Fin.rm b_ (Fin.perm List.perm_append_comm (Fin.s1 (.inl rfl) rfl rfl ⟨by simp [setE,hd,h_],Hx,by simp [setR,hd,h_],by simpa [setD,hd,h_] using hD⟩))
  ·repeat' (refine W.ow ?_;try intro b_)
   refine SL.callv Hx rfl rfl rfl rfl rfl rfl hdo (fun _ _=>trivial) ?_
   rintro _ H2 ⟨rfl,hD2⟩
   have hD3:DevP p (setD σ r r') H2:=by simpa [setD,hd,h_] using hD2
   by_cases he:σ.dooE=0
   ·repeat' (refine W.ow ?_;try intro b_)
    refine Fin.rm b_ (Fin.perm List.perm_append_comm (Fin.s1 (.inl rfl) rfl rfl ⟨by simp [setE,hd,h_,he],H2,by simp [setR,hd,h_,he],hD3⟩))
   ·repeat' (refine W.ow ?_;try intro b_)
    refine Fin.rm b_ (Fin.perm List.perm_append_comm (Fin.s1 (.inl rfl) rfl rfl ⟨by simp [setE,hd,h_],H2,by simp [setR,hd,h_,he],hD3⟩))
 ·repeat' (refine W.ow ?_;try intro b_)
  exact Fin.rm b_ (Fin.perm List.perm_append_comm (Fin.s1 (.inl rfl) rfl rfl ⟨by simp [setE,hd],Hx,by simp [setR,hd],by simpa [setD,hd] using hD⟩))
end Go.Proofs.YtnigolgkkjidiaaGreat
namespace Go.Proofs.YtnigolgkkjidiaaGreat
open Go
attribute [local irreducible] SW SL SQ SH SA SS Pu Fin
def rtc(e:Nat)(r:Rg):List Value:=rgc r++[.pointer (some ⟨e,0,none⟩)]
theorem rtc_facts(e:Nat){r:Rg}(h:r.Ok):((rtc e r).drop 0).take 33=rgc r∧(rgc r).length=33∧(rtc e r)[33]?=some (.pointer (some ⟨e,0,none⟩))∧(rtc e r)[0]?=some (.int .u64 r.c)∧(rtc e r).length=34∧((rtc e r).drop 1).take 32=r.root.map bv:=by
 have hl:=rgc_len h
 refine⟨?_,hl,?_,rfl,by simp [rtc,hl],?_⟩
 ·rw [rtc,List.drop_zero,List.take_left' hl]
 ·rw [rtc,List.getElem?_append_right (by omega),hl];rfl
 ·show ((r.root.map bv++_).take 32)=_
  rw [List.take_left' (by simpa using h.len)]
theorem rtc_put(e:Nat){r r':Rg}(h:r.Ok)(h':r'.Ok):(rtc e r).take 0++rgc r'++(rtc e r).drop (0+33)=rtc e r':=by
 rw [rtc,List.take_zero,List.nil_append,List.drop_left' (by rw [rgc_len h])];rfl
theorem rset_p(tp p:Nat)(r r':Rg)(h:r.Ok)(h':r'.Ok){σ:Dv}{H:Hp}(hD:DevR p σ H):Tri Tryz.prog 203 [.pointer (some ⟨tp,0,none⟩),.agg (rgc r').toArray] ((tp,cl (rtc p r) 128)::H) (fun _=>True)
  (fun v H'=>v=.int .i64 (setE σ r r')∧∃ H2,H'=(tp,cl (rtc p (setR σ r r')) 128)::H2∧DevR p (setD σ r r') H2):=by
 obtain⟨f1,f2,f3,f4,f5,f6⟩:=rtc_facts p h
 have hl':=rgc_len h'
 have hr':((rgc r').drop 0).take 33=rgc r':=by rw [List.drop_zero,List.take_of_length_le (by omega)]
 have fp:=rtc_put p h h'
 have hdo:=rdoo_p hD
 have hD2:=hD
 have b1:0+33≤(rtc p r).length:=by omega
 obtain⟨hO,bl,bn,bp,bm,vp,va,Hq,Ha,h1,h2,rfl⟩:=hD2
 refine Tri.mk Tryz.func203 rfl Tryz.ntmps203 rfl fun w hw=>?_
 repeat' (first|(refine W.go ?_;try intro b_)|fail)
 cases hd:σ.down
 ·rw [hd] at hdo
  repeat' (first|(refine W.go ?_;try intro b_)|fail)
  (refine SW.regionS [] ?_ (by kernel_rfl);refine SS.tw 0 rfl (p_fieldAddr rfl rfl OfN.ok) ?_;(first|refine SS.ls 1 [] rfl ?_|refine SS.sR 1 rfl ?_);refine SS.tw 2 rfl (p_move rfl rfl) ?_;refine SS.tw 3 rfl (p_nil rfl rfl) ?_;refine SS.tw 4 rfl (p_fieldAddr rfl rfl OfN.ok) ?_;refine SS.tw 5 rfl (p_fieldAddr rfl rfl OfN.ok) ?_;(first|refine SS.ls 6 [] rfl ?_|refine SS.sR 6 rfl ?_);(first|refine SS.tw 7 rfl (Pu.t (p_cmp rfl rfl rfl rfl) (by dsimp only [cmpP];first|done|omega)) ?_|refine SS.tw 7 rfl (Pu.f (p_cmp rfl rfl rfl rfl) (by dsimp only [cmpP];first|done|omega)) ?_|refine SS.tw 7 rfl (p_cmp rfl rfl rfl rfl) ?_|refine SS.tw 7 rfl (p_neb rfl rfl rfl) ?_);refine SS.done ?_ (by kernel_rfl))
  repeat' (first|(refine W.go ?_;try intro b_)  | (refine W.cs (fun h_=>?_) (fun h_=>?_) <;> dsimp only [cmpP] at h_)|(refine SW.cond_d rfl (fun h_=>?_) (fun h_=>?_) <;> (try dsimp only [cmpP] at h_))|refine SW.cond_b rfl (fun h_=>?_) (fun h_=>?_))
  ·refine Fin.rm b_ ?_
   refine F.f1 ?_
   exact⟨by simp [setE,hd,h_],_,by simp [setR,hd,h_];rfl,by simpa [setD,hd,h_] using hD⟩
  ·refine W.call hdo ?_
   rintro _ H2 ⟨rfl,hD2⟩
   have hD3:DevR p (setD σ r r') H2:=by simpa [setD,hd,h_] using hD2
   by_cases he:σ.dooE=0
   ·repeat' (first|(refine W.go ?_;try intro b_)|fail)
    refine Fin.rm b_ ?_;rw [fp];refine Fin.perm List.perm_append_comm ?_;refine F.f1 ?_;exact⟨by simp [setE,hd,h_,he],H2,by simp [setR,hd,h_,he],hD3⟩
   ·repeat' (first|(refine W.go ?_;try intro b_)|fail)
    refine Fin.rm b_ ?_;refine Fin.perm List.perm_append_comm ?_;refine F.f1 ?_;exact⟨by simp [setE,hd,h_],H2,by simp [setR,hd,h_,he],hD3⟩
 ·rw [hd] at hdo
  repeat' (first|(refine W.go ?_;try intro b_)|fail)
  refine Fin.rm b_ ?_;refine F.f1 ?_;exact⟨by simp [setE,hd],_,by simp [setR,hd];rfl,by simpa [setD,hd] using hD⟩
end Go.Proofs.YtnigolgkkjidiaaGreat
