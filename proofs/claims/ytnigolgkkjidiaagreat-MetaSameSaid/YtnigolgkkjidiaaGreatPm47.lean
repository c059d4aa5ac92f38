/- Two Metas are the same just if all is: the statement 'garderobelaw22.MetaSame', of every input. -/
import Derived.Test.YtnigolgkkjidiaaGreatRows
import Derived.Test.YtnigolgkkjidiaaGreatPm45
import Derived.Test.YtnigolgkkjidiaaGreatPm39
import Derived.Test.YtnigolgkkjidiaaGreatPm0
set_option linter.unusedVariables false
set_option linter.unusedSimpArgs false
set_option linter.unusedSectionVars false
set_option maxHeartbeats 1000000
namespace Go.Proofs.YtnigolgkkjidiaaGreat
open Go.ChangeShapes Go.WideShapes Go.ChangeAt Go.RowKit
theorem Tryz.own:ownKnob Tryz.prog.godebug=none:=by kernel_rfl
theorem Tryz.laidOut:laidOutB Tryz.prog=true:=by kernel_rfl
set_option maxRecDepth 100000 in
theorem metaSame_lifted(os:Os)(started:os.Started)(H:Type)(enc:TypeId×Value→H) :
  ReturnsInHanded {} Tryz.checked os 8 .any (Rows.metaSameSpec.pre6 enc Tryz.prog Tryz.f8 Rows.metaSameRow.domain false) (Rows.metaSameSpec.post enc Tryz.prog Tryz.f8 false true false false):=by
 refine returnsInHanded_of_change (C:=Tryz.checked) Tryz.own started (by kernel_rfl) Tryz.func8
  (ChangeSpec.witness6 (enc:=enc) (C:=Tryz.checked) false ⟨#[],#[.agg (metaC 0 (List.replicate 16 0) (.slice none 0 0)).toArray,.agg (metaC 0 (List.replicate 16 0) (.slice none 0 0)).toArray],[]⟩ 8 (by kernel_rfl) (by kernel_rfl) (by kernel_rfl) (by kernel_rfl)) ?_
 intro W base args ds gs before hval0 hW hcnd _
 have hval:∀ (j:Nat) t v,Tryz.f8.params[j]?=some t→args[j]?=some v→Value.okWide Tryz.prog W .any base t v:=hval0
 have hW':=hW
 obtain⟨p,q,hA0,hV,rfl,hfz,hnd⟩:=hW
 have hA:DataW.TrodAll enc Tryz.prog W 0 (fun _=>true) true Tryz.f8.params.toList args.toList ds p:=hA0
 rw [Tryz.params8] at hA hval
 obtain⟨v0,v1,d0,d1,p0,p1,rfl,rfl,rfl,h0,h1⟩:=trodAll_two hA
 obtain⟨n,l,a,len,cap,ps,rfl,hl,hr⟩:=open_meta (hval 0 _ v0 rfl rfl) h0
 obtain⟨n',l',a',len',cap',ps',rfl,hl',hr'⟩:=open_meta (hval 1 _ v1 rfl rfl) h1
 exact end_calls (vs:=[_,_]) (same22_law n n' l l' hl hl' ps ps' _ _) ⟨hr,hr'⟩ Tryz.laidOut (by rw [Tryz.params8];decide +kernel) rfl hW' (by kernel_rfl) Tryz.underlying4 rfl
theorem Tryz.mapsR:mapsRowed Tryz.prog=true:=by kernel_rfl
theorem Tryz.plainK:(Rows.metaSameRow.plainKeys == Tryz.prog.plainKeys)=true:=by kernel_rfl
theorem Tryz.lifts:(Rows.metaSameRow.lifted == Tryz.prog.liftsFinal)=true:=by kernel_rfl
theorem Tryz.made:(Tryz.prog.make == some Rows.metaSameRow.make)=true:=by kernel_rfl
theorem Tryz.enters:(Rows.metaSameRow.shortTexts.isNone&&Tryz.prog.stopsHeard&&Tryz.prog.mayEnter)=true:=by kernel_rfl
theorem metaSame_k4:(Rows.metaSameRow.inPlace == Tryz.prog.inPlace 8)=true:=by kernel_rfl
theorem metaSame_k5:(Rows.metaSameRow.unfollowed == Tryz.prog.unfollowed 8)=true:=by kernel_rfl
theorem metaSame_k6:(Rows.metaSameRow.recurses == Tryz.prog.recurses 8)=true:=by kernel_rfl
theorem metaSame_k7:(Rows.metaSameRow.named == Tryz.prog.varsNamed 8)=true:=by kernel_rfl
theorem metaSame_closed:joinedFacts Tryz.prog 8 Tryz.f8 Rows.metaSameSpec Rows.metaSameRow=true:=
 facts_of (by kernel_rfl) Tryz.laidOut Tryz.mapsR (by kernel_rfl) metaSame_k4 metaSame_k5 metaSame_k6 metaSame_k7 (by kernel_rfl) Tryz.plainK Tryz.enters Tryz.lifts Tryz.made (by kernel_rfl)
theorem metaSame_holds:Rows.MetaSameSaid:=
 OpenClaim.holds_of_wide 8 Tryz.f8 rfl rfl rfl rfl rfl rfl rfl ⟨rfl,rfl,rfl,rfl,rfl⟩ rfl rfl rfl rfl rfl (by kernel_rfl) Tryz.func8 metaSame_closed
  (of_decide_eq_true (by kernel_rfl)) (by unfold Func.isWrapper;rw [if_neg (by decide +kernel)];exact⟨rfl,rfl⟩)
  (fun os started H enc _=>metaSame_lifted os started H enc)
end Go.Proofs.YtnigolgkkjidiaaGreat
