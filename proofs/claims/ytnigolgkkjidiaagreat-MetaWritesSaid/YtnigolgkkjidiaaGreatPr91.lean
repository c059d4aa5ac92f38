/- A Meta's blocks, or that there are none, are as the document says, and are parsed as it was: the statement 'garderobelaw22.MetaWrites', of every input. -/
import Derived.Test.YtnigolgkkjidiaaGreatRows
import Derived.Test.YtnigolgkkjidiaaGreatPr27
import Derived.Test.YtnigolgkkjidiaaGreatPr28
import Derived.Test.YtnigolgkkjidiaaGreatPr41
set_option linter.unusedVariables false
set_option maxHeartbeats 1000000
namespace Go.Proofs.YtnigolgkkjidiaaGreat
open Go.ChangeShapes Go.WideShapes Go.ChangeAt Go.RowKit
theorem Tryz.ownW:ownKnob Tryz.prog.godebug=none:=by kernel_rfl
theorem Tryz.laidOutW:laidOutB Tryz.prog=true:=by kernel_rfl
set_option maxRecDepth 100000 in
theorem zS(os:Os)(started:os.Started)(H:Type)(enc:TypeId×Value→H) :
  ReturnsInHanded {} Tryz.checked os 7 .any (Rows.metaWritesSpec.pre6 enc Tryz.prog Tryz.f7 Rows.metaWritesRow.domain false) (Rows.metaWritesSpec.post enc Tryz.prog Tryz.f7 false true false false):=by
 refine returnsInHanded_of_change (C:=Tryz.checked) Tryz.ownW started (by kernel_rfl) Tryz.func7
  (ChangeSpec.witness6 (enc:=enc) (C:=Tryz.checked) false ⟨#[],#[.agg #[.int .i64 0,.int .i64 0],.agg (bF 0 (List.replicate 16 0) (.slice none 0 0)).toArray,.bool false],[]⟩ 8 (by kernel_rfl) (by kernel_rfl) (by kernel_rfl) (by kernel_rfl)) ?_
 intro W base args ds gs before hval0 hW hcnd _
 have hval:∀ (j:Nat) t v,Tryz.f7.params[j]?=some t→args[j]?=some v→Value.okWide Tryz.prog W .any base t v:=hval0
 have hW':=hW
 obtain⟨p,q,hA0,hV,rfl,hfz,hnd⟩:=hW
 have hA:DataW.TrodAll enc Tryz.prog W 0 (fun _=>true) true Tryz.f7.params.toList args.toList ds p:=hA0
 rw [Tryz.params7] at hA hval
 obtain⟨v0,v1,v2,d0,d1,d2,p0,p1,p2,rfl,rfl,rfl,h0,h1,h2⟩:=trodAll_three hA
 obtain⟨P,T,rfl⟩:=aFb (hval 0 _ v0 rfl rfl)
 obtain⟨n,l,a,len,cap,ps,rfl,hl,hr,hn,hu,hser⟩:=aB1 (hval 1 _ v1 rfl rfl) h1
 obtain⟨full,rfl⟩:=aDd Tryz.underlying4 (hval 2 _ v2 rfl rfl)
 exact aCX (vs:=[_,_,_]) (aEl aCU P T n l hl hn hu ps hser a len cap full) hr Tryz.laidOutW (by rw [Tryz.params7];decide +kernel) rfl hW' (by kernel_rfl) Tryz.underlying4 rfl
theorem Tryz.mapsRW:mapsRowed Tryz.prog=true:=by kernel_rfl
theorem Tryz.plainKW:(Rows.metaWritesRow.plainKeys == Tryz.prog.plainKeys)=true:=by kernel_rfl
theorem Tryz.liftsW:(Rows.metaWritesRow.lifted == Tryz.prog.liftsFinal)=true:=by kernel_rfl
theorem Tryz.madeW:(Tryz.prog.make == some Rows.metaWritesRow.make)=true:=by kernel_rfl
theorem Tryz.entersW:(Rows.metaWritesRow.shortTexts.isNone&&Tryz.prog.stopsHeard&&Tryz.prog.mayEnter)=true:=by kernel_rfl
theorem aCD:(Rows.metaWritesRow.inPlace == Tryz.prog.inPlace 7)=true:=by kernel_rfl
theorem aCE:(Rows.metaWritesRow.unfollowed == Tryz.prog.unfollowed 7)=true:=by kernel_rfl
theorem aCF:(Rows.metaWritesRow.recurses == Tryz.prog.recurses 7)=true:=by kernel_rfl
theorem aCG:(Rows.metaWritesRow.named == Tryz.prog.varsNamed 7)=true:=by kernel_rfl
theorem zR:joinedFacts Tryz.prog 7 Tryz.f7 Rows.metaWritesSpec Rows.metaWritesRow=true:=
 aET (by kernel_rfl) Tryz.laidOutW Tryz.mapsRW (by kernel_rfl) aCD aCE aCF aCG (by kernel_rfl) Tryz.plainKW Tryz.entersW Tryz.liftsW Tryz.madeW (by kernel_rfl)
theorem metaWrites_holds:Rows.MetaWritesSaid:=
 OpenClaim.holds_of_wide 7 Tryz.f7 rfl rfl rfl rfl rfl rfl rfl ⟨rfl,rfl,rfl,rfl,rfl⟩ rfl rfl rfl rfl rfl (by kernel_rfl) Tryz.func7 zR
  (of_decide_eq_true (by kernel_rfl)) (by unfold Func.isWrapper;rw [if_neg (by decide +kernel)];exact⟨rfl,rfl⟩)
  (fun os started H enc _=>zS os started H enc)
end Go.Proofs.YtnigolgkkjidiaaGreat
