/- Whatever blocks are parsed, the Meta, or that there is none, is as the document says: the statement 'garderobelaw22.MetaReads', of every input. -/
import Derived.Test.YtnigolgkkjidiaaGreatRows
import Derived.Test.YtnigolgkkjidiaaGreatPr27
import Derived.Test.YtnigolgkkjidiaaGreatPr28
import Derived.Test.YtnigolgkkjidiaaGreatPr41
set_option linter.unusedVariables false
set_option maxHeartbeats 1000000
namespace Go.Proofs.YtnigolgkkjidiaaGreat
open Go.ChangeShapes Go.WideShapes Go.ChangeAt Go.RowKit
theorem Tryz.own:ownKnob Tryz.prog.godebug=none:=by kernel_rfl
theorem Tryz.laidOut:laidOutB Tryz.prog=true:=by kernel_rfl
set_option maxRecDepth 100000 in
theorem aAB(os:Os)(started:os.Started)(H:Type)(enc:TypeId×Value→H) :
  ReturnsInHanded {} Tryz.checked os 6 .any (Rows.metaReadsSpec.pre6 enc Tryz.prog Tryz.f6 Rows.metaReadsRow.domain false) (Rows.metaReadsSpec.post enc Tryz.prog Tryz.f6 false true false false):=by
 refine returnsInHanded_of_change (C:=Tryz.checked) Tryz.own started (by kernel_rfl) Tryz.func6
  (ChangeSpec.witness6 (enc:=enc) (C:=Tryz.checked) false ⟨#[],#[.agg #[.int .i64 0,.int .i64 0],.agg (bF 0 (List.replicate 16 0) (.slice none 0 0)).toArray,.slice none 0 0,.slice none 0 0,.bool false],[]⟩ 8 (by kernel_rfl) (by kernel_rfl) (by kernel_rfl) (by kernel_rfl)) ?_
 intro W base args ds gs before hval0 hW hcnd _
 have hval:∀ (j:Nat) t v,Tryz.f6.params[j]?=some t→args[j]?=some v→Value.okWide Tryz.prog W .any base t v:=hval0
 have hW':=hW
 obtain⟨p,q,hA0,hV,rfl,hfz,hnd⟩:=hW
 have hA:DataW.TrodAll enc Tryz.prog W 0 (fun _=>true) true Tryz.f6.params.toList args.toList ds p:=hA0
 rw [Tryz.params6] at hA hval
 obtain⟨v0,v1,v2,v3,v4,d0,d1,d2,d3,d4,p0,p1,p2,p3,p4,rfl,rfl,rfl,h0,h1,h2,h3,h4⟩:=aEj hA
 obtain⟨P,T,rfl⟩:=aFb (hval 0 _ v0 rfl rfl)
 obtain⟨n,l,a,len,cap,ps,rfl,hl,hr,hn,hu,hser⟩:=aB1 (hval 1 _ v1 rfl rfl) h1
 obtain⟨ks,hkl,hk⟩:=aF7 Tryz.underlying65 (by kernel_rfl) Tryz.underlying3 (hval 2 _ v2 rfl rfl) h2
 obtain⟨bs,hb⟩:=aF6 Tryz.underlying50 (by kernel_rfl) Tryz.underlying5 (hval 3 _ v3 rfl rfl) h3
 obtain⟨less,rfl⟩:=aDd Tryz.underlying4 (hval 4 _ v4 rfl rfl)
 exact aCX (vs:=[_,_,_,_,_]) (aFj aCU P T n l hl hn hu ps hser a len cap ks _ bs _ less (by have:maxLen≤9223372036854775807:=(by decide);omega)) ⟨hr,hk,hb⟩ Tryz.laidOut (by rw [Tryz.params6];decide +kernel) rfl hW' (by kernel_rfl) Tryz.underlying4 rfl
theorem Tryz.mapsR:mapsRowed Tryz.prog=true:=by kernel_rfl
theorem Tryz.plainK:(Rows.metaReadsRow.plainKeys == Tryz.prog.plainKeys)=true:=by kernel_rfl
theorem Tryz.lifts:(Rows.metaReadsRow.lifted == Tryz.prog.liftsFinal)=true:=by kernel_rfl
theorem Tryz.made:(Tryz.prog.make == some Rows.metaReadsRow.make)=true:=by kernel_rfl
theorem Tryz.enters:(Rows.metaReadsRow.shortTexts.isNone&&Tryz.prog.stopsHeard&&Tryz.prog.mayEnter)=true:=by kernel_rfl
theorem aDR:(Rows.metaReadsRow.inPlace == Tryz.prog.inPlace 6)=true:=by kernel_rfl
theorem aDS:(Rows.metaReadsRow.unfollowed == Tryz.prog.unfollowed 6)=true:=by kernel_rfl
theorem aDT:(Rows.metaReadsRow.recurses == Tryz.prog.recurses 6)=true:=by kernel_rfl
theorem aDU:(Rows.metaReadsRow.named == Tryz.prog.varsNamed 6)=true:=by kernel_rfl
theorem aAA:joinedFacts Tryz.prog 6 Tryz.f6 Rows.metaReadsSpec Rows.metaReadsRow=true:=
 aET (by kernel_rfl) Tryz.laidOut Tryz.mapsR (by kernel_rfl) aDR aDS aDT aDU (by kernel_rfl) Tryz.plainK Tryz.enters Tryz.lifts Tryz.made (by kernel_rfl)
theorem metaReads_holds:Rows.MetaReadsSaid:=
 OpenClaim.holds_of_wide 6 Tryz.f6 rfl rfl rfl rfl rfl rfl rfl ⟨rfl,rfl,rfl,rfl,rfl⟩ rfl rfl rfl rfl rfl (by kernel_rfl) Tryz.func6 aAA
  (of_decide_eq_true (by kernel_rfl)) (by unfold Func.isWrapper;rw [if_neg (by decide +kernel)];exact⟨rfl,rfl⟩)
  (fun os started H enc _=>aAB os started H enc)
end Go.Proofs.YtnigolgkkjidiaaGreat
