/-
  No cell of these rows narrows 'for every input' (looked for: loops, veiled, ifaces, maps, wideKeys, modest, calm, conditions, laid).
  DERIVED. THE GIVEN ROWS OF THIS SEAT. 8 by the template 'for every input the law returns true; each argument reads behind the call as it read before'; 0 by the template 'total and deterministic' (their statements: YtlpgegglobhclaaTotals.lean).
  GIVEN WITH THE SEED: the statements are not yours to turn. If you find one false, say at which input.
  Laid BY PROGRAM, IN A SANDBOX (cutbox-rows.mjs): the forced cells as the released guide's own fill.sh prints them over the translation 478569a06960ba88… (all of the seat's roots in one cut). By AI agents, Wed Nov 11 2026. No macro, syntax, notation, axiom, sorry.
-/
import Derived.Test.YtlpgegglobhclaaChecked
import GoSem.Claim
import GoSem.ClaimJoined
import GoSem.ClaimMapViews
import Derived.JoinedTies
import Derived.KernelRfl
namespace Go.Proofs.Ytlpgegglobhclaa
/- THE CELL 'sum', in the pinned program and in every row, IS THE sha256 OF THE DUMP (.gsa) THAT YtlpgegglobhclaaProg.lean LOADS. Nothing in Lean hashes anything: it is a label: what it is worth is what the hold of that sum in a sandbox is worth. -/
noncomputable def Try.pinned : Pinned := { name := "ytlpgegglobhclaa", sum := "478569a06960ba88229116808dab160dbaf3e78f24eeee31007ab64795f352dd", checked := Try.checked }
namespace Rows
def none {H : Type} : Left H := { results := [], args := [] }

/-- 'garderobelaw09.TrustNil': WHATEVER THE INPUT: true; the input reads as it did. -/
def trustNilSpec : ChangeSpec := { name := "trustNil", fn := fun _ => fun
  | [d] => { results := [.lit (.bool true)], args := [d] }
  | _ => none }
def trustNilRow : OpenClaim := { program := "ytlpgegglobhclaa", sum := "478569a06960ba88229116808dab160dbaf3e78f24eeee31007ab64795f352dd", func := "garderobe/garderobelaw09.TrustNil", spec := "trustNil", unfollowed := true, recurses := true, apart := false }
def TrustNilSaid : Prop := trustNilRow.holds Try.pinned (OpenSpec.ofChange trustNilSpec)

/-- ITS FALSE NEIGHBOUR: 'it returns false'. Refute it at one input. -/
def trustNilWrong : ChangeSpec := { name := "trustNil", fn := fun _ => fun
  | [d] => { results := [.lit (.bool false)], args := [d] }
  | _ => none }
def TrustNilWrongFalsely : Prop := trustNilRow.holds Try.pinned (OpenSpec.ofChange trustNilWrong)

/-- 'garderobelaw09.TrustRises': WHATEVER THE INPUT: true; the input reads as it did. -/
def trustRisesSpec : ChangeSpec := { name := "trustRises", fn := fun _ => fun
  | [d1, d2] => { results := [.lit (.bool true)], args := [d1, d2] }
  | _ => none }
def trustRisesRow : OpenClaim := { program := "ytlpgegglobhclaa", sum := "478569a06960ba88229116808dab160dbaf3e78f24eeee31007ab64795f352dd", func := "garderobe/garderobelaw09.TrustRises", spec := "trustRises", unfollowed := true, recurses := true, apart := false }
def TrustRisesSaid : Prop := trustRisesRow.holds Try.pinned (OpenSpec.ofChange trustRisesSpec)

/-- ITS FALSE NEIGHBOUR: 'it returns false'. Refute it at one input. -/
def trustRisesWrong : ChangeSpec := { name := "trustRises", fn := fun _ => fun
  | [d1, d2] => { results := [.lit (.bool false)], args := [d1, d2] }
  | _ => none }
def TrustRisesWrongFalsely : Prop := trustRisesRow.holds Try.pinned (OpenSpec.ofChange trustRisesWrong)

/-- 'garderobelaw09.TrustPlays': WHATEVER THE INPUT: true; the input reads as it did. -/
def trustPlaysSpec : ChangeSpec := { name := "trustPlays", fn := fun _ => fun
  | [d1, d2] => { results := [.lit (.bool true)], args := [d1, d2] }
  | _ => none }
def trustPlaysRow : OpenClaim := { program := "ytlpgegglobhclaa", sum := "478569a06960ba88229116808dab160dbaf3e78f24eeee31007ab64795f352dd", func := "garderobe/garderobelaw09.TrustPlays", spec := "trustPlays", unfollowed := true, recurses := true, apart := false }
def TrustPlaysSaid : Prop := trustPlaysRow.holds Try.pinned (OpenSpec.ofChange trustPlaysSpec)

/-- ITS FALSE NEIGHBOUR: 'it returns false'. Refute it at one input. -/
def trustPlaysWrong : ChangeSpec := { name := "trustPlays", fn := fun _ => fun
  | [d1, d2] => { results := [.lit (.bool false)], args := [d1, d2] }
  | _ => none }
def TrustPlaysWrongFalsely : Prop := trustPlaysRow.holds Try.pinned (OpenSpec.ofChange trustPlaysWrong)

/-- 'garderobelaw08.NvmTorn': WHATEVER THE INPUT: true; the input reads as it did. -/
def nvmTornSpec : ChangeSpec := { name := "nvmTorn", fn := fun _ => fun
  | [d1, d2, d3] => { results := [.lit (.bool true)], args := [d1, d2, d3] }
  | _ => none }
def nvmTornRow : OpenClaim := { program := "ytlpgegglobhclaa", sum := "478569a06960ba88229116808dab160dbaf3e78f24eeee31007ab64795f352dd", func := "garderobe/garderobelaw08.NvmTorn", spec := "nvmTorn", unfollowed := true, recurses := true, apart := false }
def NvmTornSaid : Prop := nvmTornRow.holds Try.pinned (OpenSpec.ofChange nvmTornSpec)

/-- ITS FALSE NEIGHBOUR: 'it returns false'. Refute it at one input. -/
def nvmTornWrong : ChangeSpec := { name := "nvmTorn", fn := fun _ => fun
  | [d1, d2, d3] => { results := [.lit (.bool false)], args := [d1, d2, d3] }
  | _ => none }
def NvmTornWrongFalsely : Prop := nvmTornRow.holds Try.pinned (OpenSpec.ofChange nvmTornWrong)

/-- 'garderobelaw08.NvmLasts': WHATEVER THE INPUT: true; the input reads as it did. -/
def nvmLastsSpec : ChangeSpec := { name := "nvmLasts", fn := fun _ => fun
  | [d1, d2, d3, d4] => { results := [.lit (.bool true)], args := [d1, d2, d3, d4] }
  | _ => none }
def nvmLastsRow : OpenClaim := { program := "ytlpgegglobhclaa", sum := "478569a06960ba88229116808dab160dbaf3e78f24eeee31007ab64795f352dd", func := "garderobe/garderobelaw08.NvmLasts", spec := "nvmLasts", unfollowed := true, recurses := true, apart := false }
def NvmLastsSaid : Prop := nvmLastsRow.holds Try.pinned (OpenSpec.ofChange nvmLastsSpec)

/-- ITS FALSE NEIGHBOUR: 'it returns false'. Refute it at one input. -/
def nvmLastsWrong : ChangeSpec := { name := "nvmLasts", fn := fun _ => fun
  | [d1, d2, d3, d4] => { results := [.lit (.bool false)], args := [d1, d2, d3, d4] }
  | _ => none }
def NvmLastsWrongFalsely : Prop := nvmLastsRow.holds Try.pinned (OpenSpec.ofChange nvmLastsWrong)

/-- 'garderobelaw08.NvmPlays': WHATEVER THE INPUT: true; the input reads as it did. -/
def nvmPlaysSpec : ChangeSpec := { name := "nvmPlays", fn := fun _ => fun
  | [d1, d2] => { results := [.lit (.bool true)], args := [d1, d2] }
  | _ => none }
def nvmPlaysRow : OpenClaim := { program := "ytlpgegglobhclaa", sum := "478569a06960ba88229116808dab160dbaf3e78f24eeee31007ab64795f352dd", func := "garderobe/garderobelaw08.NvmPlays", spec := "nvmPlays", unfollowed := true, recurses := true, apart := false }
def NvmPlaysSaid : Prop := nvmPlaysRow.holds Try.pinned (OpenSpec.ofChange nvmPlaysSpec)

/-- ITS FALSE NEIGHBOUR: 'it returns false'. Refute it at one input. -/
def nvmPlaysWrong : ChangeSpec := { name := "nvmPlays", fn := fun _ => fun
  | [d1, d2] => { results := [.lit (.bool false)], args := [d1, d2] }
  | _ => none }
def NvmPlaysWrongFalsely : Prop := nvmPlaysRow.holds Try.pinned (OpenSpec.ofChange nvmPlaysWrong)

/-- 'garderobelaw08.NvmNil': WHATEVER THE INPUT: true; the input reads as it did. -/
def nvmNilSpec : ChangeSpec := { name := "nvmNil", fn := fun _ => fun
  | [d1, d2] => { results := [.lit (.bool true)], args := [d1, d2] }
  | _ => none }
def nvmNilRow : OpenClaim := { program := "ytlpgegglobhclaa", sum := "478569a06960ba88229116808dab160dbaf3e78f24eeee31007ab64795f352dd", func := "garderobe/garderobelaw08.NvmNil", spec := "nvmNil", unfollowed := true, recurses := true, apart := false }
def NvmNilSaid : Prop := nvmNilRow.holds Try.pinned (OpenSpec.ofChange nvmNilSpec)

/-- ITS FALSE NEIGHBOUR: 'it returns false'. Refute it at one input. -/
def nvmNilWrong : ChangeSpec := { name := "nvmNil", fn := fun _ => fun
  | [d1, d2] => { results := [.lit (.bool false)], args := [d1, d2] }
  | _ => none }
def NvmNilWrongFalsely : Prop := nvmNilRow.holds Try.pinned (OpenSpec.ofChange nvmNilWrong)

/-- 'garderobelaw08.NvmQuiet': WHATEVER THE INPUT: true; the input reads as it did. -/
def nvmQuietSpec : ChangeSpec := { name := "nvmQuiet", fn := fun _ => fun
  | [d1, d2, d3] => { results := [.lit (.bool true)], args := [d1, d2, d3] }
  | _ => none }
def nvmQuietRow : OpenClaim := { program := "ytlpgegglobhclaa", sum := "478569a06960ba88229116808dab160dbaf3e78f24eeee31007ab64795f352dd", func := "garderobe/garderobelaw08.NvmQuiet", spec := "nvmQuiet", unfollowed := true, recurses := true, apart := false }
def NvmQuietSaid : Prop := nvmQuietRow.holds Try.pinned (OpenSpec.ofChange nvmQuietSpec)

/-- ITS FALSE NEIGHBOUR: 'it returns false'. Refute it at one input. -/
def nvmQuietWrong : ChangeSpec := { name := "nvmQuiet", fn := fun _ => fun
  | [d1, d2, d3] => { results := [.lit (.bool false)], args := [d1, d2, d3] }
  | _ => none }
def NvmQuietWrongFalsely : Prop := nvmQuietRow.holds Try.pinned (OpenSpec.ofChange nvmQuietWrong)

/- THE SECOND FORM. 'bulk': how many values and letters a reading holds, each counted each time it is reached (what is shared counts as often as it is met; a slice's spare places count too). A statement '..UptoSaid' is the law's where the arguments, and the package variables that the reading takes, are together of bulk at most 1048576: NARROWER than '..Said'. Prove '..Said' where nothing that the law and all that it calls make is longer than what came in: it says more and counts as full. Else prove '..UptoSaid'. A law counts once. -/
mutual
def uptoBulk {H : Type} : DataW H → Nat
  | .lit (.string bytes) => bytes.length + 1
  | .lit _ => 1
  | .nil => 1
  | .ptr d => uptoBulk d + 1
  | .slice elems spare => uptoBulkAll elems + uptoBulkAll spare + 1
  | .agg parts => uptoBulkAll parts + 1
  | .iface _ d => uptoBulk d + 1
  | .map entries => uptoBulkEntries entries + 1
  | .held _ => 1
def uptoBulkAll {H : Type} : List (DataW H) → Nat
  | [] => 0
  | d :: r => uptoBulk d + uptoBulkAll r
def uptoBulkEntries {H : Type} : List (Lit × DataW H) → Nat
  | [] => 0
  | x :: r => uptoBulkEntry x + uptoBulkEntries r
def uptoBulkEntry {H : Type} : Lit × DataW H → Nat
  | (.string bytes, d) => bytes.length + uptoBulk d + 1
  | (_, d) => uptoBulk d + 1
 end
def uptoSmall : (H : Type) → List (DataW H) → Bool := fun _ ds => decide (uptoBulkAll ds ≤ 1048576)
def OpenSpec.upto (s : _root_.Go.ChangeSpec) : _root_.Go.OpenSpec := { _root_.Go.OpenSpec.ofChange s with cond := some uptoSmall }

/-- 'garderobelaw09.TrustNil', WHERE WHAT IT READS IS OF BULK AT MOST 1048576: true; the input reads as it did. -/
def trustNilUptoRow : OpenClaim := { program := "ytlpgegglobhclaa", sum := "478569a06960ba88229116808dab160dbaf3e78f24eeee31007ab64795f352dd", func := "garderobe/garderobelaw09.TrustNil", spec := "trustNil", unfollowed := true, recurses := true, apart := false, narrowed := true }
def TrustNilUptoSaid : Prop := trustNilUptoRow.holds Try.pinned (OpenSpec.upto trustNilSpec)

/-- 'garderobelaw09.TrustRises', WHERE WHAT IT READS IS OF BULK AT MOST 1048576: true; the input reads as it did. -/
def trustRisesUptoRow : OpenClaim := { program := "ytlpgegglobhclaa", sum := "478569a06960ba88229116808dab160dbaf3e78f24eeee31007ab64795f352dd", func := "garderobe/garderobelaw09.TrustRises", spec := "trustRises", unfollowed := true, recurses := true, apart := false, narrowed := true }
def TrustRisesUptoSaid : Prop := trustRisesUptoRow.holds Try.pinned (OpenSpec.upto trustRisesSpec)

/-- 'garderobelaw09.TrustPlays', WHERE WHAT IT READS IS OF BULK AT MOST 1048576: true; the input reads as it did. -/
def trustPlaysUptoRow : OpenClaim := { program := "ytlpgegglobhclaa", sum := "478569a06960ba88229116808dab160dbaf3e78f24eeee31007ab64795f352dd", func := "garderobe/garderobelaw09.TrustPlays", spec := "trustPlays", unfollowed := true, recurses := true, apart := false, narrowed := true }
def TrustPlaysUptoSaid : Prop := trustPlaysUptoRow.holds Try.pinned (OpenSpec.upto trustPlaysSpec)

/-- 'garderobelaw08.NvmTorn', WHERE WHAT IT READS IS OF BULK AT MOST 1048576: true; the input reads as it did. -/
def nvmTornUptoRow : OpenClaim := { program := "ytlpgegglobhclaa", sum := "478569a06960ba88229116808dab160dbaf3e78f24eeee31007ab64795f352dd", func := "garderobe/garderobelaw08.NvmTorn", spec := "nvmTorn", unfollowed := true, recurses := true, apart := false, narrowed := true }
def NvmTornUptoSaid : Prop := nvmTornUptoRow.holds Try.pinned (OpenSpec.upto nvmTornSpec)

/-- 'garderobelaw08.NvmLasts', WHERE WHAT IT READS IS OF BULK AT MOST 1048576: true; the input reads as it did. -/
def nvmLastsUptoRow : OpenClaim := { program := "ytlpgegglobhclaa", sum := "478569a06960ba88229116808dab160dbaf3e78f24eeee31007ab64795f352dd", func := "garderobe/garderobelaw08.NvmLasts", spec := "nvmLasts", unfollowed := true, recurses := true, apart := false, narrowed := true }
def NvmLastsUptoSaid : Prop := nvmLastsUptoRow.holds Try.pinned (OpenSpec.upto nvmLastsSpec)

/-- 'garderobelaw08.NvmPlays', WHERE WHAT IT READS IS OF BULK AT MOST 1048576: true; the input reads as it did. -/
def nvmPlaysUptoRow : OpenClaim := { program := "ytlpgegglobhclaa", sum := "478569a06960ba88229116808dab160dbaf3e78f24eeee31007ab64795f352dd", func := "garderobe/garderobelaw08.NvmPlays", spec := "nvmPlays", unfollowed := true, recurses := true, apart := false, narrowed := true }
def NvmPlaysUptoSaid : Prop := nvmPlaysUptoRow.holds Try.pinned (OpenSpec.upto nvmPlaysSpec)

/-- 'garderobelaw08.NvmNil', WHERE WHAT IT READS IS OF BULK AT MOST 1048576: true; the input reads as it did. -/
def nvmNilUptoRow : OpenClaim := { program := "ytlpgegglobhclaa", sum := "478569a06960ba88229116808dab160dbaf3e78f24eeee31007ab64795f352dd", func := "garderobe/garderobelaw08.NvmNil", spec := "nvmNil", unfollowed := true, recurses := true, apart := false, narrowed := true }
def NvmNilUptoSaid : Prop := nvmNilUptoRow.holds Try.pinned (OpenSpec.upto nvmNilSpec)

/-- 'garderobelaw08.NvmQuiet', WHERE WHAT IT READS IS OF BULK AT MOST 1048576: true; the input reads as it did. -/
def nvmQuietUptoRow : OpenClaim := { program := "ytlpgegglobhclaa", sum := "478569a06960ba88229116808dab160dbaf3e78f24eeee31007ab64795f352dd", func := "garderobe/garderobelaw08.NvmQuiet", spec := "nvmQuiet", unfollowed := true, recurses := true, apart := false, narrowed := true }
def NvmQuietUptoSaid : Prop := nvmQuietUptoRow.holds Try.pinned (OpenSpec.upto nvmQuietSpec)

end Rows
end Go.Proofs.Ytlpgegglobhclaa
