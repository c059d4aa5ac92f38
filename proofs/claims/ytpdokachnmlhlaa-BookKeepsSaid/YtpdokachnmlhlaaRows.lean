/-
  No cell of these rows narrows 'for every input' (looked for: loops, veiled, ifaces, maps, wideKeys, modest, calm, conditions, laid).
  DERIVED. THE GIVEN ROWS OF THIS SEAT. 11 by the template 'for every input the law returns true; each argument reads behind the call as it read before'; 0 by the template 'total and deterministic' (their statements: YtpdokachnmlhlaaTotals.lean).
  GIVEN WITH THE SEED: the statements are not yours to turn. If you find one false, say at which input.
  Laid BY PROGRAM, IN A SANDBOX (cutbox-rows.mjs): the forced cells as the released guide's own fill.sh prints them over the translation 187e2b49af1cc56e… (all of the seat's roots in one cut). By AI agents, Wed Nov 11 2026. No macro, syntax, notation, axiom, sorry.
-/
import Derived.Test.YtpdokachnmlhlaaChecked
import GoSem.Claim
import GoSem.ClaimJoined
import GoSem.ClaimMapViews
import Derived.JoinedTies
import Derived.KernelRfl
namespace Go.Proofs.Ytpdokachnmlhlaa
/- THE CELL 'sum', in the pinned program and in every row, IS THE sha256 OF THE DUMP (.gsa) THAT YtpdokachnmlhlaaProg.lean LOADS. Nothing in Lean hashes anything: it is a label: what it is worth is what the hold of that sum in a sandbox is worth. -/
noncomputable def Try.pinned : Pinned := { name := "ytpdokachnmlhlaa", sum := "187e2b49af1cc56ea9fcfbe37b41da8c3ec3f71c3bba38f1b0ed5eba6358d338", checked := Try.checked }
namespace Rows
def none {H : Type} : Left H := { results := [], args := [] }

/-- 'garderobelaw03.ShaTable': WHATEVER THE INPUT: true; the input reads as it did. -/
def shaTableSpec : ChangeSpec := { name := "shaTable", fn := fun _ => fun
  | [d] => { results := [.lit (.bool true)], args := [d] }
  | _ => none }
def shaTableRow : OpenClaim := { program := "ytpdokachnmlhlaa", sum := "187e2b49af1cc56ea9fcfbe37b41da8c3ec3f71c3bba38f1b0ed5eba6358d338", func := "garderobe/garderobelaw03.ShaTable", spec := "shaTable", inPlace := ["math/bits.Add64"], unfollowed := true, recurses := true, plainKeys := false, apart := false }
def ShaTableSaid : Prop := shaTableRow.holds Try.pinned (OpenSpec.ofChange shaTableSpec)

/-- ITS FALSE NEIGHBOUR: 'it returns false'. Refute it at one input. -/
def shaTableWrong : ChangeSpec := { name := "shaTable", fn := fun _ => fun
  | [d] => { results := [.lit (.bool false)], args := [d] }
  | _ => none }
def ShaTableWrongFalsely : Prop := shaTableRow.holds Try.pinned (OpenSpec.ofChange shaTableWrong)

/-- 'garderobelaw03.ShaSum': WHATEVER THE INPUT: true; the input reads as it did. -/
def shaSumSpec : ChangeSpec := { name := "shaSum", fn := fun _ => fun
  | [d] => { results := [.lit (.bool true)], args := [d] }
  | _ => none }
def shaSumRow : OpenClaim := { program := "ytpdokachnmlhlaa", sum := "187e2b49af1cc56ea9fcfbe37b41da8c3ec3f71c3bba38f1b0ed5eba6358d338", func := "garderobe/garderobelaw03.ShaSum", spec := "shaSum", inPlace := ["math/bits.Add64"], unfollowed := true, recurses := true, plainKeys := false, apart := false }
def ShaSumSaid : Prop := shaSumRow.holds Try.pinned (OpenSpec.ofChange shaSumSpec)

/-- ITS FALSE NEIGHBOUR: 'it returns false'. Refute it at one input. -/
def shaSumWrong : ChangeSpec := { name := "shaSum", fn := fun _ => fun
  | [d] => { results := [.lit (.bool false)], args := [d] }
  | _ => none }
def ShaSumWrongFalsely : Prop := shaSumRow.holds Try.pinned (OpenSpec.ofChange shaSumWrong)

/-- 'garderobelaw03.ShaPad': WHATEVER THE INPUT: true; the input reads as it did. -/
def shaPadSpec : ChangeSpec := { name := "shaPad", fn := fun _ => fun
  | [d] => { results := [.lit (.bool true)], args := [d] }
  | _ => none }
def shaPadRow : OpenClaim := { program := "ytpdokachnmlhlaa", sum := "187e2b49af1cc56ea9fcfbe37b41da8c3ec3f71c3bba38f1b0ed5eba6358d338", func := "garderobe/garderobelaw03.ShaPad", spec := "shaPad", inPlace := ["math/bits.Add64"], unfollowed := true, recurses := true, plainKeys := false, apart := false }
def ShaPadSaid : Prop := shaPadRow.holds Try.pinned (OpenSpec.ofChange shaPadSpec)

/-- ITS FALSE NEIGHBOUR: 'it returns false'. Refute it at one input. -/
def shaPadWrong : ChangeSpec := { name := "shaPad", fn := fun _ => fun
  | [d] => { results := [.lit (.bool false)], args := [d] }
  | _ => none }
def ShaPadWrongFalsely : Prop := shaPadRow.holds Try.pinned (OpenSpec.ofChange shaPadWrong)

/-- 'garderobelaw03.ShaApart': WHATEVER THE INPUT: true; the input reads as it did. -/
def shaApartSpec : ChangeSpec := { name := "shaApart", fn := fun _ => fun
  | [d1, d2] => { results := [.lit (.bool true)], args := [d1, d2] }
  | _ => none }
def shaApartRow : OpenClaim := { program := "ytpdokachnmlhlaa", sum := "187e2b49af1cc56ea9fcfbe37b41da8c3ec3f71c3bba38f1b0ed5eba6358d338", func := "garderobe/garderobelaw03.ShaApart", spec := "shaApart", inPlace := ["math/bits.Add64"], unfollowed := true, recurses := true, plainKeys := false, apart := false }
def ShaApartSaid : Prop := shaApartRow.holds Try.pinned (OpenSpec.ofChange shaApartSpec)

/-- ITS FALSE NEIGHBOUR: 'it returns false'. Refute it at one input. -/
def shaApartWrong : ChangeSpec := { name := "shaApart", fn := fun _ => fun
  | [d1, d2] => { results := [.lit (.bool false)], args := [d1, d2] }
  | _ => none }
def ShaApartWrongFalsely : Prop := shaApartRow.holds Try.pinned (OpenSpec.ofChange shaApartWrong)

/-- 'garderobelaw03.ShaParts': WHATEVER THE INPUT: true; the input reads as it did. -/
def shaPartsSpec : ChangeSpec := { name := "shaParts", fn := fun _ => fun
  | [d] => { results := [.lit (.bool true)], args := [d] }
  | _ => none }
def shaPartsRow : OpenClaim := { program := "ytpdokachnmlhlaa", sum := "187e2b49af1cc56ea9fcfbe37b41da8c3ec3f71c3bba38f1b0ed5eba6358d338", func := "garderobe/garderobelaw03.ShaParts", spec := "shaParts", inPlace := ["math/bits.Add64"], unfollowed := true, recurses := true, plainKeys := false, apart := false }
def ShaPartsSaid : Prop := shaPartsRow.holds Try.pinned (OpenSpec.ofChange shaPartsSpec)

/-- ITS FALSE NEIGHBOUR: 'it returns false'. Refute it at one input. -/
def shaPartsWrong : ChangeSpec := { name := "shaParts", fn := fun _ => fun
  | [d] => { results := [.lit (.bool false)], args := [d] }
  | _ => none }
def ShaPartsWrongFalsely : Prop := shaPartsRow.holds Try.pinned (OpenSpec.ofChange shaPartsWrong)

/-- 'garderobelaw03.ShaNil': WHATEVER THE INPUT: true; the input reads as it did. -/
def shaNilSpec : ChangeSpec := { name := "shaNil", fn := fun _ => fun
  | [d1, d2] => { results := [.lit (.bool true)], args := [d1, d2] }
  | _ => none }
def shaNilRow : OpenClaim := { program := "ytpdokachnmlhlaa", sum := "187e2b49af1cc56ea9fcfbe37b41da8c3ec3f71c3bba38f1b0ed5eba6358d338", func := "garderobe/garderobelaw03.ShaNil", spec := "shaNil", inPlace := ["math/bits.Add64"], unfollowed := true, recurses := true, plainKeys := false, apart := false }
def ShaNilSaid : Prop := shaNilRow.holds Try.pinned (OpenSpec.ofChange shaNilSpec)

/-- ITS FALSE NEIGHBOUR: 'it returns false'. Refute it at one input. -/
def shaNilWrong : ChangeSpec := { name := "shaNil", fn := fun _ => fun
  | [d1, d2] => { results := [.lit (.bool false)], args := [d1, d2] }
  | _ => none }
def ShaNilWrongFalsely : Prop := shaNilRow.holds Try.pinned (OpenSpec.ofChange shaNilWrong)

/-- 'garderobelaw03.ShaBlocks': WHATEVER THE INPUT: true; the input reads as it did. -/
def shaBlocksSpec : ChangeSpec := { name := "shaBlocks", fn := fun _ => fun
  | [d1, d2, d3] => { results := [.lit (.bool true)], args := [d1, d2, d3] }
  | _ => none }
def shaBlocksRow : OpenClaim := { program := "ytpdokachnmlhlaa", sum := "187e2b49af1cc56ea9fcfbe37b41da8c3ec3f71c3bba38f1b0ed5eba6358d338", func := "garderobe/garderobelaw03.ShaBlocks", spec := "shaBlocks", inPlace := ["math/bits.Add64"], unfollowed := true, recurses := true, plainKeys := false, apart := false }
def ShaBlocksSaid : Prop := shaBlocksRow.holds Try.pinned (OpenSpec.ofChange shaBlocksSpec)

/-- ITS FALSE NEIGHBOUR: 'it returns false'. Refute it at one input. -/
def shaBlocksWrong : ChangeSpec := { name := "shaBlocks", fn := fun _ => fun
  | [d1, d2, d3] => { results := [.lit (.bool false)], args := [d1, d2, d3] }
  | _ => none }
def ShaBlocksWrongFalsely : Prop := shaBlocksRow.holds Try.pinned (OpenSpec.ofChange shaBlocksWrong)

/-- 'garderobelaw04.BookSums': WHATEVER THE INPUT: true; the input reads as it did. -/
def bookSumsSpec : ChangeSpec := { name := "bookSums", fn := fun _ => fun
  | [d] => { results := [.lit (.bool true)], args := [d] }
  | _ => none }
def bookSumsRow : OpenClaim := { program := "ytpdokachnmlhlaa", sum := "187e2b49af1cc56ea9fcfbe37b41da8c3ec3f71c3bba38f1b0ed5eba6358d338", func := "garderobe/garderobelaw04.BookSums", spec := "bookSums", inPlace := ["math/bits.Add64"], unfollowed := true, recurses := true, plainKeys := false, apart := false }
def BookSumsSaid : Prop := bookSumsRow.holds Try.pinned (OpenSpec.ofChange bookSumsSpec)

/-- ITS FALSE NEIGHBOUR: 'it returns false'. Refute it at one input. -/
def bookSumsWrong : ChangeSpec := { name := "bookSums", fn := fun _ => fun
  | [d] => { results := [.lit (.bool false)], args := [d] }
  | _ => none }
def BookSumsWrongFalsely : Prop := bookSumsRow.holds Try.pinned (OpenSpec.ofChange bookSumsWrong)

/-- 'garderobelaw04.BookKeeps': WHATEVER THE INPUT: true; the input reads as it did. -/
def bookKeepsSpec : ChangeSpec := { name := "bookKeeps", fn := fun _ => fun
  | [d] => { results := [.lit (.bool true)], args := [d] }
  | _ => none }
def bookKeepsRow : OpenClaim := { program := "ytpdokachnmlhlaa", sum := "187e2b49af1cc56ea9fcfbe37b41da8c3ec3f71c3bba38f1b0ed5eba6358d338", func := "garderobe/garderobelaw04.BookKeeps", spec := "bookKeeps", inPlace := ["math/bits.Add64"], unfollowed := true, recurses := true, plainKeys := false, apart := false }
def BookKeepsSaid : Prop := bookKeepsRow.holds Try.pinned (OpenSpec.ofChange bookKeepsSpec)

/-- ITS FALSE NEIGHBOUR: 'it returns false'. Refute it at one input. -/
def bookKeepsWrong : ChangeSpec := { name := "bookKeeps", fn := fun _ => fun
  | [d] => { results := [.lit (.bool false)], args := [d] }
  | _ => none }
def BookKeepsWrongFalsely : Prop := bookKeepsRow.holds Try.pinned (OpenSpec.ofChange bookKeepsWrong)

/-- 'garderobelaw04.BookShows': WHATEVER THE INPUT: true; the input reads as it did. -/
def bookShowsSpec : ChangeSpec := { name := "bookShows", fn := fun _ => fun
  | [d] => { results := [.lit (.bool true)], args := [d] }
  | _ => none }
def bookShowsRow : OpenClaim := { program := "ytpdokachnmlhlaa", sum := "187e2b49af1cc56ea9fcfbe37b41da8c3ec3f71c3bba38f1b0ed5eba6358d338", func := "garderobe/garderobelaw04.BookShows", spec := "bookShows", inPlace := ["math/bits.Add64"], unfollowed := true, recurses := true, plainKeys := false, apart := false }
def BookShowsSaid : Prop := bookShowsRow.holds Try.pinned (OpenSpec.ofChange bookShowsSpec)

/-- ITS FALSE NEIGHBOUR: 'it returns false'. Refute it at one input. -/
def bookShowsWrong : ChangeSpec := { name := "bookShows", fn := fun _ => fun
  | [d] => { results := [.lit (.bool false)], args := [d] }
  | _ => none }
def BookShowsWrongFalsely : Prop := bookShowsRow.holds Try.pinned (OpenSpec.ofChange bookShowsWrong)

/-- 'garderobelaw04.BookNil': WHATEVER THE INPUT: true; the input reads as it did. -/
def bookNilSpec : ChangeSpec := { name := "bookNil", fn := fun _ => fun
  | [d] => { results := [.lit (.bool true)], args := [d] }
  | _ => none }
def bookNilRow : OpenClaim := { program := "ytpdokachnmlhlaa", sum := "187e2b49af1cc56ea9fcfbe37b41da8c3ec3f71c3bba38f1b0ed5eba6358d338", func := "garderobe/garderobelaw04.BookNil", spec := "bookNil", inPlace := ["math/bits.Add64"], unfollowed := true, recurses := true, plainKeys := false, apart := false }
def BookNilSaid : Prop := bookNilRow.holds Try.pinned (OpenSpec.ofChange bookNilSpec)

/-- ITS FALSE NEIGHBOUR: 'it returns false'. Refute it at one input. -/
def bookNilWrong : ChangeSpec := { name := "bookNil", fn := fun _ => fun
  | [d] => { results := [.lit (.bool false)], args := [d] }
  | _ => none }
def BookNilWrongFalsely : Prop := bookNilRow.holds Try.pinned (OpenSpec.ofChange bookNilWrong)

/- THE SECOND FORM. 'bulk': how many values and letters a reading holds, each counted each time it is reached (what is shared counts as often as it is met; a slice's spare places count too). A statement '..UptoSaid' is the law's where the arguments, and the package variables that the reading takes, are together of bulk at most 1048576: NARROWER than '..Said'. Prove '..Said' where nothing that the law and all that it calls make is longer than what came in: it says more and counts as full. Else prove '..UptoSaid'. A law counts once. -/
mutual
def uptoBulk {H : Type} : DataW H → Nat
  | .lit (.string bytes) => bytes.length + 1
  | .lit _ => 1
  | .nil => 1
  | .ptr d => uptoBulk d + 1
  | .slice elems spare => uptoBulkAll elems + uptoBulkAll spare + 1
  | .agg parts => uptoBulkAll parts + 1
  | .iface _ d => uptoBulk d + 1
  | .map entries => uptoBulkEntries entries + 1
  | .held _ => 1
def uptoBulkAll {H : Type} : List (DataW H) → Nat
  | [] => 0
  | d :: r => uptoBulk d + uptoBulkAll r
def uptoBulkEntries {H : Type} : List (Lit × DataW H) → Nat
  | [] => 0
  | x :: r => uptoBulkEntry x + uptoBulkEntries r
def uptoBulkEntry {H : Type} : Lit × DataW H → Nat
  | (.string bytes, d) => bytes.length + uptoBulk d + 1
  | (_, d) => uptoBulk d + 1
 end
def uptoSmall : (H : Type) → List (DataW H) → Bool := fun _ ds => decide (uptoBulkAll ds ≤ 1048576)
def OpenSpec.upto (s : _root_.Go.ChangeSpec) : _root_.Go.OpenSpec := { _root_.Go.OpenSpec.ofChange s with cond := some uptoSmall }

/-- 'garderobelaw03.ShaTable', WHERE WHAT IT READS IS OF BULK AT MOST 1048576: true; the input reads as it did. -/
def shaTableUptoRow : OpenClaim := { program := "ytpdokachnmlhlaa", sum := "187e2b49af1cc56ea9fcfbe37b41da8c3ec3f71c3bba38f1b0ed5eba6358d338", func := "garderobe/garderobelaw03.ShaTable", spec := "shaTable", inPlace := ["math/bits.Add64"], unfollowed := true, recurses := true, plainKeys := false, apart := false, narrowed := true }
def ShaTableUptoSaid : Prop := shaTableUptoRow.holds Try.pinned (OpenSpec.upto shaTableSpec)

/-- 'garderobelaw03.ShaSum', WHERE WHAT IT READS IS OF BULK AT MOST 1048576: true; the input reads as it did. -/
def shaSumUptoRow : OpenClaim := { program := "ytpdokachnmlhlaa", sum := "187e2b49af1cc56ea9fcfbe37b41da8c3ec3f71c3bba38f1b0ed5eba6358d338", func := "garderobe/garderobelaw03.ShaSum", spec := "shaSum", inPlace := ["math/bits.Add64"], unfollowed := true, recurses := true, plainKeys := false, apart := false, narrowed := true }
def ShaSumUptoSaid : Prop := shaSumUptoRow.holds Try.pinned (OpenSpec.upto shaSumSpec)

/-- 'garderobelaw03.ShaPad', WHERE WHAT IT READS IS OF BULK AT MOST 1048576: true; the input reads as it did. -/
def shaPadUptoRow : OpenClaim := { program := "ytpdokachnmlhlaa", sum := "187e2b49af1cc56ea9fcfbe37b41da8c3ec3f71c3bba38f1b0ed5eba6358d338", func := "garderobe/garderobelaw03.ShaPad", spec := "shaPad", inPlace := ["math/bits.Add64"], unfollowed := true, recurses := true, plainKeys := false, apart := false, narrowed := true }
def ShaPadUptoSaid : Prop := shaPadUptoRow.holds Try.pinned (OpenSpec.upto shaPadSpec)

/-- 'garderobelaw03.ShaApart', WHERE WHAT IT READS IS OF BULK AT MOST 1048576: true; the input reads as it did. -/
def shaApartUptoRow : OpenClaim := { program := "ytpdokachnmlhlaa", sum := "187e2b49af1cc56ea9fcfbe37b41da8c3ec3f71c3bba38f1b0ed5eba6358d338", func := "garderobe/garderobelaw03.ShaApart", spec := "shaApart", inPlace := ["math/bits.Add64"], unfollowed := true, recurses := true, plainKeys := false, apart := false, narrowed := true }
def ShaApartUptoSaid : Prop := shaApartUptoRow.holds Try.pinned (OpenSpec.upto shaApartSpec)

/-- 'garderobelaw03.ShaParts', WHERE WHAT IT READS IS OF BULK AT MOST 1048576: true; the input reads as it did. -/
def shaPartsUptoRow : OpenClaim := { program := "ytpdokachnmlhlaa", sum := "187e2b49af1cc56ea9fcfbe37b41da8c3ec3f71c3bba38f1b0ed5eba6358d338", func := "garderobe/garderobelaw03.ShaParts", spec := "shaParts", inPlace := ["math/bits.Add64"], unfollowed := true, recurses := true, plainKeys := false, apart := false, narrowed := true }
def ShaPartsUptoSaid : Prop := shaPartsUptoRow.holds Try.pinned (OpenSpec.upto shaPartsSpec)

/-- 'garderobelaw03.ShaNil', WHERE WHAT IT READS IS OF BULK AT MOST 1048576: true; the input reads as it did. -/
def shaNilUptoRow : OpenClaim := { program := "ytpdokachnmlhlaa", sum := "187e2b49af1cc56ea9fcfbe37b41da8c3ec3f71c3bba38f1b0ed5eba6358d338", func := "garderobe/garderobelaw03.ShaNil", spec := "shaNil", inPlace := ["math/bits.Add64"], unfollowed := true, recurses := true, plainKeys := false, apart := false, narrowed := true }
def ShaNilUptoSaid : Prop := shaNilUptoRow.holds Try.pinned (OpenSpec.upto shaNilSpec)

/-- 'garderobelaw03.ShaBlocks', WHERE WHAT IT READS IS OF BULK AT MOST 1048576: true; the input reads as it did. -/
def shaBlocksUptoRow : OpenClaim := { program := "ytpdokachnmlhlaa", sum := "187e2b49af1cc56ea9fcfbe37b41da8c3ec3f71c3bba38f1b0ed5eba6358d338", func := "garderobe/garderobelaw03.ShaBlocks", spec := "shaBlocks", inPlace := ["math/bits.Add64"], unfollowed := true, recurses := true, plainKeys := false, apart := false, narrowed := true }
def ShaBlocksUptoSaid : Prop := shaBlocksUptoRow.holds Try.pinned (OpenSpec.upto shaBlocksSpec)

/-- 'garderobelaw04.BookSums', WHERE WHAT IT READS IS OF BULK AT MOST 1048576: true; the input reads as it did. -/
def bookSumsUptoRow : OpenClaim := { program := "ytpdokachnmlhlaa", sum := "187e2b49af1cc56ea9fcfbe37b41da8c3ec3f71c3bba38f1b0ed5eba6358d338", func := "garderobe/garderobelaw04.BookSums", spec := "bookSums", inPlace := ["math/bits.Add64"], unfollowed := true, recurses := true, plainKeys := false, apart := false, narrowed := true }
def BookSumsUptoSaid : Prop := bookSumsUptoRow.holds Try.pinned (OpenSpec.upto bookSumsSpec)

/-- 'garderobelaw04.BookKeeps', WHERE WHAT IT READS IS OF BULK AT MOST 1048576: true; the input reads as it did. -/
def bookKeepsUptoRow : OpenClaim := { program := "ytpdokachnmlhlaa", sum := "187e2b49af1cc56ea9fcfbe37b41da8c3ec3f71c3bba38f1b0ed5eba6358d338", func := "garderobe/garderobelaw04.BookKeeps", spec := "bookKeeps", inPlace := ["math/bits.Add64"], unfollowed := true, recurses := true, plainKeys := false, apart := false, narrowed := true }
def BookKeepsUptoSaid : Prop := bookKeepsUptoRow.holds Try.pinned (OpenSpec.upto bookKeepsSpec)

/-- 'garderobelaw04.BookShows', WHERE WHAT IT READS IS OF BULK AT MOST 1048576: true; the input reads as it did. -/
def bookShowsUptoRow : OpenClaim := { program := "ytpdokachnmlhlaa", sum := "187e2b49af1cc56ea9fcfbe37b41da8c3ec3f71c3bba38f1b0ed5eba6358d338", func := "garderobe/garderobelaw04.BookShows", spec := "bookShows", inPlace := ["math/bits.Add64"], unfollowed := true, recurses := true, plainKeys := false, apart := false, narrowed := true }
def BookShowsUptoSaid : Prop := bookShowsUptoRow.holds Try.pinned (OpenSpec.upto bookShowsSpec)

/-- 'garderobelaw04.BookNil', WHERE WHAT IT READS IS OF BULK AT MOST 1048576: true; the input reads as it did. -/
def bookNilUptoRow : OpenClaim := { program := "ytpdokachnmlhlaa", sum := "187e2b49af1cc56ea9fcfbe37b41da8c3ec3f71c3bba38f1b0ed5eba6358d338", func := "garderobe/garderobelaw04.BookNil", spec := "bookNil", inPlace := ["math/bits.Add64"], unfollowed := true, recurses := true, plainKeys := false, apart := false, narrowed := true }
def BookNilUptoSaid : Prop := bookNilUptoRow.holds Try.pinned (OpenSpec.upto bookNilSpec)

end Rows
end Go.Proofs.Ytpdokachnmlhlaa
