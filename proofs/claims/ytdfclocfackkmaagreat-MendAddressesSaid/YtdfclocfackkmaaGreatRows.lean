/-
  No cell of these rows narrows 'for every input' (looked for: loops, veiled, ifaces, maps, wideKeys, modest, calm, conditions, laid).
  DERIVED. THE GIVEN ROWS OF THIS SEAT. 4 by the template 'for every input the law returns true; each argument reads behind the call as it read before'; 0 by the template 'total and deterministic' (their statements: YtdfclocfackkmaaGreatTotals.lean).
  GIVEN WITH THE SEED: the statements are not yours to turn. If you find one false, say at which input.
  Laid BY PROGRAM, IN A SANDBOX (cutbox-rows.mjs): the forced cells as the released guide's own fill.sh prints them over the translation c0cf7bcff37fcb4f… (all of the seat's roots in one cut). By AI agents, Wed Nov 11 2026. No macro, syntax, notation, axiom, sorry.
-/
import Derived.Test.YtdfclocfackkmaaGreatChecked
import GoSem.Claim
import GoSem.ClaimJoined
import GoSem.ClaimMapViews
import Derived.JoinedTies
import Derived.KernelRfl
namespace Go.Proofs.YtdfclocfackkmaaGreat
/- THE CELL 'sum', in the pinned program and in every row, IS THE sha256 OF THE DUMP (.gsa) THAT YtdfclocfackkmaaGreatProg.lean LOADS. Nothing in Lean hashes anything: it is a label: what it is worth is what the hold of that sum in a sandbox is worth. -/
noncomputable def Tryz.pinned : Pinned := { name := "ytdfclocfackkmaagreat", sum := "c0cf7bcff37fcb4fa8661ab30536a619c9a9381f194958c4f5409ff632b256f9", checked := Tryz.checked }
namespace Rows
def none {H : Type} : Left H := { results := [], args := [] }

/-- 'garderobelaw16.MendOnce': WHATEVER THE INPUT: true; the input reads as it did. -/
def mendOnceSpec : ChangeSpec := { name := "mendOnce", fn := fun _ => fun
  | [d1, d2, d3] => { results := [.lit (.bool true)], args := [d1, d2, d3] }
  | _ => none }
def mendOnceRow : OpenClaim := { program := "ytdfclocfackkmaagreat", sum := "c0cf7bcff37fcb4fa8661ab30536a619c9a9381f194958c4f5409ff632b256f9", func := "garderobe/garderobelaw16.MendOnce", spec := "mendOnce", inPlace := ["math/bits.Add64"], unfollowed := true, recurses := true, plainKeys := false, apart := false }
def MendOnceSaid : Prop := mendOnceRow.holds Tryz.pinned (OpenSpec.ofChange mendOnceSpec)

/-- ITS FALSE NEIGHBOUR: 'it returns false'. Refute it at one input. -/
def mendOnceWrong : ChangeSpec := { name := "mendOnce", fn := fun _ => fun
  | [d1, d2, d3] => { results := [.lit (.bool false)], args := [d1, d2, d3] }
  | _ => none }
def MendOnceWrongFalsely : Prop := mendOnceRow.holds Tryz.pinned (OpenSpec.ofChange mendOnceWrong)

/-- 'garderobelaw16.MendAddresses': WHATEVER THE INPUT: true; the input reads as it did. -/
def mendAddressesSpec : ChangeSpec := { name := "mendAddresses", fn := fun _ => fun
  | [d1, d2, d3] => { results := [.lit (.bool true)], args := [d1, d2, d3] }
  | _ => none }
def mendAddressesRow : OpenClaim := { program := "ytdfclocfackkmaagreat", sum := "c0cf7bcff37fcb4fa8661ab30536a619c9a9381f194958c4f5409ff632b256f9", func := "garderobe/garderobelaw16.MendAddresses", spec := "mendAddresses", inPlace := ["math/bits.Add64"], unfollowed := true, recurses := true, plainKeys := false, apart := false }
def MendAddressesSaid : Prop := mendAddressesRow.holds Tryz.pinned (OpenSpec.ofChange mendAddressesSpec)

/-- ITS FALSE NEIGHBOUR: 'it returns false'. Refute it at one input. -/
def mendAddressesWrong : ChangeSpec := { name := "mendAddresses", fn := fun _ => fun
  | [d1, d2, d3] => { results := [.lit (.bool false)], args := [d1, d2, d3] }
  | _ => none }
def MendAddressesWrongFalsely : Prop := mendAddressesRow.holds Tryz.pinned (OpenSpec.ofChange mendAddressesWrong)

/-- 'garderobelaw16.MendPlays': WHATEVER THE INPUT: true; the input reads as it did. -/
def mendPlaysSpec : ChangeSpec := { name := "mendPlays", fn := fun _ => fun
  | [d1, d2, d3, d4] => { results := [.lit (.bool true)], args := [d1, d2, d3, d4] }
  | _ => none }
def mendPlaysRow : OpenClaim := { program := "ytdfclocfackkmaagreat", sum := "c0cf7bcff37fcb4fa8661ab30536a619c9a9381f194958c4f5409ff632b256f9", func := "garderobe/garderobelaw16.MendPlays", spec := "mendPlays", inPlace := ["math/bits.Add64"], unfollowed := true, recurses := true, plainKeys := false, apart := false }
def MendPlaysSaid : Prop := mendPlaysRow.holds Tryz.pinned (OpenSpec.ofChange mendPlaysSpec)

/-- ITS FALSE NEIGHBOUR: 'it returns false'. Refute it at one input. -/
def mendPlaysWrong : ChangeSpec := { name := "mendPlays", fn := fun _ => fun
  | [d1, d2, d3, d4] => { results := [.lit (.bool false)], args := [d1, d2, d3, d4] }
  | _ => none }
def MendPlaysWrongFalsely : Prop := mendPlaysRow.holds Tryz.pinned (OpenSpec.ofChange mendPlaysWrong)

/-- 'garderobelaw16.MendShown': WHATEVER THE INPUT: true; the input reads as it did. -/
def mendShownSpec : ChangeSpec := { name := "mendShown", fn := fun _ => fun
  | [d1, d2, d3] => { results := [.lit (.bool true)], args := [d1, d2, d3] }
  | _ => none }
def mendShownRow : OpenClaim := { program := "ytdfclocfackkmaagreat", sum := "c0cf7bcff37fcb4fa8661ab30536a619c9a9381f194958c4f5409ff632b256f9", func := "garderobe/garderobelaw16.MendShown", spec := "mendShown", inPlace := ["math/bits.Add64"], unfollowed := true, recurses := true, plainKeys := false, apart := false }
def MendShownSaid : Prop := mendShownRow.holds Tryz.pinned (OpenSpec.ofChange mendShownSpec)

/-- ITS FALSE NEIGHBOUR: 'it returns false'. Refute it at one input. -/
def mendShownWrong : ChangeSpec := { name := "mendShown", fn := fun _ => fun
  | [d1, d2, d3] => { results := [.lit (.bool false)], args := [d1, d2, d3] }
  | _ => none }
def MendShownWrongFalsely : Prop := mendShownRow.holds Tryz.pinned (OpenSpec.ofChange mendShownWrong)

/- THE SECOND FORM. 'bulk': how many values and letters a reading holds, each counted each time it is reached (what is shared counts as often as it is met; a slice's spare places count too). A statement '..UptoSaid' is the law's where the arguments, and the package variables that the reading takes, are together of bulk at most 1048576: NARROWER than '..Said'. Prove '..Said' where nothing that the law and all that it calls make is longer than what came in: it says more and counts as full. Else prove '..UptoSaid'. A law counts once. -/
mutual
def uptoBulk {H : Type} : DataW H → Nat
  | .lit (.string bytes) => bytes.length + 1
  | .lit _ => 1
  | .nil => 1
  | .ptr d => uptoBulk d + 1
  | .slice elems spare => uptoBulkAll elems + uptoBulkAll spare + 1
  | .agg parts => uptoBulkAll parts + 1
  | .iface _ d => uptoBulk d + 1
  | .map entries => uptoBulkEntries entries + 1
  | .held _ => 1
def uptoBulkAll {H : Type} : List (DataW H) → Nat
  | [] => 0
  | d :: r => uptoBulk d + uptoBulkAll r
def uptoBulkEntries {H : Type} : List (Lit × DataW H) → Nat
  | [] => 0
  | x :: r => uptoBulkEntry x + uptoBulkEntries r
def uptoBulkEntry {H : Type} : Lit × DataW H → Nat
  | (.string bytes, d) => bytes.length + uptoBulk d + 1
  | (_, d) => uptoBulk d + 1
 end
def uptoSmall : (H : Type) → List (DataW H) → Bool := fun _ ds => decide (uptoBulkAll ds ≤ 1048576)
def OpenSpec.upto (s : _root_.Go.ChangeSpec) : _root_.Go.OpenSpec := { _root_.Go.OpenSpec.ofChange s with cond := some uptoSmall }

/-- 'garderobelaw16.MendOnce', WHERE WHAT IT READS IS OF BULK AT MOST 1048576: true; the input reads as it did. -/
def mendOnceUptoRow : OpenClaim := { program := "ytdfclocfackkmaagreat", sum := "c0cf7bcff37fcb4fa8661ab30536a619c9a9381f194958c4f5409ff632b256f9", func := "garderobe/garderobelaw16.MendOnce", spec := "mendOnce", inPlace := ["math/bits.Add64"], unfollowed := true, recurses := true, plainKeys := false, apart := false, narrowed := true }
def MendOnceUptoSaid : Prop := mendOnceUptoRow.holds Tryz.pinned (OpenSpec.upto mendOnceSpec)

/-- 'garderobelaw16.MendAddresses', WHERE WHAT IT READS IS OF BULK AT MOST 1048576: true; the input reads as it did. -/
def mendAddressesUptoRow : OpenClaim := { program := "ytdfclocfackkmaagreat", sum := "c0cf7bcff37fcb4fa8661ab30536a619c9a9381f194958c4f5409ff632b256f9", func := "garderobe/garderobelaw16.MendAddresses", spec := "mendAddresses", inPlace := ["math/bits.Add64"], unfollowed := true, recurses := true, plainKeys := false, apart := false, narrowed := true }
def MendAddressesUptoSaid : Prop := mendAddressesUptoRow.holds Tryz.pinned (OpenSpec.upto mendAddressesSpec)

/-- 'garderobelaw16.MendPlays', WHERE WHAT IT READS IS OF BULK AT MOST 1048576: true; the input reads as it did. -/
def mendPlaysUptoRow : OpenClaim := { program := "ytdfclocfackkmaagreat", sum := "c0cf7bcff37fcb4fa8661ab30536a619c9a9381f194958c4f5409ff632b256f9", func := "garderobe/garderobelaw16.MendPlays", spec := "mendPlays", inPlace := ["math/bits.Add64"], unfollowed := true, recurses := true, plainKeys := false, apart := false, narrowed := true }
def MendPlaysUptoSaid : Prop := mendPlaysUptoRow.holds Tryz.pinned (OpenSpec.upto mendPlaysSpec)

/-- 'garderobelaw16.MendShown', WHERE WHAT IT READS IS OF BULK AT MOST 1048576: true; the input reads as it did. -/
def mendShownUptoRow : OpenClaim := { program := "ytdfclocfackkmaagreat", sum := "c0cf7bcff37fcb4fa8661ab30536a619c9a9381f194958c4f5409ff632b256f9", func := "garderobe/garderobelaw16.MendShown", spec := "mendShown", inPlace := ["math/bits.Add64"], unfollowed := true, recurses := true, plainKeys := false, apart := false, narrowed := true }
def MendShownUptoSaid : Prop := mendShownUptoRow.holds Tryz.pinned (OpenSpec.upto mendShownSpec)

end Rows
end Go.Proofs.YtdfclocfackkmaaGreat
