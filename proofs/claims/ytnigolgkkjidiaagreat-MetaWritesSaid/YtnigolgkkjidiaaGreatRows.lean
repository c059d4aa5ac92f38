/-
  No cell of these rows narrows 'for every input' (looked for: loops, veiled, ifaces, maps, wideKeys, modest, calm, conditions, laid).
  DERIVED. THE GIVEN ROWS OF THIS SEAT. 6 by the template 'for every input the law returns true; each argument reads behind the call as it read before'; 0 by the template 'total and deterministic' (their statements: YtnigolgkkjidiaaGreatTotals.lean).
  GIVEN WITH THE SEED: the statements are not yours to turn. If you find one false, say at which input.
  Laid BY PROGRAM, IN A SANDBOX (cutbox-rows.mjs): the forced cells as the released guide's own fill.sh prints them over the translation b84927a51f0a2bad… (all of the seat's roots in one cut). By AI agents, Wed Nov 11 2026. No macro, syntax, notation, axiom, sorry.
-/
import Derived.Test.YtnigolgkkjidiaaGreatChecked
import GoSem.Claim
import GoSem.ClaimJoined
import GoSem.ClaimMapViews
import Derived.JoinedTies
import Derived.KernelRfl
namespace Go.Proofs.YtnigolgkkjidiaaGreat
/- THE CELL 'sum', in the pinned program and in every row, IS THE sha256 OF THE DUMP (.gsa) THAT YtnigolgkkjidiaaGreatProg.lean LOADS. Nothing in Lean hashes anything: it is a label: what it is worth is what the hold of that sum in a sandbox is worth. -/
noncomputable def Tryz.pinned : Pinned := { name := "ytnigolgkkjidiaagreat", sum := "b84927a51f0a2bad84fbf5afce4e1c89fc625079146d7d85ab9c7bb6bad1b04f", checked := Tryz.checked }
namespace Rows
def none {H : Type} : Left H := { results := [], args := [] }

/-- 'garderobelaw16.MendNil': WHATEVER THE INPUT: true; the input reads as it did. -/
def mendNilSpec : ChangeSpec := { name := "mendNil", fn := fun _ => fun
  | [d1, d2] => { results := [.lit (.bool true)], args := [d1, d2] }
  | _ => none }
def mendNilRow : OpenClaim := { program := "ytnigolgkkjidiaagreat", sum := "b84927a51f0a2bad84fbf5afce4e1c89fc625079146d7d85ab9c7bb6bad1b04f", func := "garderobe/garderobelaw16.MendNil", spec := "mendNil", inPlace := ["math/bits.Add64"], unfollowed := true, recurses := true, plainKeys := false, apart := false }
def MendNilSaid : Prop := mendNilRow.holds Tryz.pinned (OpenSpec.ofChange mendNilSpec)

/-- ITS FALSE NEIGHBOUR: 'it returns false'. Refute it at one input. -/
def mendNilWrong : ChangeSpec := { name := "mendNil", fn := fun _ => fun
  | [d1, d2] => { results := [.lit (.bool false)], args := [d1, d2] }
  | _ => none }
def MendNilWrongFalsely : Prop := mendNilRow.holds Tryz.pinned (OpenSpec.ofChange mendNilWrong)

/-- 'garderobelaw21.BatchFull': WHATEVER THE INPUT: true; the input reads as it did. -/
def batchFullSpec : ChangeSpec := { name := "batchFull", fn := fun _ => fun
  | [d1, d2, d3] => { results := [.lit (.bool true)], args := [d1, d2, d3] }
  | _ => none }
def batchFullRow : OpenClaim := { program := "ytnigolgkkjidiaagreat", sum := "b84927a51f0a2bad84fbf5afce4e1c89fc625079146d7d85ab9c7bb6bad1b04f", func := "garderobe/garderobelaw21.BatchFull", spec := "batchFull", inPlace := ["math/bits.Add64"], unfollowed := true, recurses := true, plainKeys := false, apart := false }
def BatchFullSaid : Prop := batchFullRow.holds Tryz.pinned (OpenSpec.ofChange batchFullSpec)

/-- ITS FALSE NEIGHBOUR: 'it returns false'. Refute it at one input. -/
def batchFullWrong : ChangeSpec := { name := "batchFull", fn := fun _ => fun
  | [d1, d2, d3] => { results := [.lit (.bool false)], args := [d1, d2, d3] }
  | _ => none }
def BatchFullWrongFalsely : Prop := batchFullRow.holds Tryz.pinned (OpenSpec.ofChange batchFullWrong)

/-- 'garderobelaw21.BatchReads': WHATEVER THE INPUT: true; the input reads as it did. -/
def batchReadsSpec : ChangeSpec := { name := "batchReads", fn := fun _ => fun
  | [d1, d2] => { results := [.lit (.bool true)], args := [d1, d2] }
  | _ => none }
def batchReadsRow : OpenClaim := { program := "ytnigolgkkjidiaagreat", sum := "b84927a51f0a2bad84fbf5afce4e1c89fc625079146d7d85ab9c7bb6bad1b04f", func := "garderobe/garderobelaw21.BatchReads", spec := "batchReads", inPlace := ["math/bits.Add64"], unfollowed := true, recurses := true, plainKeys := false, apart := false }
def BatchReadsSaid : Prop := batchReadsRow.holds Tryz.pinned (OpenSpec.ofChange batchReadsSpec)

/-- ITS FALSE NEIGHBOUR: 'it returns false'. Refute it at one input. -/
def batchReadsWrong : ChangeSpec := { name := "batchReads", fn := fun _ => fun
  | [d1, d2] => { results := [.lit (.bool false)], args := [d1, d2] }
  | _ => none }
def BatchReadsWrongFalsely : Prop := batchReadsRow.holds Tryz.pinned (OpenSpec.ofChange batchReadsWrong)

/-- 'garderobelaw22.MetaReads': WHATEVER THE INPUT: true; the input reads as it did. -/
def metaReadsSpec : ChangeSpec := { name := "metaReads", fn := fun _ => fun
  | [d1, d2, d3, d4, d5] => { results := [.lit (.bool true)], args := [d1, d2, d3, d4, d5] }
  | _ => none }
def metaReadsRow : OpenClaim := { program := "ytnigolgkkjidiaagreat", sum := "b84927a51f0a2bad84fbf5afce4e1c89fc625079146d7d85ab9c7bb6bad1b04f", func := "garderobe/garderobelaw22.MetaReads", spec := "metaReads", inPlace := ["math/bits.Add64"], unfollowed := true, recurses := true, plainKeys := false, apart := false }
def MetaReadsSaid : Prop := metaReadsRow.holds Tryz.pinned (OpenSpec.ofChange metaReadsSpec)

/-- ITS FALSE NEIGHBOUR: 'it returns false'. Refute it at one input. -/
def metaReadsWrong : ChangeSpec := { name := "metaReads", fn := fun _ => fun
  | [d1, d2, d3, d4, d5] => { results := [.lit (.bool false)], args := [d1, d2, d3, d4, d5] }
  | _ => none }
def MetaReadsWrongFalsely : Prop := metaReadsRow.holds Tryz.pinned (OpenSpec.ofChange metaReadsWrong)

/-- 'garderobelaw22.MetaWrites': WHATEVER THE INPUT: true; the input reads as it did. -/
def metaWritesSpec : ChangeSpec := { name := "metaWrites", fn := fun _ => fun
  | [d1, d2, d3] => { results := [.lit (.bool true)], args := [d1, d2, d3] }
  | _ => none }
def metaWritesRow : OpenClaim := { program := "ytnigolgkkjidiaagreat", sum := "b84927a51f0a2bad84fbf5afce4e1c89fc625079146d7d85ab9c7bb6bad1b04f", func := "garderobe/garderobelaw22.MetaWrites", spec := "metaWrites", inPlace := ["math/bits.Add64"], unfollowed := true, recurses := true, plainKeys := false, apart := false }
def MetaWritesSaid : Prop := metaWritesRow.holds Tryz.pinned (OpenSpec.ofChange metaWritesSpec)

/-- ITS FALSE NEIGHBOUR: 'it returns false'. Refute it at one input. -/
def metaWritesWrong : ChangeSpec := { name := "metaWrites", fn := fun _ => fun
  | [d1, d2, d3] => { results := [.lit (.bool false)], args := [d1, d2, d3] }
  | _ => none }
def MetaWritesWrongFalsely : Prop := metaWritesRow.holds Tryz.pinned (OpenSpec.ofChange metaWritesWrong)

/-- 'garderobelaw22.MetaSame': WHATEVER THE INPUT: true; the input reads as it did. -/
def metaSameSpec : ChangeSpec := { name := "metaSame", fn := fun _ => fun
  | [d1, d2] => { results := [.lit (.bool true)], args := [d1, d2] }
  | _ => none }
def metaSameRow : OpenClaim := { program := "ytnigolgkkjidiaagreat", sum := "b84927a51f0a2bad84fbf5afce4e1c89fc625079146d7d85ab9c7bb6bad1b04f", func := "garderobe/garderobelaw22.MetaSame", spec := "metaSame", inPlace := ["math/bits.Add64"], unfollowed := true, recurses := true, plainKeys := false, apart := false }
def MetaSameSaid : Prop := metaSameRow.holds Tryz.pinned (OpenSpec.ofChange metaSameSpec)

/-- ITS FALSE NEIGHBOUR: 'it returns false'. Refute it at one input. -/
def metaSameWrong : ChangeSpec := { name := "metaSame", fn := fun _ => fun
  | [d1, d2] => { results := [.lit (.bool false)], args := [d1, d2] }
  | _ => none }
def MetaSameWrongFalsely : Prop := metaSameRow.holds Tryz.pinned (OpenSpec.ofChange metaSameWrong)

/- THE SECOND FORM. 'bulk': how many values and letters a reading holds, each counted each time it is reached (what is shared counts as often as it is met; a slice's spare places count too). A statement '..UptoSaid' is the law's where the arguments, and the package variables that the reading takes, are together of bulk at most 1048576: NARROWER than '..Said'. Prove '..Said' where nothing that the law and all that it calls make is longer than what came in: it says more and counts as full. Else prove '..UptoSaid'. A law counts once. -/
mutual
def uptoBulk {H : Type} : DataW H → Nat
  | .lit (.string bytes) => bytes.length + 1
  | .lit _ => 1
  | .nil => 1
  | .ptr d => uptoBulk d + 1
  | .slice elems spare => uptoBulkAll elems + uptoBulkAll spare + 1
  | .agg parts => uptoBulkAll parts + 1
  | .iface _ d => uptoBulk d + 1
  | .map entries => uptoBulkEntries entries + 1
  | .held _ => 1
def uptoBulkAll {H : Type} : List (DataW H) → Nat
  | [] => 0
  | d :: r => uptoBulk d + uptoBulkAll r
def uptoBulkEntries {H : Type} : List (Lit × DataW H) → Nat
  | [] => 0
  | x :: r => uptoBulkEntry x + uptoBulkEntries r
def uptoBulkEntry {H : Type} : Lit × DataW H → Nat
  | (.string bytes, d) => bytes.length + uptoBulk d + 1
  | (_, d) => uptoBulk d + 1
 end
def uptoSmall : (H : Type) → List (DataW H) → Bool := fun _ ds => decide (uptoBulkAll ds ≤ 1048576)
def OpenSpec.upto (s : _root_.Go.ChangeSpec) : _root_.Go.OpenSpec := { _root_.Go.OpenSpec.ofChange s with cond := some uptoSmall }

/-- 'garderobelaw16.MendNil', WHERE WHAT IT READS IS OF BULK AT MOST 1048576: true; the input reads as it did. -/
def mendNilUptoRow : OpenClaim := { program := "ytnigolgkkjidiaagreat", sum := "b84927a51f0a2bad84fbf5afce4e1c89fc625079146d7d85ab9c7bb6bad1b04f", func := "garderobe/garderobelaw16.MendNil", spec := "mendNil", inPlace := ["math/bits.Add64"], unfollowed := true, recurses := true, plainKeys := false, apart := false, narrowed := true }
def MendNilUptoSaid : Prop := mendNilUptoRow.holds Tryz.pinned (OpenSpec.upto mendNilSpec)

/-- 'garderobelaw21.BatchFull', WHERE WHAT IT READS IS OF BULK AT MOST 1048576: true; the input reads as it did. -/
def batchFullUptoRow : OpenClaim := { program := "ytnigolgkkjidiaagreat", sum := "b84927a51f0a2bad84fbf5afce4e1c89fc625079146d7d85ab9c7bb6bad1b04f", func := "garderobe/garderobelaw21.BatchFull", spec := "batchFull", inPlace := ["math/bits.Add64"], unfollowed := true, recurses := true, plainKeys := false, apart := false, narrowed := true }
def BatchFullUptoSaid : Prop := batchFullUptoRow.holds Tryz.pinned (OpenSpec.upto batchFullSpec)

/-- 'garderobelaw21.BatchReads', WHERE WHAT IT READS IS OF BULK AT MOST 1048576: true; the input reads as it did. -/
def batchReadsUptoRow : OpenClaim := { program := "ytnigolgkkjidiaagreat", sum := "b84927a51f0a2bad84fbf5afce4e1c89fc625079146d7d85ab9c7bb6bad1b04f", func := "garderobe/garderobelaw21.BatchReads", spec := "batchReads", inPlace := ["math/bits.Add64"], unfollowed := true, recurses := true, plainKeys := false, apart := false, narrowed := true }
def BatchReadsUptoSaid : Prop := batchReadsUptoRow.holds Tryz.pinned (OpenSpec.upto batchReadsSpec)

/-- 'garderobelaw22.MetaReads', WHERE WHAT IT READS IS OF BULK AT MOST 1048576: true; the input reads as it did. -/
def metaReadsUptoRow : OpenClaim := { program := "ytnigolgkkjidiaagreat", sum := "b84927a51f0a2bad84fbf5afce4e1c89fc625079146d7d85ab9c7bb6bad1b04f", func := "garderobe/garderobelaw22.MetaReads", spec := "metaReads", inPlace := ["math/bits.Add64"], unfollowed := true, recurses := true, plainKeys := false, apart := false, narrowed := true }
def MetaReadsUptoSaid : Prop := metaReadsUptoRow.holds Tryz.pinned (OpenSpec.upto metaReadsSpec)

/-- 'garderobelaw22.MetaWrites', WHERE WHAT IT READS IS OF BULK AT MOST 1048576: true; the input reads as it did. -/
def metaWritesUptoRow : OpenClaim := { program := "ytnigolgkkjidiaagreat", sum := "b84927a51f0a2bad84fbf5afce4e1c89fc625079146d7d85ab9c7bb6bad1b04f", func := "garderobe/garderobelaw22.MetaWrites", spec := "metaWrites", inPlace := ["math/bits.Add64"], unfollowed := true, recurses := true, plainKeys := false, apart := false, narrowed := true }
def MetaWritesUptoSaid : Prop := metaWritesUptoRow.holds Tryz.pinned (OpenSpec.upto metaWritesSpec)

/-- 'garderobelaw22.MetaSame', WHERE WHAT IT READS IS OF BULK AT MOST 1048576: true; the input reads as it did. -/
def metaSameUptoRow : OpenClaim := { program := "ytnigolgkkjidiaagreat", sum := "b84927a51f0a2bad84fbf5afce4e1c89fc625079146d7d85ab9c7bb6bad1b04f", func := "garderobe/garderobelaw22.MetaSame", spec := "metaSame", inPlace := ["math/bits.Add64"], unfollowed := true, recurses := true, plainKeys := false, apart := false, narrowed := true }
def MetaSameUptoSaid : Prop := metaSameUptoRow.holds Tryz.pinned (OpenSpec.upto metaSameSpec)

end Rows
end Go.Proofs.YtnigolgkkjidiaaGreat
