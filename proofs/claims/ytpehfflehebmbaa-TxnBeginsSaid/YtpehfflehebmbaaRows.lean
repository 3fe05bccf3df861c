/-
  No cell of these rows narrows 'for every input' (looked for: loops, veiled, ifaces, maps, wideKeys, modest, calm, conditions, laid).
  DERIVED. THE GIVEN ROWS OF THIS SEAT. 10 by the template 'for every input the law returns true; each argument reads behind the call as it read before'; 0 by the template 'total and deterministic' (their statements: YtpehfflehebmbaaTotals.lean).
  GIVEN WITH THE SEED: the statements are not yours to turn. If you find one false, say at which input.
  Laid BY PROGRAM, IN A SANDBOX (cutbox-rows.mjs): the forced cells as the released guide's own fill.sh prints them over the translation 541562e636e78f48… (all of the seat's roots in one cut). By AI agents, Wed Nov 11 2026. No macro, syntax, notation, axiom, sorry.
-/
import Derived.Test.YtpehfflehebmbaaChecked
import GoSem.Claim
import GoSem.ClaimJoined
import GoSem.ClaimMapViews
import Derived.JoinedTies
import Derived.KernelRfl
namespace Go.Proofs.Ytpehfflehebmbaa
/- THE CELL 'sum', in the pinned program and in every row, IS THE sha256 OF THE DUMP (.gsa) THAT YtpehfflehebmbaaProg.lean LOADS. Nothing in Lean hashes anything: it is a label: what it is worth is what the hold of that sum in a sandbox is worth. -/
noncomputable def Try.pinned : Pinned := { name := "ytpehfflehebmbaa", sum := "541562e636e78f4825175c58310a6cd17ea6751e64a180c47ae5ff0183707d6c", checked := Try.checked }
namespace Rows
def none {H : Type} : Left H := { results := [], args := [] }

/-- 'ambrylaw14.SpaceBatches': WHATEVER THE INPUT: true; the input reads as it did. -/
def spaceBatchesSpec : ChangeSpec := { name := "spaceBatches", fn := fun _ => fun
  | [d1, d2] => { results := [.lit (.bool true)], args := [d1, d2] }
  | _ => none }
def spaceBatchesRow : OpenClaim := { program := "ytpehfflehebmbaa", sum := "541562e636e78f4825175c58310a6cd17ea6751e64a180c47ae5ff0183707d6c", func := "ambry/ambrylaw14.SpaceBatches", spec := "spaceBatches", inPlace := ["slices.overlaps[string]"], unfollowed := true, recurses := true, apart := false }
def SpaceBatchesSaid : Prop := spaceBatchesRow.holds Try.pinned (OpenSpec.ofChange spaceBatchesSpec)

/-- ITS FALSE NEIGHBOUR: 'it returns false'. Refute it at one input. -/
def spaceBatchesWrong : ChangeSpec := { name := "spaceBatches", fn := fun _ => fun
  | [d1, d2] => { results := [.lit (.bool false)], args := [d1, d2] }
  | _ => none }
def SpaceBatchesWrongFalsely : Prop := spaceBatchesRow.holds Try.pinned (OpenSpec.ofChange spaceBatchesWrong)

/-- 'ambrylaw14.SpaceNil': WHATEVER THE INPUT: true; the input reads as it did. -/
def spaceNilSpec : ChangeSpec := { name := "spaceNil", fn := fun _ => fun
  | [d1, d2, d3, d4] => { results := [.lit (.bool true)], args := [d1, d2, d3, d4] }
  | _ => none }
def spaceNilRow : OpenClaim := { program := "ytpehfflehebmbaa", sum := "541562e636e78f4825175c58310a6cd17ea6751e64a180c47ae5ff0183707d6c", func := "ambry/ambrylaw14.SpaceNil", spec := "spaceNil", inPlace := ["slices.overlaps[string]"], unfollowed := true, recurses := true, apart := false }
def SpaceNilSaid : Prop := spaceNilRow.holds Try.pinned (OpenSpec.ofChange spaceNilSpec)

/-- ITS FALSE NEIGHBOUR: 'it returns false'. Refute it at one input. -/
def spaceNilWrong : ChangeSpec := { name := "spaceNil", fn := fun _ => fun
  | [d1, d2, d3, d4] => { results := [.lit (.bool false)], args := [d1, d2, d3, d4] }
  | _ => none }
def SpaceNilWrongFalsely : Prop := spaceNilRow.holds Try.pinned (OpenSpec.ofChange spaceNilWrong)

/-- 'ambrylaw14.SpaceLoads': WHATEVER THE INPUT: true; the input reads as it did. -/
def spaceLoadsSpec : ChangeSpec := { name := "spaceLoads", fn := fun _ => fun
  | [d1, d2, d3, d4, d5] => { results := [.lit (.bool true)], args := [d1, d2, d3, d4, d5] }
  | _ => none }
def spaceLoadsRow : OpenClaim := { program := "ytpehfflehebmbaa", sum := "541562e636e78f4825175c58310a6cd17ea6751e64a180c47ae5ff0183707d6c", func := "ambry/ambrylaw14.SpaceLoads", spec := "spaceLoads", inPlace := ["slices.overlaps[string]"], unfollowed := true, recurses := true, apart := false }
def SpaceLoadsSaid : Prop := spaceLoadsRow.holds Try.pinned (OpenSpec.ofChange spaceLoadsSpec)

/-- ITS FALSE NEIGHBOUR: 'it returns false'. Refute it at one input. -/
def spaceLoadsWrong : ChangeSpec := { name := "spaceLoads", fn := fun _ => fun
  | [d1, d2, d3, d4, d5] => { results := [.lit (.bool false)], args := [d1, d2, d3, d4, d5] }
  | _ => none }
def SpaceLoadsWrongFalsely : Prop := spaceLoadsRow.holds Try.pinned (OpenSpec.ofChange spaceLoadsWrong)

/-- 'ambrylaw14.SpacePlays': WHATEVER THE INPUT: true; the input reads as it did. -/
def spacePlaysSpec : ChangeSpec := { name := "spacePlays", fn := fun _ => fun
  | [d1, d2, d3, d4, d5] => { results := [.lit (.bool true)], args := [d1, d2, d3, d4, d5] }
  | _ => none }
def spacePlaysRow : OpenClaim := { program := "ytpehfflehebmbaa", sum := "541562e636e78f4825175c58310a6cd17ea6751e64a180c47ae5ff0183707d6c", func := "ambry/ambrylaw14.SpacePlays", spec := "spacePlays", inPlace := ["slices.overlaps[string]"], unfollowed := true, recurses := true, apart := false }
def SpacePlaysSaid : Prop := spacePlaysRow.holds Try.pinned (OpenSpec.ofChange spacePlaysSpec)

/-- ITS FALSE NEIGHBOUR: 'it returns false'. Refute it at one input. -/
def spacePlaysWrong : ChangeSpec := { name := "spacePlays", fn := fun _ => fun
  | [d1, d2, d3, d4, d5] => { results := [.lit (.bool false)], args := [d1, d2, d3, d4, d5] }
  | _ => none }
def SpacePlaysWrongFalsely : Prop := spacePlaysRow.holds Try.pinned (OpenSpec.ofChange spacePlaysWrong)

/-- 'ambrylaw14.SpaceStays': WHATEVER THE INPUT: true; the input reads as it did. -/
def spaceStaysSpec : ChangeSpec := { name := "spaceStays", fn := fun _ => fun
  | [d1, d2, d3, d4, d5] => { results := [.lit (.bool true)], args := [d1, d2, d3, d4, d5] }
  | _ => none }
def spaceStaysRow : OpenClaim := { program := "ytpehfflehebmbaa", sum := "541562e636e78f4825175c58310a6cd17ea6751e64a180c47ae5ff0183707d6c", func := "ambry/ambrylaw14.SpaceStays", spec := "spaceStays", inPlace := ["slices.overlaps[string]"], unfollowed := true, recurses := true, apart := false }
def SpaceStaysSaid : Prop := spaceStaysRow.holds Try.pinned (OpenSpec.ofChange spaceStaysSpec)

/-- ITS FALSE NEIGHBOUR: 'it returns false'. Refute it at one input. -/
def spaceStaysWrong : ChangeSpec := { name := "spaceStays", fn := fun _ => fun
  | [d1, d2, d3, d4, d5] => { results := [.lit (.bool false)], args := [d1, d2, d3, d4, d5] }
  | _ => none }
def SpaceStaysWrongFalsely : Prop := spaceStaysRow.holds Try.pinned (OpenSpec.ofChange spaceStaysWrong)

/-- 'ambrylaw14.SpaceScan': WHATEVER THE INPUT: true; the input reads as it did. -/
def spaceScanSpec : ChangeSpec := { name := "spaceScan", fn := fun _ => fun
  | [d1, d2, d3, d4, d5] => { results := [.lit (.bool true)], args := [d1, d2, d3, d4, d5] }
  | _ => none }
def spaceScanRow : OpenClaim := { program := "ytpehfflehebmbaa", sum := "541562e636e78f4825175c58310a6cd17ea6751e64a180c47ae5ff0183707d6c", func := "ambry/ambrylaw14.SpaceScan", spec := "spaceScan", inPlace := ["slices.overlaps[string]"], unfollowed := true, recurses := true, apart := false }
def SpaceScanSaid : Prop := spaceScanRow.holds Try.pinned (OpenSpec.ofChange spaceScanSpec)

/-- ITS FALSE NEIGHBOUR: 'it returns false'. Refute it at one input. -/
def spaceScanWrong : ChangeSpec := { name := "spaceScan", fn := fun _ => fun
  | [d1, d2, d3, d4, d5] => { results := [.lit (.bool false)], args := [d1, d2, d3, d4, d5] }
  | _ => none }
def SpaceScanWrongFalsely : Prop := spaceScanRow.holds Try.pinned (OpenSpec.ofChange spaceScanWrong)

/-- 'ambrylaw17.TxnBegins': WHATEVER THE INPUT: true; the input reads as it did. -/
def txnBeginsSpec : ChangeSpec := { name := "txnBegins", fn := fun _ => fun
  | [d1, d2, d3, d4] => { results := [.lit (.bool true)], args := [d1, d2, d3, d4] }
  | _ => none }
def txnBeginsRow : OpenClaim := { program := "ytpehfflehebmbaa", sum := "541562e636e78f4825175c58310a6cd17ea6751e64a180c47ae5ff0183707d6c", func := "ambry/ambrylaw17.TxnBegins", spec := "txnBegins", inPlace := ["slices.overlaps[string]"], unfollowed := true, recurses := true, apart := false }
def TxnBeginsSaid : Prop := txnBeginsRow.holds Try.pinned (OpenSpec.ofChange txnBeginsSpec)

/-- ITS FALSE NEIGHBOUR: 'it returns false'. Refute it at one input. -/
def txnBeginsWrong : ChangeSpec := { name := "txnBegins", fn := fun _ => fun
  | [d1, d2, d3, d4] => { results := [.lit (.bool false)], args := [d1, d2, d3, d4] }
  | _ => none }
def TxnBeginsWrongFalsely : Prop := txnBeginsRow.holds Try.pinned (OpenSpec.ofChange txnBeginsWrong)

/-- 'ambrylaw16.ReadsGrow': WHATEVER THE INPUT: true; the input reads as it did. -/
def readsGrowSpec : ChangeSpec := { name := "readsGrow", fn := fun _ => fun
  | [d1, d2, d3] => { results := [.lit (.bool true)], args := [d1, d2, d3] }
  | _ => none }
def readsGrowRow : OpenClaim := { program := "ytpehfflehebmbaa", sum := "541562e636e78f4825175c58310a6cd17ea6751e64a180c47ae5ff0183707d6c", func := "ambry/ambrylaw16.ReadsGrow", spec := "readsGrow", inPlace := ["slices.overlaps[string]"], unfollowed := true, recurses := true, apart := false }
def ReadsGrowSaid : Prop := readsGrowRow.holds Try.pinned (OpenSpec.ofChange readsGrowSpec)

/-- ITS FALSE NEIGHBOUR: 'it returns false'. Refute it at one input. -/
def readsGrowWrong : ChangeSpec := { name := "readsGrow", fn := fun _ => fun
  | [d1, d2, d3] => { results := [.lit (.bool false)], args := [d1, d2, d3] }
  | _ => none }
def ReadsGrowWrongFalsely : Prop := readsGrowRow.holds Try.pinned (OpenSpec.ofChange readsGrowWrong)

/-- 'ambrylaw16.ReadsMeet': WHATEVER THE INPUT: true; the input reads as it did. -/
def readsMeetSpec : ChangeSpec := { name := "readsMeet", fn := fun _ => fun
  | [d1, d2, d3, d4, d5] => { results := [.lit (.bool true)], args := [d1, d2, d3, d4, d5] }
  | _ => none }
def readsMeetRow : OpenClaim := { program := "ytpehfflehebmbaa", sum := "541562e636e78f4825175c58310a6cd17ea6751e64a180c47ae5ff0183707d6c", func := "ambry/ambrylaw16.ReadsMeet", spec := "readsMeet", inPlace := ["slices.overlaps[string]"], unfollowed := true, recurses := true, apart := false }
def ReadsMeetSaid : Prop := readsMeetRow.holds Try.pinned (OpenSpec.ofChange readsMeetSpec)

/-- ITS FALSE NEIGHBOUR: 'it returns false'. Refute it at one input. -/
def readsMeetWrong : ChangeSpec := { name := "readsMeet", fn := fun _ => fun
  | [d1, d2, d3, d4, d5] => { results := [.lit (.bool false)], args := [d1, d2, d3, d4, d5] }
  | _ => none }
def ReadsMeetWrongFalsely : Prop := readsMeetRow.holds Try.pinned (OpenSpec.ofChange readsMeetWrong)

/-- 'ambrylaw16.ReadsMet': WHATEVER THE INPUT: true; the input reads as it did. -/
def readsMetSpec : ChangeSpec := { name := "readsMet", fn := fun _ => fun
  | [d1, d2, d3, d4, d5] => { results := [.lit (.bool true)], args := [d1, d2, d3, d4, d5] }
  | _ => none }
def readsMetRow : OpenClaim := { program := "ytpehfflehebmbaa", sum := "541562e636e78f4825175c58310a6cd17ea6751e64a180c47ae5ff0183707d6c", func := "ambry/ambrylaw16.ReadsMet", spec := "readsMet", inPlace := ["slices.overlaps[string]"], unfollowed := true, recurses := true, apart := false }
def ReadsMetSaid : Prop := readsMetRow.holds Try.pinned (OpenSpec.ofChange readsMetSpec)

/-- ITS FALSE NEIGHBOUR: 'it returns false'. Refute it at one input. -/
def readsMetWrong : ChangeSpec := { name := "readsMet", fn := fun _ => fun
  | [d1, d2, d3, d4, d5] => { results := [.lit (.bool false)], args := [d1, d2, d3, d4, d5] }
  | _ => none }
def ReadsMetWrongFalsely : Prop := readsMetRow.holds Try.pinned (OpenSpec.ofChange readsMetWrong)

/- THE SECOND FORM. 'bulk': how many values and letters a reading holds, each counted each time it is reached (what is shared counts as often as it is met; a slice's spare places count too). A statement '..UptoSaid' is the law's where the arguments, and the package variables that the reading takes, are together of bulk at most 1048576: NARROWER than '..Said'. Prove '..Said' where nothing that the law and all that it calls make is longer than what came in: it says more and counts as full. Else prove '..UptoSaid'. A law counts once. -/
mutual
def uptoBulk {H : Type} : DataW H → Nat
  | .lit (.string bytes) => bytes.length + 1
  | .lit _ => 1
  | .nil => 1
  | .ptr d => uptoBulk d + 1
  | .slice elems spare => uptoBulkAll elems + uptoBulkAll spare + 1
  | .agg parts => uptoBulkAll parts + 1
  | .iface _ d => uptoBulk d + 1
  | .map entries => uptoBulkEntries entries + 1
  | .held _ => 1
def uptoBulkAll {H : Type} : List (DataW H) → Nat
  | [] => 0
  | d :: r => uptoBulk d + uptoBulkAll r
def uptoBulkEntries {H : Type} : List (Lit × DataW H) → Nat
  | [] => 0
  | x :: r => uptoBulkEntry x + uptoBulkEntries r
def uptoBulkEntry {H : Type} : Lit × DataW H → Nat
  | (.string bytes, d) => bytes.length + uptoBulk d + 1
  | (_, d) => uptoBulk d + 1
 end
def uptoSmall : (H : Type) → List (DataW H) → Bool := fun _ ds => decide (uptoBulkAll ds ≤ 1048576)
def OpenSpec.upto (s : _root_.Go.ChangeSpec) : _root_.Go.OpenSpec := { _root_.Go.OpenSpec.ofChange s with cond := some uptoSmall }

/-- 'ambrylaw14.SpaceBatches', WHERE WHAT IT READS IS OF BULK AT MOST 1048576: true; the input reads as it did. -/
def spaceBatchesUptoRow : OpenClaim := { program := "ytpehfflehebmbaa", sum := "541562e636e78f4825175c58310a6cd17ea6751e64a180c47ae5ff0183707d6c", func := "ambry/ambrylaw14.SpaceBatches", spec := "spaceBatches", inPlace := ["slices.overlaps[string]"], unfollowed := true, recurses := true, apart := false, narrowed := true }
def SpaceBatchesUptoSaid : Prop := spaceBatchesUptoRow.holds Try.pinned (OpenSpec.upto spaceBatchesSpec)

/-- 'ambrylaw14.SpaceNil', WHERE WHAT IT READS IS OF BULK AT MOST 1048576: true; the input reads as it did. -/
def spaceNilUptoRow : OpenClaim := { program := "ytpehfflehebmbaa", sum := "541562e636e78f4825175c58310a6cd17ea6751e64a180c47ae5ff0183707d6c", func := "ambry/ambrylaw14.SpaceNil", spec := "spaceNil", inPlace := ["slices.overlaps[string]"], unfollowed := true, recurses := true, apart := false, narrowed := true }
def SpaceNilUptoSaid : Prop := spaceNilUptoRow.holds Try.pinned (OpenSpec.upto spaceNilSpec)

/-- 'ambrylaw14.SpaceLoads', WHERE WHAT IT READS IS OF BULK AT MOST 1048576: true; the input reads as it did. -/
def spaceLoadsUptoRow : OpenClaim := { program := "ytpehfflehebmbaa", sum := "541562e636e78f4825175c58310a6cd17ea6751e64a180c47ae5ff0183707d6c", func := "ambry/ambrylaw14.SpaceLoads", spec := "spaceLoads", inPlace := ["slices.overlaps[string]"], unfollowed := true, recurses := true, apart := false, narrowed := true }
def SpaceLoadsUptoSaid : Prop := spaceLoadsUptoRow.holds Try.pinned (OpenSpec.upto spaceLoadsSpec)

/-- 'ambrylaw14.SpacePlays', WHERE WHAT IT READS IS OF BULK AT MOST 1048576: true; the input reads as it did. -/
def spacePlaysUptoRow : OpenClaim := { program := "ytpehfflehebmbaa", sum := "541562e636e78f4825175c58310a6cd17ea6751e64a180c47ae5ff0183707d6c", func := "ambry/ambrylaw14.SpacePlays", spec := "spacePlays", inPlace := ["slices.overlaps[string]"], unfollowed := true, recurses := true, apart := false, narrowed := true }
def SpacePlaysUptoSaid : Prop := spacePlaysUptoRow.holds Try.pinned (OpenSpec.upto spacePlaysSpec)

/-- 'ambrylaw14.SpaceStays', WHERE WHAT IT READS IS OF BULK AT MOST 1048576: true; the input reads as it did. -/
def spaceStaysUptoRow : OpenClaim := { program := "ytpehfflehebmbaa", sum := "541562e636e78f4825175c58310a6cd17ea6751e64a180c47ae5ff0183707d6c", func := "ambry/ambrylaw14.SpaceStays", spec := "spaceStays", inPlace := ["slices.overlaps[string]"], unfollowed := true, recurses := true, apart := false, narrowed := true }
def SpaceStaysUptoSaid : Prop := spaceStaysUptoRow.holds Try.pinned (OpenSpec.upto spaceStaysSpec)

/-- 'ambrylaw14.SpaceScan', WHERE WHAT IT READS IS OF BULK AT MOST 1048576: true; the input reads as it did. -/
def spaceScanUptoRow : OpenClaim := { program := "ytpehfflehebmbaa", sum := "541562e636e78f4825175c58310a6cd17ea6751e64a180c47ae5ff0183707d6c", func := "ambry/ambrylaw14.SpaceScan", spec := "spaceScan", inPlace := ["slices.overlaps[string]"], unfollowed := true, recurses := true, apart := false, narrowed := true }
def SpaceScanUptoSaid : Prop := spaceScanUptoRow.holds Try.pinned (OpenSpec.upto spaceScanSpec)

/-- 'ambrylaw17.TxnBegins', WHERE WHAT IT READS IS OF BULK AT MOST 1048576: true; the input reads as it did. -/
def txnBeginsUptoRow : OpenClaim := { program := "ytpehfflehebmbaa", sum := "541562e636e78f4825175c58310a6cd17ea6751e64a180c47ae5ff0183707d6c", func := "ambry/ambrylaw17.TxnBegins", spec := "txnBegins", inPlace := ["slices.overlaps[string]"], unfollowed := true, recurses := true, apart := false, narrowed := true }
def TxnBeginsUptoSaid : Prop := txnBeginsUptoRow.holds Try.pinned (OpenSpec.upto txnBeginsSpec)

/-- 'ambrylaw16.ReadsGrow', WHERE WHAT IT READS IS OF BULK AT MOST 1048576: true; the input reads as it did. -/
def readsGrowUptoRow : OpenClaim := { program := "ytpehfflehebmbaa", sum := "541562e636e78f4825175c58310a6cd17ea6751e64a180c47ae5ff0183707d6c", func := "ambry/ambrylaw16.ReadsGrow", spec := "readsGrow", inPlace := ["slices.overlaps[string]"], unfollowed := true, recurses := true, apart := false, narrowed := true }
def ReadsGrowUptoSaid : Prop := readsGrowUptoRow.holds Try.pinned (OpenSpec.upto readsGrowSpec)

/-- 'ambrylaw16.ReadsMeet', WHERE WHAT IT READS IS OF BULK AT MOST 1048576: true; the input reads as it did. -/
def readsMeetUptoRow : OpenClaim := { program := "ytpehfflehebmbaa", sum := "541562e636e78f4825175c58310a6cd17ea6751e64a180c47ae5ff0183707d6c", func := "ambry/ambrylaw16.ReadsMeet", spec := "readsMeet", inPlace := ["slices.overlaps[string]"], unfollowed := true, recurses := true, apart := false, narrowed := true }
def ReadsMeetUptoSaid : Prop := readsMeetUptoRow.holds Try.pinned (OpenSpec.upto readsMeetSpec)

/-- 'ambrylaw16.ReadsMet', WHERE WHAT IT READS IS OF BULK AT MOST 1048576: true; the input reads as it did. -/
def readsMetUptoRow : OpenClaim := { program := "ytpehfflehebmbaa", sum := "541562e636e78f4825175c58310a6cd17ea6751e64a180c47ae5ff0183707d6c", func := "ambry/ambrylaw16.ReadsMet", spec := "readsMet", inPlace := ["slices.overlaps[string]"], unfollowed := true, recurses := true, apart := false, narrowed := true }
def ReadsMetUptoSaid : Prop := readsMetUptoRow.holds Try.pinned (OpenSpec.upto readsMetSpec)

end Rows
end Go.Proofs.Ytpehfflehebmbaa
