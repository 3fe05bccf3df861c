/-
  No cell of these rows narrows 'for every input' (looked for: loops, veiled, ifaces, maps, wideKeys, modest, calm, conditions, laid).
  DERIVED. THE GIVEN ROWS OF THIS SEAT. 4 by the template 'for every input the law returns true; each argument reads behind the call as it read before'; 0 by the template 'total and deterministic' (their statements: YtpehfflehebmbaaGreatTotals.lean).
  GIVEN WITH THE SEED: the statements are not yours to turn. If you find one false, say at which input.
  Laid BY PROGRAM, IN A SANDBOX (cutbox-rows.mjs): the forced cells as the released guide's own fill.sh prints them over the translation b54640199a8baa15… (all of the seat's roots in one cut). By AI agents, Wed Nov 11 2026. No macro, syntax, notation, axiom, sorry.
-/
import Derived.Test.YtpehfflehebmbaaGreatChecked
import GoSem.Claim
import GoSem.ClaimJoined
import GoSem.ClaimMapViews
import Derived.JoinedTies
import Derived.KernelRfl
namespace Go.Proofs.YtpehfflehebmbaaGreat
/- THE CELL 'sum', in the pinned program and in every row, IS THE sha256 OF THE DUMP (.gsa) THAT YtpehfflehebmbaaGreatProg.lean LOADS. Nothing in Lean hashes anything: it is a label: what it is worth is what the hold of that sum in a sandbox is worth. -/
noncomputable def Tryz.pinned : Pinned := { name := "ytpehfflehebmbaagreat", sum := "b54640199a8baa1540b5d0cd8c6051a9a31f5c92d25b23a45d753a48f881e4e0", checked := Tryz.checked }
namespace Rows
def none {H : Type} : Left H := { results := [], args := [] }

/-- 'ambrylaw17.TxnOwn': WHATEVER THE INPUT: true; the input reads as it did. -/
def txnOwnSpec : ChangeSpec := { name := "txnOwn", fn := fun _ => fun
  | [d1, d2, d3, d4] => { results := [.lit (.bool true)], args := [d1, d2, d3, d4] }
  | _ => none }
def txnOwnRow : OpenClaim := { program := "ytpehfflehebmbaagreat", sum := "b54640199a8baa1540b5d0cd8c6051a9a31f5c92d25b23a45d753a48f881e4e0", func := "ambry/ambrylaw17.TxnOwn", spec := "txnOwn", inPlace := ["slices.overlaps[string]"], unfollowed := true, recurses := true, apart := false }
def TxnOwnSaid : Prop := txnOwnRow.holds Tryz.pinned (OpenSpec.ofChange txnOwnSpec)

/-- ITS FALSE NEIGHBOUR: 'it returns false'. Refute it at one input. -/
def txnOwnWrong : ChangeSpec := { name := "txnOwn", fn := fun _ => fun
  | [d1, d2, d3, d4] => { results := [.lit (.bool false)], args := [d1, d2, d3, d4] }
  | _ => none }
def TxnOwnWrongFalsely : Prop := txnOwnRow.holds Tryz.pinned (OpenSpec.ofChange txnOwnWrong)

/-- 'ambrylaw17.TxnStill': WHATEVER THE INPUT: true; the input reads as it did. -/
def txnStillSpec : ChangeSpec := { name := "txnStill", fn := fun _ => fun
  | [d1, d2, d3, d4, d5] => { results := [.lit (.bool true)], args := [d1, d2, d3, d4, d5] }
  | _ => none }
def txnStillRow : OpenClaim := { program := "ytpehfflehebmbaagreat", sum := "b54640199a8baa1540b5d0cd8c6051a9a31f5c92d25b23a45d753a48f881e4e0", func := "ambry/ambrylaw17.TxnStill", spec := "txnStill", inPlace := ["slices.overlaps[string]"], unfollowed := true, recurses := true, apart := false }
def TxnStillSaid : Prop := txnStillRow.holds Tryz.pinned (OpenSpec.ofChange txnStillSpec)

/-- ITS FALSE NEIGHBOUR: 'it returns false'. Refute it at one input. -/
def txnStillWrong : ChangeSpec := { name := "txnStill", fn := fun _ => fun
  | [d1, d2, d3, d4, d5] => { results := [.lit (.bool false)], args := [d1, d2, d3, d4, d5] }
  | _ => none }
def TxnStillWrongFalsely : Prop := txnStillRow.holds Tryz.pinned (OpenSpec.ofChange txnStillWrong)

/-- 'ambrylaw17.TxnSerial': WHATEVER THE INPUT: true; the input reads as it did. -/
def txnSerialSpec : ChangeSpec := { name := "txnSerial", fn := fun _ => fun
  | [d1, d2] => { results := [.lit (.bool true)], args := [d1, d2] }
  | _ => none }
def txnSerialRow : OpenClaim := { program := "ytpehfflehebmbaagreat", sum := "b54640199a8baa1540b5d0cd8c6051a9a31f5c92d25b23a45d753a48f881e4e0", func := "ambry/ambrylaw17.TxnSerial", spec := "txnSerial", inPlace := ["slices.overlaps[string]"], unfollowed := true, recurses := true, apart := false }
def TxnSerialSaid : Prop := txnSerialRow.holds Tryz.pinned (OpenSpec.ofChange txnSerialSpec)

/-- ITS FALSE NEIGHBOUR: 'it returns false'. Refute it at one input. -/
def txnSerialWrong : ChangeSpec := { name := "txnSerial", fn := fun _ => fun
  | [d1, d2] => { results := [.lit (.bool false)], args := [d1, d2] }
  | _ => none }
def TxnSerialWrongFalsely : Prop := txnSerialRow.holds Tryz.pinned (OpenSpec.ofChange txnSerialWrong)

/-- 'ambrylaw17.TxnPlays': WHATEVER THE INPUT: true; the input reads as it did. -/
def txnPlaysSpec : ChangeSpec := { name := "txnPlays", fn := fun _ => fun
  | [d1, d2, d3] => { results := [.lit (.bool true)], args := [d1, d2, d3] }
  | _ => none }
def txnPlaysRow : OpenClaim := { program := "ytpehfflehebmbaagreat", sum := "b54640199a8baa1540b5d0cd8c6051a9a31f5c92d25b23a45d753a48f881e4e0", func := "ambry/ambrylaw17.TxnPlays", spec := "txnPlays", inPlace := ["slices.overlaps[string]"], unfollowed := true, recurses := true, apart := false }
def TxnPlaysSaid : Prop := txnPlaysRow.holds Tryz.pinned (OpenSpec.ofChange txnPlaysSpec)

/-- ITS FALSE NEIGHBOUR: 'it returns false'. Refute it at one input. -/
def txnPlaysWrong : ChangeSpec := { name := "txnPlays", fn := fun _ => fun
  | [d1, d2, d3] => { results := [.lit (.bool false)], args := [d1, d2, d3] }
  | _ => none }
def TxnPlaysWrongFalsely : Prop := txnPlaysRow.holds Tryz.pinned (OpenSpec.ofChange txnPlaysWrong)

/- THE SECOND FORM. 'bulk': how many values and letters a reading holds, each counted each time it is reached (what is shared counts as often as it is met; a slice's spare places count too). A statement '..UptoSaid' is the law's where the arguments, and the package variables that the reading takes, are together of bulk at most 1048576: NARROWER than '..Said'. Prove '..Said' where nothing that the law and all that it calls make is longer than what came in: it says more and counts as full. Else prove '..UptoSaid'. A law counts once. -/
mutual
def uptoBulk {H : Type} : DataW H → Nat
  | .lit (.string bytes) => bytes.length + 1
  | .lit _ => 1
  | .nil => 1
  | .ptr d => uptoBulk d + 1
  | .slice elems spare => uptoBulkAll elems + uptoBulkAll spare + 1
  | .agg parts => uptoBulkAll parts + 1
  | .iface _ d => uptoBulk d + 1
  | .map entries => uptoBulkEntries entries + 1
  | .held _ => 1
def uptoBulkAll {H : Type} : List (DataW H) → Nat
  | [] => 0
  | d :: r => uptoBulk d + uptoBulkAll r
def uptoBulkEntries {H : Type} : List (Lit × DataW H) → Nat
  | [] => 0
  | x :: r => uptoBulkEntry x + uptoBulkEntries r
def uptoBulkEntry {H : Type} : Lit × DataW H → Nat
  | (.string bytes, d) => bytes.length + uptoBulk d + 1
  | (_, d) => uptoBulk d + 1
 end
def uptoSmall : (H : Type) → List (DataW H) → Bool := fun _ ds => decide (uptoBulkAll ds ≤ 1048576)
def OpenSpec.upto (s : _root_.Go.ChangeSpec) : _root_.Go.OpenSpec := { _root_.Go.OpenSpec.ofChange s with cond := some uptoSmall }

/-- 'ambrylaw17.TxnOwn', WHERE WHAT IT READS IS OF BULK AT MOST 1048576: true; the input reads as it did. -/
def txnOwnUptoRow : OpenClaim := { program := "ytpehfflehebmbaagreat", sum := "b54640199a8baa1540b5d0cd8c6051a9a31f5c92d25b23a45d753a48f881e4e0", func := "ambry/ambrylaw17.TxnOwn", spec := "txnOwn", inPlace := ["slices.overlaps[string]"], unfollowed := true, recurses := true, apart := false, narrowed := true }
def TxnOwnUptoSaid : Prop := txnOwnUptoRow.holds Tryz.pinned (OpenSpec.upto txnOwnSpec)

/-- 'ambrylaw17.TxnStill', WHERE WHAT IT READS IS OF BULK AT MOST 1048576: true; the input reads as it did. -/
def txnStillUptoRow : OpenClaim := { program := "ytpehfflehebmbaagreat", sum := "b54640199a8baa1540b5d0cd8c6051a9a31f5c92d25b23a45d753a48f881e4e0", func := "ambry/ambrylaw17.TxnStill", spec := "txnStill", inPlace := ["slices.overlaps[string]"], unfollowed := true, recurses := true, apart := false, narrowed := true }
def TxnStillUptoSaid : Prop := txnStillUptoRow.holds Tryz.pinned (OpenSpec.upto txnStillSpec)

/-- 'ambrylaw17.TxnSerial', WHERE WHAT IT READS IS OF BULK AT MOST 1048576: true; the input reads as it did. -/
def txnSerialUptoRow : OpenClaim := { program := "ytpehfflehebmbaagreat", sum := "b54640199a8baa1540b5d0cd8c6051a9a31f5c92d25b23a45d753a48f881e4e0", func := "ambry/ambrylaw17.TxnSerial", spec := "txnSerial", inPlace := ["slices.overlaps[string]"], unfollowed := true, recurses := true, apart := false, narrowed := true }
def TxnSerialUptoSaid : Prop := txnSerialUptoRow.holds Tryz.pinned (OpenSpec.upto txnSerialSpec)

/-- 'ambrylaw17.TxnPlays', WHERE WHAT IT READS IS OF BULK AT MOST 1048576: true; the input reads as it did. -/
def txnPlaysUptoRow : OpenClaim := { program := "ytpehfflehebmbaagreat", sum := "b54640199a8baa1540b5d0cd8c6051a9a31f5c92d25b23a45d753a48f881e4e0", func := "ambry/ambrylaw17.TxnPlays", spec := "txnPlays", inPlace := ["slices.overlaps[string]"], unfollowed := true, recurses := true, apart := false, narrowed := true }
def TxnPlaysUptoSaid : Prop := txnPlaysUptoRow.holds Tryz.pinned (OpenSpec.upto txnPlaysSpec)

end Rows
end Go.Proofs.YtpehfflehebmbaaGreat
