/-
  No cell of these rows narrows 'for every input' (looked for: loops, veiled, ifaces, maps, wideKeys, modest, calm, conditions, laid).
  DERIVED. THE GIVEN ROWS OF THIS SEAT. 6 by the template 'for every input the law returns true; each argument reads behind the call as it read before'; 0 by the template 'total and deterministic' (their statements: YtjnoobmaedgooaaGreatTotals.lean).
  GIVEN WITH THE SEED: the statements are not yours to turn. If you find one false, say at which input.
  Laid BY PROGRAM, IN A SANDBOX (cutbox-rows.mjs): the forced cells as the released guide's own fill.sh prints them over the translation adf5ae3a408eb66a… (all of the seat's roots in one cut). By AI agents, Wed Nov 11 2026. No macro, syntax, notation, axiom, sorry.
-/
import Derived.Test.YtjnoobmaedgooaaGreatChecked
import GoSem.Claim
import GoSem.ClaimJoined
import GoSem.ClaimMapViews
import Derived.JoinedTies
import Derived.KernelRfl
namespace Go.Proofs.YtjnoobmaedgooaaGreat
/- THE CELL 'sum', in the pinned program and in every row, IS THE sha256 OF THE DUMP (.gsa) THAT YtjnoobmaedgooaaGreatProg.lean LOADS. Nothing in Lean hashes anything: it is a label: what it is worth is what the hold of that sum in a sandbox is worth. -/
noncomputable def Tryz.pinned : Pinned := { name := "ytjnoobmaedgooaagreat", sum := "adf5ae3a408eb66a3f3b5b943f0336199e81e41ca77987d0be1221a6ea09c4e8", checked := Tryz.checked }
namespace Rows
def none {H : Type} : Left H := { results := [], args := [] }

/-- 'ambrylaw26.ArchiveWrites': WHATEVER THE INPUT: true; the input reads as it did. -/
def archiveWritesSpec : ChangeSpec := { name := "archiveWrites", fn := fun _ => fun
  | [d] => { results := [.lit (.bool true)], args := [d] }
  | _ => none }
def archiveWritesRow : OpenClaim := { program := "ytjnoobmaedgooaagreat", sum := "adf5ae3a408eb66a3f3b5b943f0336199e81e41ca77987d0be1221a6ea09c4e8", func := "ambry/ambrylaw26.ArchiveWrites", spec := "archiveWrites", inPlace := ["math.Float64bits", "math.Float64frombits"], unfollowed := true, recurses := true, plainKeys := false, apart := false }
def ArchiveWritesSaid : Prop := archiveWritesRow.holds Tryz.pinned (OpenSpec.ofChange archiveWritesSpec)

/-- ITS FALSE NEIGHBOUR: 'it returns false'. Refute it at one input. -/
def archiveWritesWrong : ChangeSpec := { name := "archiveWrites", fn := fun _ => fun
  | [d] => { results := [.lit (.bool false)], args := [d] }
  | _ => none }
def ArchiveWritesWrongFalsely : Prop := archiveWritesRow.holds Tryz.pinned (OpenSpec.ofChange archiveWritesWrong)

/-- 'ambrylaw26.ArchiveReads': WHATEVER THE INPUT: true; the input reads as it did. -/
def archiveReadsSpec : ChangeSpec := { name := "archiveReads", fn := fun _ => fun
  | [d1, d2] => { results := [.lit (.bool true)], args := [d1, d2] }
  | _ => none }
def archiveReadsRow : OpenClaim := { program := "ytjnoobmaedgooaagreat", sum := "adf5ae3a408eb66a3f3b5b943f0336199e81e41ca77987d0be1221a6ea09c4e8", func := "ambry/ambrylaw26.ArchiveReads", spec := "archiveReads", inPlace := ["math.Float64bits", "math.Float64frombits", "internal/bytealg.IndexByteString", "internal/bytealg.IndexString"], unfollowed := true, recurses := true, named := ["internal/bytealg.MaxLen"], plainKeys := false, apart := false }
def ArchiveReadsSaid : Prop := archiveReadsRow.holds Tryz.pinned (OpenSpec.ofChange archiveReadsSpec)

/-- ITS FALSE NEIGHBOUR: 'it returns false'. Refute it at one input. -/
def archiveReadsWrong : ChangeSpec := { name := "archiveReads", fn := fun _ => fun
  | [d1, d2] => { results := [.lit (.bool false)], args := [d1, d2] }
  | _ => none }
def ArchiveReadsWrongFalsely : Prop := archiveReadsRow.holds Tryz.pinned (OpenSpec.ofChange archiveReadsWrong)

/-- 'ambrylaw26.ArchiveBack': WHATEVER THE INPUT: true; the input reads as it did. -/
def archiveBackSpec : ChangeSpec := { name := "archiveBack", fn := fun _ => fun
  | [d1, d2, d3] => { results := [.lit (.bool true)], args := [d1, d2, d3] }
  | _ => none }
def archiveBackRow : OpenClaim := { program := "ytjnoobmaedgooaagreat", sum := "adf5ae3a408eb66a3f3b5b943f0336199e81e41ca77987d0be1221a6ea09c4e8", func := "ambry/ambrylaw26.ArchiveBack", spec := "archiveBack", inPlace := ["math.Float64bits", "math.Float64frombits", "internal/bytealg.IndexByteString", "internal/bytealg.IndexString"], unfollowed := true, recurses := true, named := ["internal/bytealg.MaxLen"], plainKeys := false, apart := false }
def ArchiveBackSaid : Prop := archiveBackRow.holds Tryz.pinned (OpenSpec.ofChange archiveBackSpec)

/-- ITS FALSE NEIGHBOUR: 'it returns false'. Refute it at one input. -/
def archiveBackWrong : ChangeSpec := { name := "archiveBack", fn := fun _ => fun
  | [d1, d2, d3] => { results := [.lit (.bool false)], args := [d1, d2, d3] }
  | _ => none }
def ArchiveBackWrongFalsely : Prop := archiveBackRow.holds Tryz.pinned (OpenSpec.ofChange archiveBackWrong)

/-- 'ambrylaw26.ArchiveMoved': WHATEVER THE INPUT: true; the input reads as it did. -/
def archiveMovedSpec : ChangeSpec := { name := "archiveMoved", fn := fun _ => fun
  | [d1, d2] => { results := [.lit (.bool true)], args := [d1, d2] }
  | _ => none }
def archiveMovedRow : OpenClaim := { program := "ytjnoobmaedgooaagreat", sum := "adf5ae3a408eb66a3f3b5b943f0336199e81e41ca77987d0be1221a6ea09c4e8", func := "ambry/ambrylaw26.ArchiveMoved", spec := "archiveMoved", inPlace := ["math.Float64bits", "math.Float64frombits", "slices.overlaps[ambry/api.Pair]", "internal/bytealg.IndexByteString", "internal/bytealg.IndexString"], unfollowed := true, recurses := true, named := ["internal/bytealg.MaxLen"], plainKeys := false, apart := false }
def ArchiveMovedSaid : Prop := archiveMovedRow.holds Tryz.pinned (OpenSpec.ofChange archiveMovedSpec)

/-- ITS FALSE NEIGHBOUR: 'it returns false'. Refute it at one input. -/
def archiveMovedWrong : ChangeSpec := { name := "archiveMoved", fn := fun _ => fun
  | [d1, d2] => { results := [.lit (.bool false)], args := [d1, d2] }
  | _ => none }
def ArchiveMovedWrongFalsely : Prop := archiveMovedRow.holds Tryz.pinned (OpenSpec.ofChange archiveMovedWrong)

/-- 'ambrylaw26.ArchivePlans': WHATEVER THE INPUT: true; the input reads as it did. -/
def archivePlansSpec : ChangeSpec := { name := "archivePlans", fn := fun _ => fun
  | [d1, d2, d3] => { results := [.lit (.bool true)], args := [d1, d2, d3] }
  | _ => none }
def archivePlansRow : OpenClaim := { program := "ytjnoobmaedgooaagreat", sum := "adf5ae3a408eb66a3f3b5b943f0336199e81e41ca77987d0be1221a6ea09c4e8", func := "ambry/ambrylaw26.ArchivePlans", spec := "archivePlans", inPlace := ["math.Float64bits", "math.Float64frombits", "slices.overlaps[ambry/api.Pair]", "internal/bytealg.IndexByteString", "internal/bytealg.IndexString"], unfollowed := true, recurses := true, named := ["internal/bytealg.MaxLen"], plainKeys := false, apart := false }
def ArchivePlansSaid : Prop := archivePlansRow.holds Tryz.pinned (OpenSpec.ofChange archivePlansSpec)

/-- ITS FALSE NEIGHBOUR: 'it returns false'. Refute it at one input. -/
def archivePlansWrong : ChangeSpec := { name := "archivePlans", fn := fun _ => fun
  | [d1, d2, d3] => { results := [.lit (.bool false)], args := [d1, d2, d3] }
  | _ => none }
def ArchivePlansWrongFalsely : Prop := archivePlansRow.holds Tryz.pinned (OpenSpec.ofChange archivePlansWrong)

/-- 'ambrylaw26.ArchiveRestored': WHATEVER THE INPUT: true; the input reads as it did. -/
def archiveRestoredSpec : ChangeSpec := { name := "archiveRestored", fn := fun _ => fun
  | [d] => { results := [.lit (.bool true)], args := [d] }
  | _ => none }
def archiveRestoredRow : OpenClaim := { program := "ytjnoobmaedgooaagreat", sum := "adf5ae3a408eb66a3f3b5b943f0336199e81e41ca77987d0be1221a6ea09c4e8", func := "ambry/ambrylaw26.ArchiveRestored", spec := "archiveRestored", inPlace := ["math.Float64bits", "math.Float64frombits", "slices.overlaps[string]", "internal/bytealg.IndexByteString", "internal/bytealg.IndexString"], unfollowed := true, recurses := true, named := ["internal/bytealg.MaxLen"], plainKeys := false, apart := false }
def ArchiveRestoredSaid : Prop := archiveRestoredRow.holds Tryz.pinned (OpenSpec.ofChange archiveRestoredSpec)

/-- ITS FALSE NEIGHBOUR: 'it returns false'. Refute it at one input. -/
def archiveRestoredWrong : ChangeSpec := { name := "archiveRestored", fn := fun _ => fun
  | [d] => { results := [.lit (.bool false)], args := [d] }
  | _ => none }
def ArchiveRestoredWrongFalsely : Prop := archiveRestoredRow.holds Tryz.pinned (OpenSpec.ofChange archiveRestoredWrong)

/- THE SECOND FORM. 'bulk': how many values and letters a reading holds, each counted each time it is reached (what is shared counts as often as it is met; a slice's spare places count too). A statement '..UptoSaid' is the law's where the arguments, and the package variables that the reading takes, are together of bulk at most 1048576: NARROWER than '..Said'. Prove '..Said' where nothing that the law and all that it calls make is longer than what came in: it says more and counts as full. Else prove '..UptoSaid'. A law counts once. -/
mutual
def uptoBulk {H : Type} : DataW H → Nat
  | .lit (.string bytes) => bytes.length + 1
  | .lit _ => 1
  | .nil => 1
  | .ptr d => uptoBulk d + 1
  | .slice elems spare => uptoBulkAll elems + uptoBulkAll spare + 1
  | .agg parts => uptoBulkAll parts + 1
  | .iface _ d => uptoBulk d + 1
  | .map entries => uptoBulkEntries entries + 1
  | .held _ => 1
def uptoBulkAll {H : Type} : List (DataW H) → Nat
  | [] => 0
  | d :: r => uptoBulk d + uptoBulkAll r
def uptoBulkEntries {H : Type} : List (Lit × DataW H) → Nat
  | [] => 0
  | x :: r => uptoBulkEntry x + uptoBulkEntries r
def uptoBulkEntry {H : Type} : Lit × DataW H → Nat
  | (.string bytes, d) => bytes.length + uptoBulk d + 1
  | (_, d) => uptoBulk d + 1
 end
def uptoSmall : (H : Type) → List (DataW H) → Bool := fun _ ds => decide (uptoBulkAll ds ≤ 1048576)
def OpenSpec.upto (s : _root_.Go.ChangeSpec) : _root_.Go.OpenSpec := { _root_.Go.OpenSpec.ofChange s with cond := some uptoSmall }

/-- 'ambrylaw26.ArchiveWrites', WHERE WHAT IT READS IS OF BULK AT MOST 1048576: true; the input reads as it did. -/
def archiveWritesUptoRow : OpenClaim := { program := "ytjnoobmaedgooaagreat", sum := "adf5ae3a408eb66a3f3b5b943f0336199e81e41ca77987d0be1221a6ea09c4e8", func := "ambry/ambrylaw26.ArchiveWrites", spec := "archiveWrites", inPlace := ["math.Float64bits", "math.Float64frombits"], unfollowed := true, recurses := true, plainKeys := false, apart := false, narrowed := true }
def ArchiveWritesUptoSaid : Prop := archiveWritesUptoRow.holds Tryz.pinned (OpenSpec.upto archiveWritesSpec)

/-- 'ambrylaw26.ArchiveReads', WHERE WHAT IT READS IS OF BULK AT MOST 1048576: true; the input reads as it did. -/
def archiveReadsUptoRow : OpenClaim := { program := "ytjnoobmaedgooaagreat", sum := "adf5ae3a408eb66a3f3b5b943f0336199e81e41ca77987d0be1221a6ea09c4e8", func := "ambry/ambrylaw26.ArchiveReads", spec := "archiveReads", inPlace := ["math.Float64bits", "math.Float64frombits", "internal/bytealg.IndexByteString", "internal/bytealg.IndexString"], unfollowed := true, recurses := true, named := ["internal/bytealg.MaxLen"], plainKeys := false, apart := false, narrowed := true }
def ArchiveReadsUptoSaid : Prop := archiveReadsUptoRow.holds Tryz.pinned (OpenSpec.upto archiveReadsSpec)

/-- 'ambrylaw26.ArchiveBack', WHERE WHAT IT READS IS OF BULK AT MOST 1048576: true; the input reads as it did. -/
def archiveBackUptoRow : OpenClaim := { program := "ytjnoobmaedgooaagreat", sum := "adf5ae3a408eb66a3f3b5b943f0336199e81e41ca77987d0be1221a6ea09c4e8", func := "ambry/ambrylaw26.ArchiveBack", spec := "archiveBack", inPlace := ["math.Float64bits", "math.Float64frombits", "internal/bytealg.IndexByteString", "internal/bytealg.IndexString"], unfollowed := true, recurses := true, named := ["internal/bytealg.MaxLen"], plainKeys := false, apart := false, narrowed := true }
def ArchiveBackUptoSaid : Prop := archiveBackUptoRow.holds Tryz.pinned (OpenSpec.upto archiveBackSpec)

/-- 'ambrylaw26.ArchiveMoved', WHERE WHAT IT READS IS OF BULK AT MOST 1048576: true; the input reads as it did. -/
def archiveMovedUptoRow : OpenClaim := { program := "ytjnoobmaedgooaagreat", sum := "adf5ae3a408eb66a3f3b5b943f0336199e81e41ca77987d0be1221a6ea09c4e8", func := "ambry/ambrylaw26.ArchiveMoved", spec := "archiveMoved", inPlace := ["math.Float64bits", "math.Float64frombits", "slices.overlaps[ambry/api.Pair]", "internal/bytealg.IndexByteString", "internal/bytealg.IndexString"], unfollowed := true, recurses := true, named := ["internal/bytealg.MaxLen"], plainKeys := false, apart := false, narrowed := true }
def ArchiveMovedUptoSaid : Prop := archiveMovedUptoRow.holds Tryz.pinned (OpenSpec.upto archiveMovedSpec)

/-- 'ambrylaw26.ArchivePlans', WHERE WHAT IT READS IS OF BULK AT MOST 1048576: true; the input reads as it did. -/
def archivePlansUptoRow : OpenClaim := { program := "ytjnoobmaedgooaagreat", sum := "adf5ae3a408eb66a3f3b5b943f0336199e81e41ca77987d0be1221a6ea09c4e8", func := "ambry/ambrylaw26.ArchivePlans", spec := "archivePlans", inPlace := ["math.Float64bits", "math.Float64frombits", "slices.overlaps[ambry/api.Pair]", "internal/bytealg.IndexByteString", "internal/bytealg.IndexString"], unfollowed := true, recurses := true, named := ["internal/bytealg.MaxLen"], plainKeys := false, apart := false, narrowed := true }
def ArchivePlansUptoSaid : Prop := archivePlansUptoRow.holds Tryz.pinned (OpenSpec.upto archivePlansSpec)

/-- 'ambrylaw26.ArchiveRestored', WHERE WHAT IT READS IS OF BULK AT MOST 1048576: true; the input reads as it did. -/
def archiveRestoredUptoRow : OpenClaim := { program := "ytjnoobmaedgooaagreat", sum := "adf5ae3a408eb66a3f3b5b943f0336199e81e41ca77987d0be1221a6ea09c4e8", func := "ambry/ambrylaw26.ArchiveRestored", spec := "archiveRestored", inPlace := ["math.Float64bits", "math.Float64frombits", "slices.overlaps[string]", "internal/bytealg.IndexByteString", "internal/bytealg.IndexString"], unfollowed := true, recurses := true, named := ["internal/bytealg.MaxLen"], plainKeys := false, apart := false, narrowed := true }
def ArchiveRestoredUptoSaid : Prop := archiveRestoredUptoRow.holds Tryz.pinned (OpenSpec.upto archiveRestoredSpec)

end Rows
end Go.Proofs.YtjnoobmaedgooaaGreat
