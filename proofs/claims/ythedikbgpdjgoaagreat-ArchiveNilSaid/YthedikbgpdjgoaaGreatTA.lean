/- ArchiveNil: the statement 'ArchiveNilSaid', closed by the law that the walk shows. No condition. -/
import Derived.Deep.CondSized
import Derived.IntWalk
import Derived.KernelRfl
import Derived.Laws.Append
import Derived.Laws.AppendOwn
import Derived.Laws.BytesArg
import Derived.Laws.Cover3
import Derived.Laws.Entries
import Derived.Laws.IdiomCopy
import Derived.Laws.IdiomStrings
import Derived.Laws.Pointers
import Derived.Laws.Small
import Derived.Laws.Strings
import Derived.Laws.StructEq
import Derived.MapKept
import Derived.OpenShut
import Derived.Orders
import Derived.OrdersIn
import Derived.ProofKit
import Derived.RangeFuncRecord
import Derived.RangeFuncSeq
import Derived.ReadAgain
import Derived.Scope
import Derived.SizedLaws
import Derived.Test.YthedikbgpdjgoaaGreatRows
import Derived.Test.YthedikbgpdjgoaaGreatTAC
section
set_option maxRecDepth 100000
namespace Go.Proofs.YthedikbgpdjgoaaGreat.C
open Go.Av
def tabA : FT :=
  (.node 81 ⟨21, c81, [.tmp 2, .tmp 3]⟩ (.node 42 ⟨9, c42, [.tmp 4]⟩ (.node 22 ⟨12, c22, [.tmp 2]⟩ (.node 12 ⟨15, c12, [.tmp 8, .tmp 9]⟩ (.node 7 ⟨46, c7, [.cell 2 (some 1), .tmp 3]⟩ (.node 5 ⟨4, c5,
  [.tmp 0]⟩ (.node 4 ⟨26, c4, [.tmp 4, .tmp 5]⟩ (.node 3 ⟨37, c3, [.tmp 2]⟩ .leaf .leaf) .leaf) (.node 6 ⟨12, c6, [.tmp 2]⟩ .leaf .leaf)) (.node 10 ⟨12, c10, [.tmp 2]⟩ (.node 9 ⟨31, c9, [.tmp 6, .tmp
  7]⟩ (.node 8 ⟨72, c8, [.tmp 0]⟩ .leaf .leaf) .leaf) (.node 11 ⟨62, c11, [.cell 2 (some 2), .tmp 3]⟩ .leaf .leaf))) (.node 17 ⟨45, c17, [.tmp 2, .tmp 3]⟩ (.node 15 ⟨19, c15, [.cell 2 (some 1), .tmp
  3]⟩ (.node 14 ⟨10, c14, [.tmp 4]⟩ (.node 13 ⟨14, c13, []⟩ .leaf .leaf) .leaf) (.node 16 ⟨77, c16, [.tmp 2, .tmp 3]⟩ .leaf .leaf)) (.node 20 ⟨23, c20, [.tmp 4]⟩ (.node 19 ⟨28, c19, [.tmp 4, .tmp 5]⟩
  (.node 18 ⟨4, c18, [.cell 0 (some 1)]⟩ .leaf .leaf) .leaf) (.node 21 ⟨28, c21, [.tmp 4, .tmp 5]⟩ .leaf .leaf)))) (.node 32 ⟨84, c32, [.cell 6 (some 2), .tmp 7]⟩ (.node 27 ⟨5, c27, [.tmp 2]⟩ (.node
  25 ⟨26, c25, [.tmp 2]⟩ (.node 24 ⟨49, c24, [.tmp 2]⟩ (.node 23 ⟨32, c23, [.tmp 2]⟩ .leaf .leaf) .leaf) (.node 26 ⟨55, c26, [.tmp 4]⟩ .leaf .leaf)) (.node 30 ⟨55, c30, [.tmp 10, .tmp 11]⟩ (.node 29
  ⟨78, c29, [.tmp 4, .tmp 5]⟩ (.node 28 ⟨26, c28, [.tmp 4, .tmp 5]⟩ .leaf .leaf) .leaf) (.node 31 ⟨101, c31, [.tmp 8]⟩ .leaf .leaf))) (.node 37 ⟨54, c37, []⟩ (.node 35 ⟨20, c35, [.tmp 4]⟩ (.node 34
  ⟨8, c34, [.tmp 2]⟩ (.node 33 ⟨148, c33, []⟩ .leaf .leaf) .leaf) (.node 36 ⟨6, c36, [.cell 2 none]⟩ .leaf .leaf)) (.node 40 ⟨26, c40, [.tmp 4]⟩ (.node 39 ⟨161, c39, []⟩ (.node 38 ⟨5, c38, []⟩ .leaf
  .leaf) .leaf) (.node 41 ⟨56, c41, [.tmp 2]⟩ .leaf .leaf))))) (.node 62 ⟨8, c62, [.tmp 2]⟩ (.node 52 ⟨31, c52, [.tmp 2]⟩ (.node 47 ⟨9, c47, [.tmp 4]⟩ (.node 45 ⟨11, c45, [.tmp 4]⟩ (.node 44 ⟨9, c44,
  [.tmp 4]⟩ (.node 43 ⟨9, c43, [.tmp 4]⟩ .leaf .leaf) .leaf) (.node 46 ⟨58, c46, [.tmp 2, .tmp 3]⟩ .leaf .leaf)) (.node 50 ⟨100, c50, [.tmp 4]⟩ (.node 49 ⟨4, c49, [.tmp 2]⟩ (.node 48 ⟨30, c48, [.tmp
  2]⟩ .leaf .leaf) .leaf) (.node 51 ⟨12, c51, [.tmp 2]⟩ .leaf .leaf))) (.node 57 ⟨38, c57, [.tmp 2, .tmp 3]⟩ (.node 55 ⟨5, c55, [.cell 2 (some 3)]⟩ (.node 54 ⟨22, c54, [.tmp 2]⟩ (.node 53 ⟨9, c53,
  [.tmp 4]⟩ .leaf .leaf) .leaf) (.node 56 ⟨11, c56, [.cell 4 (some 3)]⟩ .leaf .leaf)) (.node 60 ⟨54, c60, [.tmp 4, .tmp 5]⟩ (.node 59 ⟨21, c59, []⟩ (.node 58 ⟨8, c58, [.tmp 6]⟩ .leaf .leaf) .leaf)
  (.node 61 ⟨71, c61, [.tmp 2]⟩ .leaf .leaf)))) (.node 72 ⟨34, c72, []⟩ (.node 67 ⟨27, c67, [.cell 4 (some 2)]⟩ (.node 65 ⟨8, c65, [.tmp 2]⟩ (.node 64 ⟨21, c64, [.cell 4 (some 2), .tmp 5]⟩ (.node 63
  ⟨13, c63, [.tmp 2]⟩ .leaf .leaf) .leaf) (.node 66 ⟨15, c66, [.tmp 4]⟩ .leaf .leaf)) (.node 70 ⟨67, c70, []⟩ (.node 69 ⟨60, c69, []⟩ (.node 68 ⟨53, c68, []⟩ .leaf .leaf) .leaf) (.node 71 ⟨63, c71,
  [.tmp 8, .tmp 9]⟩ .leaf .leaf))) (.node 77 ⟨25, c77, [.tmp 2]⟩ (.node 75 ⟨178, c75, [.tmp 10, .tmp 11]⟩ (.node 74 ⟨90, c74, [.tmp 10]⟩ (.node 73 ⟨141, c73, [.tmp 8]⟩ .leaf .leaf) .leaf) (.node 76
  ⟨19, c76, [.tmp 2]⟩ .leaf .leaf)) (.node 79 ⟨16, c79, []⟩ (.node 78 ⟨6, c78, [.tmp 2]⟩ .leaf .leaf) (.node 80 ⟨88, c80, [.cell 2 (some 4), .tmp 3]⟩ .leaf .leaf)))))) (.node 121 ⟨26, c121, [.tmp 6]⟩
  (.node 101 ⟨43, c101, []⟩ (.node 91 ⟨23, c91, [.tmp 6]⟩ (.node 86 ⟨88, c86, [.tmp 2]⟩ (.node 84 ⟨9, c84, [.tmp 4]⟩ (.node 83 ⟨49, c83, [.tmp 6, .tmp 7]⟩ (.node 82 ⟨46, c82, [.cell 2 (some 5), .tmp
  3]⟩ .leaf .leaf) .leaf) (.node 85 ⟨15, c85, [.tmp 2, .tmp 3]⟩ .leaf .leaf)) (.node 89 ⟨24, c89, [.tmp 6]⟩ (.node 88 ⟨24, c88, [.tmp 6]⟩ (.node 87 ⟨24, c87, [.tmp 6]⟩ .leaf .leaf) .leaf) (.node 90
  ⟨20, c90, [.tmp 2]⟩ .leaf .leaf))) (.node 96 ⟨27, c96, [.tmp 2]⟩ (.node 94 ⟨30, c94, [.tmp 2, .tmp 3]⟩ (.node 93 ⟨15, c93, [.cell 4 (some 3)]⟩ (.node 92 ⟨86, c92, []⟩ .leaf .leaf) .leaf) (.node 95
  ⟨26, c95, [.tmp 2]⟩ .leaf .leaf)) (.node 99 ⟨16, c99, [.tmp 2]⟩ (.node 98 ⟨12, c98, [.tmp 4]⟩ (.node 97 ⟨26, c97, [.tmp 4]⟩ .leaf .leaf) .leaf) (.node 100 ⟨49, c100, [.tmp 4]⟩ .leaf .leaf)))) (.node
  111 ⟨41, c111, [.tmp 12]⟩ (.node 106 ⟨7, c106, [.tmp 3]⟩ (.node 104 ⟨8, c104, [.tmp 4]⟩ (.node 103 ⟨6, c103, [.tmp 2]⟩ (.node 102 ⟨17, c102, [.tmp 4]⟩ .leaf .leaf) .leaf) (.node 105 ⟨42, c105, [.tmp
  4]⟩ .leaf .leaf)) (.node 109 ⟨33, c109, [.tmp 2]⟩ (.node 108 ⟨7, c108, [.tmp 2]⟩ (.node 107 ⟨82, c107, []⟩ .leaf .leaf) .leaf) (.node 110 ⟨18, c110, [.tmp 8]⟩ .leaf .leaf))) (.node 116 ⟨5, c116,
  [.tmp 2]⟩ (.node 114 ⟨40, c114, [.tmp 2, .tmp 3]⟩ (.node 113 ⟨8, c113, [.tmp 4]⟩ (.node 112 ⟨99, c112, [.tmp 2, .tmp 3]⟩ .leaf .leaf) .leaf) (.node 115 ⟨7, c115, [.tmp 2]⟩ .leaf .leaf)) (.node 119
  ⟨19, c119, [.tmp 2]⟩ (.node 118 ⟨5, c118, [.tmp 2]⟩ (.node 117 ⟨5, c117, [.tmp 2]⟩ .leaf .leaf) .leaf) (.node 120 ⟨35, c120, [.tmp 2]⟩ .leaf .leaf))))) (.node 143 ⟨10, c143, [.cell 2 (some 2)]⟩
  (.node 131 ⟨5, c131, [.tmp 2]⟩ (.node 126 ⟨32, c126, [.tmp 10, .tmp 11]⟩ (.node 124 ⟨20, c124, [.tmp 4]⟩ (.node 123 ⟨7, c123, [.tmp 3]⟩ (.node 122 ⟨9, c122, [.tmp 4]⟩ .leaf .leaf) .leaf) (.node 125
  ⟨19, c125, [.tmp 4]⟩ .leaf .leaf)) (.node 129 ⟨8, c129, [.tmp 2]⟩ (.node 128 ⟨143, c128, [.tmp 4]⟩ (.node 127 ⟨26, c127, [.tmp 4]⟩ .leaf .leaf) .leaf) (.node 130 ⟨38, c130, [.tmp 6]⟩ .leaf .leaf)))
  (.node 137 ⟨6, c137, [.tmp 2]⟩ (.node 134 ⟨19, c134, [.tmp 4]⟩ (.node 133 ⟨27, c133, [.cell 2 (some 2)]⟩ (.node 132 ⟨16, c132, [.tmp 2]⟩ .leaf .leaf) .leaf) (.node 135 ⟨8, c135, [.tmp 4]⟩ .leaf
  .leaf)) (.node 140 ⟨41, c140, [.tmp 6, .tmp 7]⟩ (.node 139 ⟨18, c139, [.tmp 2]⟩ (.node 138 ⟨81, c138, [.tmp 4]⟩ .leaf .leaf) .leaf) (.node 142 ⟨10, c142, [.tmp 2]⟩ .leaf .leaf)))) (.node 154 ⟨12,
  c154, [.tmp 2, .tmp 3]⟩ (.node 149 ⟨62, c149, [.tmp 4]⟩ (.node 147 ⟨11, c147, [.tmp 4]⟩ (.node 146 ⟨10, c146, [.tmp 2]⟩ (.node 145 ⟨39, c145, [.tmp 2, .tmp 3]⟩ .leaf .leaf) .leaf) (.node 148 ⟨6,
  c148, [.tmp 4]⟩ .leaf .leaf)) (.node 152 ⟨2, c152, [.tmp 0]⟩ (.node 151 ⟨6, c151, [.tmp 2]⟩ (.node 150 ⟨15, c150, [.tmp 4]⟩ .leaf .leaf) .leaf) (.node 153 ⟨7, c153, [.tmp 2]⟩ .leaf .leaf))) (.node
  161 ⟨63, c161, [.tmp 4]⟩ (.node 159 ⟨38, c159, [.tmp 2, .tmp 3]⟩ (.node 158 ⟨5, c158, [.tmp 2, .tmp 3]⟩ (.node 155 ⟨11, c155, [.tmp 4]⟩ .leaf .leaf) .leaf) (.node 160 ⟨6, c160, [.tmp 4]⟩ .leaf
  .leaf)) (.node 163 ⟨13, c163, [.tmp 4]⟩ (.node 162 ⟨10, c162, [.tmp 2, .tmp 3]⟩ .leaf .leaf) (.node 164 ⟨8, c164, [.tmp 2]⟩ .leaf .leaf)))))))
theorem tabA_ok : tabA.Ok Tryz.prog :=
  ⟨f81, ⟨f42, ⟨f22, ⟨f12, ⟨f7, ⟨f5, ⟨f4, ⟨f3, trivial, trivial⟩, trivial⟩, ⟨f6, trivial, trivial⟩⟩, ⟨f10, ⟨f9, ⟨f8, trivial, trivial⟩, trivial⟩, ⟨f11, trivial, trivial⟩⟩⟩, ⟨f17, ⟨f15, ⟨f14, ⟨f13,
  trivial, trivial⟩, trivial⟩, ⟨f16, trivial, trivial⟩⟩, ⟨f20, ⟨f19, ⟨f18, trivial, trivial⟩, trivial⟩, ⟨f21, trivial, trivial⟩⟩⟩⟩, ⟨f32, ⟨f27, ⟨f25, ⟨f24, ⟨f23, trivial, trivial⟩, trivial⟩, ⟨f26,
  trivial, trivial⟩⟩, ⟨f30, ⟨f29, ⟨f28, trivial, trivial⟩, trivial⟩, ⟨f31, trivial, trivial⟩⟩⟩, ⟨f37, ⟨f35, ⟨f34, ⟨f33, trivial, trivial⟩, trivial⟩, ⟨f36, trivial, trivial⟩⟩, ⟨f40, ⟨f39, ⟨f38,
  trivial, trivial⟩, trivial⟩, ⟨f41, trivial, trivial⟩⟩⟩⟩⟩, ⟨f62, ⟨f52, ⟨f47, ⟨f45, ⟨f44, ⟨f43, trivial, trivial⟩, trivial⟩, ⟨f46, trivial, trivial⟩⟩, ⟨f50, ⟨f49, ⟨f48, trivial, trivial⟩, trivial⟩,
  ⟨f51, trivial, trivial⟩⟩⟩, ⟨f57, ⟨f55, ⟨f54, ⟨f53, trivial, trivial⟩, trivial⟩, ⟨f56, trivial, trivial⟩⟩, ⟨f60, ⟨f59, ⟨f58, trivial, trivial⟩, trivial⟩, ⟨f61, trivial, trivial⟩⟩⟩⟩, ⟨f72, ⟨f67, ⟨f65,
  ⟨f64, ⟨f63, trivial, trivial⟩, trivial⟩, ⟨f66, trivial, trivial⟩⟩, ⟨f70, ⟨f69, ⟨f68, trivial, trivial⟩, trivial⟩, ⟨f71, trivial, trivial⟩⟩⟩, ⟨f77, ⟨f75, ⟨f74, ⟨f73, trivial, trivial⟩, trivial⟩,
  ⟨f76, trivial, trivial⟩⟩, ⟨f79, ⟨f78, trivial, trivial⟩, ⟨f80, trivial, trivial⟩⟩⟩⟩⟩⟩, ⟨f121, ⟨f101, ⟨f91, ⟨f86, ⟨f84, ⟨f83, ⟨f82, trivial, trivial⟩, trivial⟩, ⟨f85, trivial, trivial⟩⟩, ⟨f89, ⟨f88,
  ⟨f87, trivial, trivial⟩, trivial⟩, ⟨f90, trivial, trivial⟩⟩⟩, ⟨f96, ⟨f94, ⟨f93, ⟨f92, trivial, trivial⟩, trivial⟩, ⟨f95, trivial, trivial⟩⟩, ⟨f99, ⟨f98, ⟨f97, trivial, trivial⟩, trivial⟩, ⟨f100,
  trivial, trivial⟩⟩⟩⟩, ⟨f111, ⟨f106, ⟨f104, ⟨f103, ⟨f102, trivial, trivial⟩, trivial⟩, ⟨f105, trivial, trivial⟩⟩, ⟨f109, ⟨f108, ⟨f107, trivial, trivial⟩, trivial⟩, ⟨f110, trivial, trivial⟩⟩⟩, ⟨f116,
  ⟨f114, ⟨f113, ⟨f112, trivial, trivial⟩, trivial⟩, ⟨f115, trivial, trivial⟩⟩, ⟨f119, ⟨f118, ⟨f117, trivial, trivial⟩, trivial⟩, ⟨f120, trivial, trivial⟩⟩⟩⟩⟩, ⟨f143, ⟨f131, ⟨f126, ⟨f124, ⟨f123, ⟨f122,
  trivial, trivial⟩, trivial⟩, ⟨f125, trivial, trivial⟩⟩, ⟨f129, ⟨f128, ⟨f127, trivial, trivial⟩, trivial⟩, ⟨f130, trivial, trivial⟩⟩⟩, ⟨f137, ⟨f134, ⟨f133, ⟨f132, trivial, trivial⟩, trivial⟩, ⟨f135,
  trivial, trivial⟩⟩, ⟨f140, ⟨f139, ⟨f138, trivial, trivial⟩, trivial⟩, ⟨f142, trivial, trivial⟩⟩⟩⟩, ⟨f154, ⟨f149, ⟨f147, ⟨f146, ⟨f145, trivial, trivial⟩, trivial⟩, ⟨f148, trivial, trivial⟩⟩, ⟨f152,
  ⟨f151, ⟨f150, trivial, trivial⟩, trivial⟩, ⟨f153, trivial, trivial⟩⟩⟩, ⟨f161, ⟨f159, ⟨f158, ⟨f155, trivial, trivial⟩, trivial⟩, ⟨f160, trivial, trivial⟩⟩, ⟨f163, ⟨f162, trivial, trivial⟩, ⟨f164,
  trivial, trivial⟩⟩⟩⟩⟩⟩⟩
theorem tabA_named : tabA.named Tryz.prog = true := by kernel_rfl
end Go.Proofs.YthedikbgpdjgoaaGreat.C
end
section
set_option linter.unusedSimpArgs false
set_option linter.unusedVariables false
set_option maxRecDepth 100000
namespace Go.Proofs.YthedikbgpdjgoaaGreat.Arch
open Go Go.Av Go.Proofs Go.Proofs.YthedikbgpdjgoaaGreat.C
theorem laid : laidOutB Tryz.prog = true := by kernel_rfl
theorem rowed : mapsRowed Tryz.prog = true := by kernel_rfl
theorem full : ∀ t e, t < Tryz.prog.types.size → Tryz.prog.underlying t = some (.slice e) → 0 < Tryz.prog.cellsOf e := slices_full_of Tryz.prog (by kernel_rfl)
theorem own : ownKnob Tryz.prog.godebug = none := by kernel_rfl
theorem bulk {H : Type} : Bulk (H := H) Rows.uptoBulk Rows.uptoBulkAll :=
  ⟨fun l => by simp [Rows.uptoBulk], fun k n => by simp [Rows.uptoBulk], fun b => by simp [Rows.uptoBulk], by simp [Rows.uptoBulk], fun a b => by simp [Rows.uptoBulk], fun a => by simp [Rows.uptoBulk], by simp [Rows.uptoBulkAll], fun d l => by simp [Rows.uptoBulkAll]⟩
theorem open_b {a : AV} (h : ArgFits Tryz.prog 5 4 a) : ∃ b, a = .bool b := by
  obtain ⟨cs, h, rfl⟩ := h
  unfold Fits at h
  rw [Tryz.underlying4] at h
  obtain ⟨l, rfl⟩ := h
  refine ⟨l, ?_⟩
  unfold wrapE; rw [if_neg (by rw [show isAggT Tryz.prog 4 = false by kernel_rfl]; simp)]; rfl
theorem nil_false : PCalls Tryz.prog 3 [.bool false] (.bool true) := pcalls_runY tabA_ok tabA_named noPrims_okY (k := 1000000) (by kernel_rfl)
theorem nil_true : PCalls Tryz.prog 3 [.bool true] (.bool true) := pcalls_runY tabA_ok tabA_named noPrims_okY (k := 1000000) (by kernel_rfl)
theorem law_ArchiveNil {b : Nat} (avs : List AV) (h : All2 (ArgFits Tryz.prog 5) Tryz.f3.params.toList avs) (_ : bulkAs avs ≤ b) : PCalls Tryz.prog 3 avs (.bool true) := by
  rw [Tryz.params3] at h
  cases h with | cons h0 h =>
  cases h
  obtain ⟨b, rfl⟩ := open_b h0
  cases b with
  | true => exact nil_true
  | false => exact nil_false
end Go.Proofs.YthedikbgpdjgoaaGreat.Arch
end
section
set_option linter.unusedSimpArgs false
set_option linter.unusedVariables false
namespace Go.Proofs.YthedikbgpdjgoaaGreat.Arch
open Go Go.Av Go.Proofs Go.Proofs.YthedikbgpdjgoaaGreat.C
open Go.ChangeShapes Go.WideShapes Go.ChangeAt Go.RowKit
set_option maxRecDepth 100000 in
theorem lifted_ArchiveNil (os : Os) (started : os.Started) (H : Type) (enc : TypeId × Value → H) :
    ReturnsInHanded {} Tryz.checked os 3 .any (Rows.archiveNilSpec.pre6 enc Tryz.prog Tryz.f3 Rows.archiveNilRow.domain false) (Rows.archiveNilSpec.post enc Tryz.prog Tryz.f3 false true false false) := by
  refine returnsInHanded_of_change_sized (C := Tryz.checked) own started (by kernel_rfl) Tryz.func3
    (ChangeSpec.witness6 (enc := enc) (C := Tryz.checked) false ⟨#[], #[.bool false], []⟩ 8 (by kernel_rfl) (by kernel_rfl) (by kernel_rfl) (by kernel_rfl)) ?_
  intro W base args ds gs before hval hW _ hwt _
  exact calls_row laid bulk rowed full rfl (fun l hl => by match l, hl with | [_], _ => rfl) rfl Tryz.underlying4 (by kernel_rfl) (by kernel_rfl) hval hW hwt (fun avs h hb => law_ArchiveNil avs h hb)
theorem said_ArchiveNil : Rows.ArchiveNilSaid :=
  OpenClaim.holds_of_wide 3 Tryz.f3 rfl rfl rfl rfl rfl rfl rfl ⟨rfl, rfl, rfl, rfl, rfl⟩ rfl rfl rfl rfl rfl (by kernel_rfl) Tryz.func3 (by kernel_rfl)
    (of_decide_eq_true (by kernel_rfl)) (by unfold Func.isWrapper; first | (rw [if_pos (by decide +kernel)]; kernel_rfl) | (rw [if_neg (by decide +kernel)]; exact ⟨rfl, rfl⟩))
    (fun os started H enc _ => lifted_ArchiveNil os started H enc)
#print axioms said_ArchiveNil
end Go.Proofs.YthedikbgpdjgoaaGreat.Arch
end
