/- The seat's functions in a table (printed by a program of mine). -/
import Derived.Test.YtlefnohibjcekaaCode
import Derived.Test.YtlefnohibjcekaaAvRun
set_option maxRecDepth 100000
namespace Go.Proofs.Ytlefnohibjcekaa.C
open Go.Av
def tab : FT :=
  (.node 65 ⟨13, c65, [.tmp 2]⟩ (.node 23 ⟨6, c23, [.tmp 2]⟩ (.node 17 ⟨29, c17, [.cell 2 (some 2)]⟩ (.node 5 ⟨174, c5, [.tmp 10]⟩ (.node 4 ⟨105, c4, [.tmp 8]⟩ (.node 3 ⟨116, c3, [.tmp 6]⟩ .leaf .leaf)
  .leaf) (.node 16 ⟨77, c16, [.tmp 0]⟩ (.node 15 ⟨13, c15, [.tmp 2]⟩ .leaf .leaf) .leaf)) (.node 20 ⟨84, c20, [.cell 6 (some 2), .tmp 7]⟩ (.node 19 ⟨70, c19, [.cell 4 (some 2), .tmp 5]⟩ (.node 18 ⟨39,
  c18, [.cell 4 (some 2), .tmp 5]⟩ .leaf .leaf) .leaf) (.node 22 ⟨71, c22, [.tmp 2]⟩ (.node 21 ⟨96, c21, [.cell 6 (some 2), .tmp 7]⟩ .leaf .leaf) .leaf))) (.node 60 ⟨21, c60, [.cell 4 (some 2), .tmp
  5]⟩ (.node 27 ⟨13, c27, [.tmp 4]⟩ (.node 25 ⟨13, c25, [.tmp 4]⟩ (.node 24 ⟨59, c24, [.tmp 4]⟩ .leaf .leaf) .leaf) (.node 58 ⟨54, c58, [.tmp 4, .tmp 5]⟩ (.node 57 ⟨8, c57, [.tmp 2]⟩ .leaf .leaf)
  .leaf)) (.node 63 ⟨37, c63, [.tmp 4]⟩ (.node 62 ⟨94, c62, [.tmp 2]⟩ (.node 61 ⟨8, c61, [.tmp 2]⟩ .leaf .leaf) .leaf) (.node 64 ⟨43, c64, [.cell 4 (some 2), .tmp 5]⟩ .leaf .leaf)))) (.node 117 ⟨17,
  c117, [.tmp 4]⟩ (.node 71 ⟨21, c71, [.tmp 4]⟩ (.node 68 ⟨13, c68, [.tmp 2]⟩ (.node 67 ⟨27, c67, [.cell 4 (some 2)]⟩ (.node 66 ⟨15, c66, [.tmp 4]⟩ .leaf .leaf) .leaf) (.node 70 ⟨8, c70, [.tmp 4]⟩
  (.node 69 ⟨15, c69, [.tmp 4]⟩ .leaf .leaf) .leaf)) (.node 74 ⟨8, c74, [.tmp 3]⟩ (.node 73 ⟨9, c73, [.tmp 4]⟩ (.node 72 ⟨24, c72, [.tmp 4]⟩ .leaf .leaf) .leaf) (.node 78 ⟨9, c78, [.tmp 4]⟩ .leaf
  .leaf))) (.node 125 ⟨20, c125, [.tmp 6]⟩ (.node 122 ⟨7, c122, [.tmp 3]⟩ (.node 121 ⟨42, c121, [.tmp 4]⟩ (.node 118 ⟨6, c118, [.tmp 2]⟩ .leaf .leaf) .leaf) (.node 124 ⟨20, c124, [.tmp 4]⟩ (.node 123
  ⟨7, c123, [.tmp 3]⟩ .leaf .leaf) .leaf)) (.node 130 ⟨19, c130, [.tmp 4]⟩ (.node 127 ⟨19, c127, [.tmp 4]⟩ (.node 126 ⟨19, c126, [.tmp 4]⟩ .leaf .leaf) .leaf) (.node 147 ⟨6, c147, [.tmp 2]⟩ .leaf
  .leaf)))))
theorem tab_ok : tab.Ok Try.prog :=
  ⟨f65, ⟨f23, ⟨f17, ⟨f5, ⟨f4, ⟨f3, trivial, trivial⟩, trivial⟩, ⟨f16, ⟨f15, trivial, trivial⟩, trivial⟩⟩, ⟨f20, ⟨f19, ⟨f18, trivial, trivial⟩, trivial⟩, ⟨f22, ⟨f21, trivial, trivial⟩, trivial⟩⟩⟩, ⟨f60,
  ⟨f27, ⟨f25, ⟨f24, trivial, trivial⟩, trivial⟩, ⟨f58, ⟨f57, trivial, trivial⟩, trivial⟩⟩, ⟨f63, ⟨f62, ⟨f61, trivial, trivial⟩, trivial⟩, ⟨f64, trivial, trivial⟩⟩⟩⟩, ⟨f117, ⟨f71, ⟨f68, ⟨f67, ⟨f66,
  trivial, trivial⟩, trivial⟩, ⟨f70, ⟨f69, trivial, trivial⟩, trivial⟩⟩, ⟨f74, ⟨f73, ⟨f72, trivial, trivial⟩, trivial⟩, ⟨f78, trivial, trivial⟩⟩⟩, ⟨f125, ⟨f122, ⟨f121, ⟨f118, trivial, trivial⟩,
  trivial⟩, ⟨f124, ⟨f123, trivial, trivial⟩, trivial⟩⟩, ⟨f130, ⟨f127, ⟨f126, trivial, trivial⟩, trivial⟩, ⟨f147, trivial, trivial⟩⟩⟩⟩⟩
theorem tab_named : tab.named Try.prog = true := by kernel_rfl
end Go.Proofs.Ytlefnohibjcekaa.C
