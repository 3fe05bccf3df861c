/- The seat's functions in a table (printed by a program of mine). -/
import Derived.Test.YtgainpikomhepaaCode
import Derived.Test.YtgainpikomhepaaAvRun
set_option maxRecDepth 100000
namespace Go.Proofs.Ytgainpikomhepaa.C
open Go.Av
def tab : FT :=
  (.node 36 ⟨26, c36, [.tmp 4]⟩ (.node 19 ⟨52, c19, [.cell 2 (some 4), .tmp 3, .cell 4 (some 4), .tmp 5]⟩ (.node 11 ⟨19, c11, [.tmp 2]⟩ (.node 7 ⟨85, c7, [.tmp 4]⟩ (.node 5 ⟨167, c5, [.tmp 6]⟩ (.node 4
  ⟨50, c4, [.tmp 2]⟩ (.node 3 ⟨47, c3, [.tmp 2]⟩ .leaf .leaf) .leaf) (.node 6 ⟨31, c6, [.tmp 2]⟩ .leaf .leaf)) (.node 9 ⟨180, c9, [.tmp 8]⟩ (.node 8 ⟨92, c8, [.tmp 6]⟩ .leaf .leaf) (.node 10 ⟨129,
  c10, [.tmp 6]⟩ .leaf .leaf))) (.node 15 ⟨41, c15, [.tmp 2]⟩ (.node 13 ⟨78, c13, [.tmp 2, .tmp 3]⟩ (.node 12 ⟨86, c12, [.tmp 0]⟩ .leaf .leaf) (.node 14 ⟨12, c14, [.tmp 2, .tmp 3]⟩ .leaf .leaf))
  (.node 17 ⟨11, c17, [.tmp 2]⟩ (.node 16 ⟨48, c16, [.tmp 2]⟩ .leaf .leaf) (.node 18 ⟨9, c18, [.tmp 2]⟩ .leaf .leaf)))) (.node 28 ⟨26, c28, [.cell 4 (some 4), .tmp 5]⟩ (.node 24 ⟨104, c24, [.cell 2
  (some 4), .tmp 3]⟩ (.node 22 ⟨38, c22, [.tmp 4, .tmp 5]⟩ (.node 21 ⟨94, c21, [.tmp 4]⟩ (.node 20 ⟨58, c20, [.cell 2 (some 4), .tmp 3, .cell 4 (some 4), .tmp 5]⟩ .leaf .leaf) .leaf) (.node 23 ⟨99,
  c23, [.cell 2 (some 4), .tmp 3]⟩ .leaf .leaf)) (.node 26 ⟨61, c26, [.cell 6 (some 4), .tmp 7]⟩ (.node 25 ⟨59, c25, [.tmp 4, .tmp 5]⟩ .leaf .leaf) (.node 27 ⟨56, c27, [.cell 6 (some 4), .tmp 7]⟩
  .leaf .leaf))) (.node 32 ⟨9, c32, [.tmp 4]⟩ (.node 30 ⟨9, c30, [.tmp 4]⟩ (.node 29 ⟨42, c29, [.cell 4 (some 4), .tmp 5]⟩ .leaf .leaf) (.node 31 ⟨9, c31, [.tmp 4]⟩ .leaf .leaf)) (.node 34 ⟨76, c34,
  [.tmp 2]⟩ (.node 33 ⟨96, c33, [.tmp 2]⟩ .leaf .leaf) (.node 35 ⟨104, c35, [.tmp 2]⟩ .leaf .leaf))))) (.node 53 ⟨11, c53, [.tmp 4]⟩ (.node 45 ⟨9, c45, [.tmp 4]⟩ (.node 41 ⟨12, c41, [.tmp 4]⟩ (.node
  39 ⟨38, c39, [.cell 6 (some 4)]⟩ (.node 38 ⟨35, c38, [.cell 6 (some 4)]⟩ (.node 37 ⟨12, c37, [.tmp 4]⟩ .leaf .leaf) .leaf) (.node 40 ⟨12, c40, [.tmp 4]⟩ .leaf .leaf)) (.node 43 ⟨59, c43, [.tmp 4]⟩
  (.node 42 ⟨69, c42, [.tmp 4]⟩ .leaf .leaf) (.node 44 ⟨5, c44, [.tmp 2]⟩ .leaf .leaf))) (.node 49 ⟨37, c49, [.tmp 4]⟩ (.node 47 ⟨20, c47, [.tmp 4, .tmp 5]⟩ (.node 46 ⟨25, c46, [.tmp 6]⟩ .leaf .leaf)
  (.node 48 ⟨46, c48, [.tmp 6, .tmp 7]⟩ .leaf .leaf)) (.node 51 ⟨13, c51, [.tmp 6]⟩ (.node 50 ⟨8, c50, [.tmp 2]⟩ .leaf .leaf) (.node 52 ⟨19, c52, [.tmp 6]⟩ .leaf .leaf)))) (.node 61 ⟨9, c61, [.tmp 4]⟩
  (.node 57 ⟨27, c57, [.tmp 4]⟩ (.node 55 ⟨24, c55, [.tmp 6]⟩ (.node 54 ⟨24, c54, [.tmp 6]⟩ .leaf .leaf) (.node 56 ⟨24, c56, [.tmp 6]⟩ .leaf .leaf)) (.node 59 ⟨9, c59, [.tmp 4]⟩ (.node 58 ⟨6, c58,
  [.tmp 2]⟩ .leaf .leaf) (.node 60 ⟨9, c60, [.tmp 2]⟩ .leaf .leaf))) (.node 67 ⟨19, c67, [.tmp 4]⟩ (.node 63 ⟨19, c63, [.tmp 4]⟩ (.node 62 ⟨8, c62, [.tmp 2]⟩ .leaf .leaf) (.node 66 ⟨19, c66, [.tmp 4]⟩
  .leaf .leaf)) (.node 70 ⟨14, c70, []⟩ (.node 69 ⟨10, c69, []⟩ .leaf .leaf) (.node 71 ⟨28, c71, []⟩ .leaf .leaf))))))
theorem tab_ok : tab.Ok Try.prog :=
  ⟨f36, ⟨f19, ⟨f11, ⟨f7, ⟨f5, ⟨f4, ⟨f3, trivial, trivial⟩, trivial⟩, ⟨f6, trivial, trivial⟩⟩, ⟨f9, ⟨f8, trivial, trivial⟩, ⟨f10, trivial, trivial⟩⟩⟩, ⟨f15, ⟨f13, ⟨f12, trivial, trivial⟩, ⟨f14, trivial,
  trivial⟩⟩, ⟨f17, ⟨f16, trivial, trivial⟩, ⟨f18, trivial, trivial⟩⟩⟩⟩, ⟨f28, ⟨f24, ⟨f22, ⟨f21, ⟨f20, trivial, trivial⟩, trivial⟩, ⟨f23, trivial, trivial⟩⟩, ⟨f26, ⟨f25, trivial, trivial⟩, ⟨f27,
  trivial, trivial⟩⟩⟩, ⟨f32, ⟨f30, ⟨f29, trivial, trivial⟩, ⟨f31, trivial, trivial⟩⟩, ⟨f34, ⟨f33, trivial, trivial⟩, ⟨f35, trivial, trivial⟩⟩⟩⟩⟩, ⟨f53, ⟨f45, ⟨f41, ⟨f39, ⟨f38, ⟨f37, trivial, trivial⟩,
  trivial⟩, ⟨f40, trivial, trivial⟩⟩, ⟨f43, ⟨f42, trivial, trivial⟩, ⟨f44, trivial, trivial⟩⟩⟩, ⟨f49, ⟨f47, ⟨f46, trivial, trivial⟩, ⟨f48, trivial, trivial⟩⟩, ⟨f51, ⟨f50, trivial, trivial⟩, ⟨f52,
  trivial, trivial⟩⟩⟩⟩, ⟨f61, ⟨f57, ⟨f55, ⟨f54, trivial, trivial⟩, ⟨f56, trivial, trivial⟩⟩, ⟨f59, ⟨f58, trivial, trivial⟩, ⟨f60, trivial, trivial⟩⟩⟩, ⟨f67, ⟨f63, ⟨f62, trivial, trivial⟩, ⟨f66,
  trivial, trivial⟩⟩, ⟨f70, ⟨f69, trivial, trivial⟩, ⟨f71, trivial, trivial⟩⟩⟩⟩⟩⟩
theorem tab_named : tab.named Try.prog = true := by kernel_rfl
end Go.Proofs.Ytgainpikomhepaa.C
