/- The seat's functions in a table (printed by a program of mine). -/
import Derived.Test.YtlefnohibjcekaaCode
import Derived.Test.YtlefnohibjcekaaAvRun
set_option maxRecDepth 100000
namespace Go.Proofs.Ytlefnohibjcekaa.C
open Go.Av
def tab : FT :=
  (.node 104 ⟨23, c104, [.tmp 2]⟩ (.node 49 ⟨26, c49, [.tmp 4]⟩ (.node 39 ⟨12, c39, [.tmp 2, .tmp 3]⟩ (.node 34 ⟨115, c34, [.cell 2 (some 2), .tmp 3, .tmp 4]⟩ (.node 10 ⟨141, c10, [.tmp 6]⟩ (.node 9
  ⟨66, c9, [.tmp 4]⟩ (.node 8 ⟨37, c8, [.tmp 2]⟩ .leaf .leaf) .leaf) (.node 12 ⟨140, c12, [.tmp 4]⟩ (.node 11 ⟨24, c11, [.tmp 4]⟩ .leaf .leaf) .leaf)) (.node 37 ⟨54, c37, [.tmp 0]⟩ (.node 36 ⟨17, c36,
  [.tmp 4]⟩ (.node 35 ⟨98, c35, [.cell 2 (some 2), .tmp 3, .tmp 4]⟩ .leaf .leaf) .leaf) (.node 38 ⟨43, c38, [.tmp 2, .tmp 3]⟩ .leaf .leaf))) (.node 44 ⟨26, c44, [.tmp 4]⟩ (.node 42 ⟨44, c42, [.tmp 2]⟩
  (.node 41 ⟨13, c41, [.tmp 2, .tmp 3]⟩ (.node 40 ⟨14, c40, [.tmp 2, .tmp 3]⟩ .leaf .leaf) .leaf) (.node 43 ⟨10, c43, [.tmp 2]⟩ .leaf .leaf)) (.node 47 ⟨27, c47, [.tmp 2]⟩ (.node 46 ⟨125, c46, [.tmp
  4]⟩ (.node 45 ⟨100, c45, [.tmp 4]⟩ .leaf .leaf) .leaf) (.node 48 ⟨67, c48, [.tmp 4, .tmp 5]⟩ .leaf .leaf)))) (.node 94 ⟨51, c94, [.tmp 2]⟩ (.node 89 ⟨7, c89, [.tmp 2]⟩ (.node 63 ⟨37, c63, [.tmp 4]⟩
  (.node 52 ⟨53, c52, [.tmp 2, .tmp 3]⟩ (.node 50 ⟨25, c50, [.tmp 4, .tmp 5]⟩ .leaf .leaf) .leaf) (.node 73 ⟨9, c73, [.tmp 4]⟩ .leaf .leaf)) (.node 92 ⟨25, c92, [.tmp 6]⟩ (.node 91 ⟨31, c91, [.tmp 4,
  .tmp 5, .tmp 6]⟩ (.node 90 ⟨5, c90, [.tmp 2]⟩ .leaf .leaf) .leaf) (.node 93 ⟨43, c93, [.tmp 4, .tmp 5]⟩ .leaf .leaf))) (.node 99 ⟨9, c99, [.tmp 3]⟩ (.node 97 ⟨11, c97, [.tmp 4]⟩ (.node 96 ⟨9, c96,
  [.tmp 4]⟩ (.node 95 ⟨9, c95, [.tmp 4]⟩ .leaf .leaf) .leaf) (.node 98 ⟨27, c98, [.tmp 4]⟩ .leaf .leaf)) (.node 102 ⟨51, c102, [.tmp 2]⟩ (.node 101 ⟨25, c101, [.tmp 2]⟩ (.node 100 ⟨23, c100, [.tmp 2]⟩
  .leaf .leaf) .leaf) (.node 103 ⟨26, c103, [.tmp 2]⟩ .leaf .leaf))))) (.node 147 ⟨6, c147, [.tmp 2]⟩ (.node 137 ⟨8, c137, [.tmp 2]⟩ (.node 110 ⟨10, c110, [.tmp 4]⟩ (.node 107 ⟨27, c107, [.tmp 2]⟩
  (.node 106 ⟨40, c106, [.tmp 4, .tmp 5]⟩ (.node 105 ⟨67, c105, [.tmp 6, .tmp 7]⟩ .leaf .leaf) .leaf) (.node 109 ⟨14, c109, []⟩ (.node 108 ⟨22, c108, [.cell 4 (some 2)]⟩ .leaf .leaf) .leaf)) (.node
  132 ⟨31, c132, [.tmp 2]⟩ (.node 126 ⟨19, c126, [.tmp 4]⟩ (.node 111 ⟨20, c111, [.tmp 4]⟩ .leaf .leaf) .leaf) (.node 135 ⟨27, c135, [.tmp 2]⟩ .leaf .leaf))) (.node 142 ⟨23, c142, [.tmp 2]⟩ (.node 140
  ⟨24, c140, [.tmp 6]⟩ (.node 139 ⟨5, c139, [.tmp 2]⟩ (.node 138 ⟨38, c138, [.tmp 6]⟩ .leaf .leaf) .leaf) (.node 141 ⟨23, c141, [.tmp 6]⟩ .leaf .leaf)) (.node 145 ⟨148, c145, []⟩ (.node 144 ⟨9, c144,
  [.tmp 4]⟩ (.node 143 ⟨7, c143, [.tmp 2]⟩ .leaf .leaf) .leaf) (.node 146 ⟨8, c146, [.tmp 2]⟩ .leaf .leaf)))) (.node 163 ⟨90, c163, [.tmp 10]⟩ (.node 158 ⟨60, c158, []⟩ (.node 156 ⟨19, c156, [.tmp 4]⟩
  (.node 155 ⟨41, c155, [.tmp 6, .tmp 7]⟩ (.node 154 ⟨18, c154, [.tmp 2]⟩ .leaf .leaf) .leaf) (.node 157 ⟨53, c157, []⟩ .leaf .leaf)) (.node 161 ⟨34, c161, []⟩ (.node 160 ⟨63, c160, [.tmp 8, .tmp 9]⟩
  (.node 159 ⟨67, c159, []⟩ .leaf .leaf) .leaf) (.node 162 ⟨141, c162, [.tmp 8]⟩ .leaf .leaf))) (.node 179 ⟨7, c179, [.tmp 2]⟩ (.node 166 ⟨25, c166, [.tmp 2]⟩ (.node 165 ⟨19, c165, [.tmp 2]⟩ (.node
  164 ⟨178, c164, [.tmp 10, .tmp 11]⟩ .leaf .leaf) .leaf) (.node 178 ⟨82, c178, []⟩ .leaf .leaf)) (.node 182 ⟨41, c182, [.tmp 12]⟩ (.node 181 ⟨18, c181, [.tmp 8]⟩ (.node 180 ⟨33, c180, [.tmp 2]⟩ .leaf
  .leaf) .leaf) (.node 186 ⟨32, c186, [.tmp 10, .tmp 11]⟩ .leaf .leaf))))))
theorem tab_ok : tab.Ok Try.prog :=
  ⟨f104, ⟨f49, ⟨f39, ⟨f34, ⟨f10, ⟨f9, ⟨f8, trivial, trivial⟩, trivial⟩, ⟨f12, ⟨f11, trivial, trivial⟩, trivial⟩⟩, ⟨f37, ⟨f36, ⟨f35, trivial, trivial⟩, trivial⟩, ⟨f38, trivial, trivial⟩⟩⟩, ⟨f44, ⟨f42,
  ⟨f41, ⟨f40, trivial, trivial⟩, trivial⟩, ⟨f43, trivial, trivial⟩⟩, ⟨f47, ⟨f46, ⟨f45, trivial, trivial⟩, trivial⟩, ⟨f48, trivial, trivial⟩⟩⟩⟩, ⟨f94, ⟨f89, ⟨f63, ⟨f52, ⟨f50, trivial, trivial⟩,
  trivial⟩, ⟨f73, trivial, trivial⟩⟩, ⟨f92, ⟨f91, ⟨f90, trivial, trivial⟩, trivial⟩, ⟨f93, trivial, trivial⟩⟩⟩, ⟨f99, ⟨f97, ⟨f96, ⟨f95, trivial, trivial⟩, trivial⟩, ⟨f98, trivial, trivial⟩⟩, ⟨f102,
  ⟨f101, ⟨f100, trivial, trivial⟩, trivial⟩, ⟨f103, trivial, trivial⟩⟩⟩⟩⟩, ⟨f147, ⟨f137, ⟨f110, ⟨f107, ⟨f106, ⟨f105, trivial, trivial⟩, trivial⟩, ⟨f109, ⟨f108, trivial, trivial⟩, trivial⟩⟩, ⟨f132,
  ⟨f126, ⟨f111, trivial, trivial⟩, trivial⟩, ⟨f135, trivial, trivial⟩⟩⟩, ⟨f142, ⟨f140, ⟨f139, ⟨f138, trivial, trivial⟩, trivial⟩, ⟨f141, trivial, trivial⟩⟩, ⟨f145, ⟨f144, ⟨f143, trivial, trivial⟩,
  trivial⟩, ⟨f146, trivial, trivial⟩⟩⟩⟩, ⟨f163, ⟨f158, ⟨f156, ⟨f155, ⟨f154, trivial, trivial⟩, trivial⟩, ⟨f157, trivial, trivial⟩⟩, ⟨f161, ⟨f160, ⟨f159, trivial, trivial⟩, trivial⟩, ⟨f162, trivial,
  trivial⟩⟩⟩, ⟨f179, ⟨f166, ⟨f165, ⟨f164, trivial, trivial⟩, trivial⟩, ⟨f178, trivial, trivial⟩⟩, ⟨f182, ⟨f181, ⟨f180, trivial, trivial⟩, trivial⟩, ⟨f186, trivial, trivial⟩⟩⟩⟩⟩⟩
theorem tab_named : tab.named Try.prog = true := by kernel_rfl
end Go.Proofs.Ytlefnohibjcekaa.C
