/- The seat's functions in a table (printed by a program of mine). -/
import Derived.Test.YtlefnohibjcekaaCode
import Derived.Test.YtlefnohibjcekaaAvRun
set_option maxRecDepth 100000
namespace Go.Proofs.Ytlefnohibjcekaa.C
open Go.Av
def tab : FT :=
  (.node 97 ⟨11, c97, [.tmp 4]⟩ (.node 47 ⟨27, c47, [.tmp 2]⟩ (.node 24 ⟨59, c24, [.tmp 4]⟩ (.node 13 ⟨63, c13, [.tmp 4]⟩ (.node 8 ⟨37, c8, [.tmp 2]⟩ (.node 5 ⟨174, c5, [.tmp 10]⟩ (.node 4 ⟨105, c4,
  [.tmp 8]⟩ (.node 3 ⟨116, c3, [.tmp 6]⟩ .leaf .leaf) .leaf) (.node 7 ⟨98, c7, [.tmp 10]⟩ (.node 6 ⟨83, c6, [.tmp 10]⟩ .leaf .leaf) .leaf)) (.node 11 ⟨24, c11, [.tmp 4]⟩ (.node 10 ⟨141, c10, [.tmp 6]⟩
  (.node 9 ⟨66, c9, [.tmp 4]⟩ .leaf .leaf) .leaf) (.node 12 ⟨140, c12, [.tmp 4]⟩ .leaf .leaf))) (.node 19 ⟨70, c19, [.cell 4 (some 2), .tmp 5]⟩ (.node 16 ⟨77, c16, [.tmp 0]⟩ (.node 15 ⟨13, c15, [.tmp
  2]⟩ (.node 14 ⟨124, c14, [.tmp 2]⟩ .leaf .leaf) .leaf) (.node 18 ⟨39, c18, [.cell 4 (some 2), .tmp 5]⟩ (.node 17 ⟨29, c17, [.cell 2 (some 2)]⟩ .leaf .leaf) .leaf)) (.node 22 ⟨71, c22, [.tmp 2]⟩
  (.node 21 ⟨96, c21, [.cell 6 (some 2), .tmp 7]⟩ (.node 20 ⟨84, c20, [.cell 6 (some 2), .tmp 7]⟩ .leaf .leaf) .leaf) (.node 23 ⟨6, c23, [.tmp 2]⟩ .leaf .leaf)))) (.node 36 ⟨17, c36, [.tmp 4]⟩ (.node
  30 ⟨86, c30, [.cell 6 (some 3), .tmp 7]⟩ (.node 27 ⟨13, c27, [.tmp 4]⟩ (.node 26 ⟨27, c26, [.tmp 4]⟩ (.node 25 ⟨13, c25, [.tmp 4]⟩ .leaf .leaf) .leaf) (.node 29 ⟨20, c29, [.tmp 6]⟩ (.node 28 ⟨19,
  c28, [.tmp 4]⟩ .leaf .leaf) .leaf)) (.node 34 ⟨115, c34, [.cell 2 (some 2), .tmp 3, .tmp 4]⟩ (.node 32 ⟨41, c32, [.tmp 6]⟩ (.node 31 ⟨61, c31, [.tmp 6, .tmp 7]⟩ .leaf .leaf) .leaf) (.node 35 ⟨98,
  c35, [.cell 2 (some 2), .tmp 3, .tmp 4]⟩ .leaf .leaf))) (.node 42 ⟨44, c42, [.tmp 2]⟩ (.node 39 ⟨12, c39, [.tmp 2, .tmp 3]⟩ (.node 38 ⟨43, c38, [.tmp 2, .tmp 3]⟩ (.node 37 ⟨54, c37, [.tmp 0]⟩ .leaf
  .leaf) .leaf) (.node 41 ⟨13, c41, [.tmp 2, .tmp 3]⟩ (.node 40 ⟨14, c40, [.tmp 2, .tmp 3]⟩ .leaf .leaf) .leaf)) (.node 45 ⟨100, c45, [.tmp 4]⟩ (.node 44 ⟨26, c44, [.tmp 4]⟩ (.node 43 ⟨10, c43, [.tmp
  2]⟩ .leaf .leaf) .leaf) (.node 46 ⟨125, c46, [.tmp 4]⟩ .leaf .leaf))))) (.node 72 ⟨24, c72, [.tmp 4]⟩ (.node 60 ⟨21, c60, [.cell 4 (some 2), .tmp 5]⟩ (.node 53 ⟨58, c53, [.tmp 2, .tmp 3]⟩ (.node 50
  ⟨25, c50, [.tmp 4, .tmp 5]⟩ (.node 49 ⟨26, c49, [.tmp 4]⟩ (.node 48 ⟨67, c48, [.tmp 4, .tmp 5]⟩ .leaf .leaf) .leaf) (.node 52 ⟨53, c52, [.tmp 2, .tmp 3]⟩ (.node 51 ⟨27, c51, [.tmp 2]⟩ .leaf .leaf)
  .leaf)) (.node 57 ⟨8, c57, [.tmp 2]⟩ (.node 56 ⟨42, c56, [.tmp 4]⟩ (.node 55 ⟨94, c55, [.tmp 2, .tmp 3]⟩ .leaf .leaf) .leaf) (.node 58 ⟨54, c58, [.tmp 4, .tmp 5]⟩ .leaf .leaf))) (.node 66 ⟨15, c66,
  [.tmp 4]⟩ (.node 63 ⟨37, c63, [.tmp 4]⟩ (.node 62 ⟨94, c62, [.tmp 2]⟩ (.node 61 ⟨8, c61, [.tmp 2]⟩ .leaf .leaf) .leaf) (.node 65 ⟨13, c65, [.tmp 2]⟩ (.node 64 ⟨43, c64, [.cell 4 (some 2), .tmp 5]⟩
  .leaf .leaf) .leaf)) (.node 70 ⟨8, c70, [.tmp 4]⟩ (.node 69 ⟨15, c69, [.tmp 4]⟩ (.node 68 ⟨13, c68, [.tmp 2]⟩ .leaf .leaf) .leaf) (.node 71 ⟨21, c71, [.tmp 4]⟩ .leaf .leaf)))) (.node 86 ⟨12, c86,
  [.tmp 2]⟩ (.node 79 ⟨12, c79, [.tmp 4]⟩ (.node 75 ⟨9, c75, [.tmp 4]⟩ (.node 74 ⟨8, c74, [.tmp 3]⟩ (.node 73 ⟨9, c73, [.tmp 4]⟩ .leaf .leaf) .leaf) (.node 78 ⟨9, c78, [.tmp 4]⟩ (.node 76 ⟨11, c76,
  [.tmp 4]⟩ .leaf .leaf) .leaf)) (.node 84 ⟨8, c84, [.tmp 2]⟩ (.node 82 ⟨43, c82, [.tmp 8]⟩ (.node 80 ⟨34, c80, [.tmp 2]⟩ .leaf .leaf) .leaf) (.node 85 ⟨36, c85, [.tmp 8]⟩ .leaf .leaf))) (.node 92
  ⟨25, c92, [.tmp 6]⟩ (.node 90 ⟨5, c90, [.tmp 2]⟩ (.node 89 ⟨7, c89, [.tmp 2]⟩ (.node 88 ⟨32, c88, [.tmp 4, .tmp 5]⟩ .leaf .leaf) .leaf) (.node 91 ⟨31, c91, [.tmp 4, .tmp 5, .tmp 6]⟩ .leaf .leaf))
  (.node 95 ⟨9, c95, [.tmp 4]⟩ (.node 94 ⟨51, c94, [.tmp 2]⟩ (.node 93 ⟨43, c93, [.tmp 4, .tmp 5]⟩ .leaf .leaf) .leaf) (.node 96 ⟨9, c96, [.tmp 4]⟩ .leaf .leaf)))))) (.node 144 ⟨9, c144, [.tmp 4]⟩
  (.node 120 ⟨10, c120, []⟩ (.node 108 ⟨22, c108, [.cell 4 (some 2)]⟩ (.node 103 ⟨26, c103, [.tmp 2]⟩ (.node 100 ⟨23, c100, [.tmp 2]⟩ (.node 99 ⟨9, c99, [.tmp 3]⟩ (.node 98 ⟨27, c98, [.tmp 4]⟩ .leaf
  .leaf) .leaf) (.node 102 ⟨51, c102, [.tmp 2]⟩ (.node 101 ⟨25, c101, [.tmp 2]⟩ .leaf .leaf) .leaf)) (.node 106 ⟨40, c106, [.tmp 4, .tmp 5]⟩ (.node 105 ⟨67, c105, [.tmp 6, .tmp 7]⟩ (.node 104 ⟨23,
  c104, [.tmp 2]⟩ .leaf .leaf) .leaf) (.node 107 ⟨27, c107, [.tmp 2]⟩ .leaf .leaf))) (.node 114 ⟨11, c114, []⟩ (.node 111 ⟨20, c111, [.tmp 4]⟩ (.node 110 ⟨10, c110, [.tmp 4]⟩ (.node 109 ⟨14, c109, []⟩
  .leaf .leaf) .leaf) (.node 113 ⟨53, c113, [.tmp 2, .cell 3 (some 3), .tmp 4]⟩ (.node 112 ⟨66, c112, [.tmp 2]⟩ .leaf .leaf) .leaf)) (.node 117 ⟨17, c117, [.tmp 4]⟩ (.node 116 ⟨26, c116, [.tmp 4]⟩
  (.node 115 ⟨60, c115, [.tmp 6]⟩ .leaf .leaf) .leaf) (.node 118 ⟨6, c118, [.tmp 2]⟩ .leaf .leaf)))) (.node 132 ⟨31, c132, [.tmp 2]⟩ (.node 127 ⟨19, c127, [.tmp 4]⟩ (.node 124 ⟨20, c124, [.tmp 4]⟩
  (.node 123 ⟨7, c123, [.tmp 3]⟩ (.node 122 ⟨7, c122, [.tmp 3]⟩ .leaf .leaf) .leaf) (.node 126 ⟨19, c126, [.tmp 4]⟩ (.node 125 ⟨20, c125, [.tmp 6]⟩ .leaf .leaf) .leaf)) (.node 130 ⟨19, c130, [.tmp 4]⟩
  (.node 129 ⟨14, c129, [.tmp 4]⟩ (.node 128 ⟨8, c128, [.tmp 6]⟩ .leaf .leaf) .leaf) (.node 131 ⟨27, c131, [.tmp 2]⟩ .leaf .leaf))) (.node 139 ⟨5, c139, [.tmp 2]⟩ (.node 137 ⟨8, c137, [.tmp 2]⟩ (.node
  135 ⟨27, c135, [.tmp 2]⟩ (.node 134 ⟨20, c134, [.tmp 4]⟩ .leaf .leaf) .leaf) (.node 138 ⟨38, c138, [.tmp 6]⟩ .leaf .leaf)) (.node 142 ⟨23, c142, [.tmp 2]⟩ (.node 141 ⟨23, c141, [.tmp 6]⟩ (.node 140
  ⟨24, c140, [.tmp 6]⟩ .leaf .leaf) .leaf) (.node 143 ⟨7, c143, [.tmp 2]⟩ .leaf .leaf))))) (.node 167 ⟨49, c167, []⟩ (.node 156 ⟨19, c156, [.tmp 4]⟩ (.node 150 ⟨14, c150, []⟩ (.node 147 ⟨6, c147,
  [.tmp 2]⟩ (.node 146 ⟨8, c146, [.tmp 2]⟩ (.node 145 ⟨148, c145, []⟩ .leaf .leaf) .leaf) (.node 149 ⟨44, c149, [.tmp 4]⟩ (.node 148 ⟨134, c148, []⟩ .leaf .leaf) .leaf)) (.node 154 ⟨18, c154, [.tmp
  2]⟩ (.node 152 ⟨9, c152, [.tmp 4]⟩ (.node 151 ⟨43, c151, []⟩ .leaf .leaf) .leaf) (.node 155 ⟨41, c155, [.tmp 6, .tmp 7]⟩ .leaf .leaf))) (.node 162 ⟨141, c162, [.tmp 8]⟩ (.node 159 ⟨67, c159, []⟩
  (.node 158 ⟨60, c158, []⟩ (.node 157 ⟨53, c157, []⟩ .leaf .leaf) .leaf) (.node 161 ⟨34, c161, []⟩ (.node 160 ⟨63, c160, [.tmp 8, .tmp 9]⟩ .leaf .leaf) .leaf)) (.node 165 ⟨19, c165, [.tmp 2]⟩ (.node
  164 ⟨178, c164, [.tmp 10, .tmp 11]⟩ (.node 163 ⟨90, c163, [.tmp 10]⟩ .leaf .leaf) .leaf) (.node 166 ⟨25, c166, [.tmp 2]⟩ .leaf .leaf)))) (.node 178 ⟨82, c178, []⟩ (.node 173 ⟨84, c173, [.tmp 8]⟩
  (.node 170 ⟨57, c170, [.tmp 6, .tmp 7]⟩ (.node 169 ⟨65, c169, []⟩ (.node 168 ⟨56, c168, []⟩ .leaf .leaf) .leaf) (.node 172 ⟨133, c172, [.tmp 6]⟩ (.node 171 ⟨32, c171, []⟩ .leaf .leaf) .leaf)) (.node
  176 ⟨26, c176, [.tmp 4]⟩ (.node 175 ⟨28, c175, []⟩ (.node 174 ⟨168, c174, [.tmp 8, .tmp 9]⟩ .leaf .leaf) .leaf) (.node 177 ⟨12, c177, [.tmp 4]⟩ .leaf .leaf))) (.node 183 ⟨76, c183, []⟩ (.node 181
  ⟨18, c181, [.tmp 8]⟩ (.node 180 ⟨33, c180, [.tmp 2]⟩ (.node 179 ⟨7, c179, [.tmp 2]⟩ .leaf .leaf) .leaf) (.node 182 ⟨41, c182, [.tmp 12]⟩ .leaf .leaf)) (.node 186 ⟨32, c186, [.tmp 10, .tmp 11]⟩
  (.node 185 ⟨36, c185, [.tmp 10]⟩ (.node 184 ⟨15, c184, [.tmp 6]⟩ .leaf .leaf) .leaf) (.node 187 ⟨28, c187, [.tmp 8, .tmp 9]⟩ .leaf .leaf)))))))
theorem tab_ok : tab.Ok Try.prog :=
  ⟨f97, ⟨f47, ⟨f24, ⟨f13, ⟨f8, ⟨f5, ⟨f4, ⟨f3, trivial, trivial⟩, trivial⟩, ⟨f7, ⟨f6, trivial, trivial⟩, trivial⟩⟩, ⟨f11, ⟨f10, ⟨f9, trivial, trivial⟩, trivial⟩, ⟨f12, trivial, trivial⟩⟩⟩, ⟨f19, ⟨f16,
  ⟨f15, ⟨f14, trivial, trivial⟩, trivial⟩, ⟨f18, ⟨f17, trivial, trivial⟩, trivial⟩⟩, ⟨f22, ⟨f21, ⟨f20, trivial, trivial⟩, trivial⟩, ⟨f23, trivial, trivial⟩⟩⟩⟩, ⟨f36, ⟨f30, ⟨f27, ⟨f26, ⟨f25, trivial,
  trivial⟩, trivial⟩, ⟨f29, ⟨f28, trivial, trivial⟩, trivial⟩⟩, ⟨f34, ⟨f32, ⟨f31, trivial, trivial⟩, trivial⟩, ⟨f35, trivial, trivial⟩⟩⟩, ⟨f42, ⟨f39, ⟨f38, ⟨f37, trivial, trivial⟩, trivial⟩, ⟨f41,
  ⟨f40, trivial, trivial⟩, trivial⟩⟩, ⟨f45, ⟨f44, ⟨f43, trivial, trivial⟩, trivial⟩, ⟨f46, trivial, trivial⟩⟩⟩⟩⟩, ⟨f72, ⟨f60, ⟨f53, ⟨f50, ⟨f49, ⟨f48, trivial, trivial⟩, trivial⟩, ⟨f52, ⟨f51, trivial,
  trivial⟩, trivial⟩⟩, ⟨f57, ⟨f56, ⟨f55, trivial, trivial⟩, trivial⟩, ⟨f58, trivial, trivial⟩⟩⟩, ⟨f66, ⟨f63, ⟨f62, ⟨f61, trivial, trivial⟩, trivial⟩, ⟨f65, ⟨f64, trivial, trivial⟩, trivial⟩⟩, ⟨f70,
  ⟨f69, ⟨f68, trivial, trivial⟩, trivial⟩, ⟨f71, trivial, trivial⟩⟩⟩⟩, ⟨f86, ⟨f79, ⟨f75, ⟨f74, ⟨f73, trivial, trivial⟩, trivial⟩, ⟨f78, ⟨f76, trivial, trivial⟩, trivial⟩⟩, ⟨f84, ⟨f82, ⟨f80, trivial,
  trivial⟩, trivial⟩, ⟨f85, trivial, trivial⟩⟩⟩, ⟨f92, ⟨f90, ⟨f89, ⟨f88, trivial, trivial⟩, trivial⟩, ⟨f91, trivial, trivial⟩⟩, ⟨f95, ⟨f94, ⟨f93, trivial, trivial⟩, trivial⟩, ⟨f96, trivial,
  trivial⟩⟩⟩⟩⟩⟩, ⟨f144, ⟨f120, ⟨f108, ⟨f103, ⟨f100, ⟨f99, ⟨f98, trivial, trivial⟩, trivial⟩, ⟨f102, ⟨f101, trivial, trivial⟩, trivial⟩⟩, ⟨f106, ⟨f105, ⟨f104, trivial, trivial⟩, trivial⟩, ⟨f107,
  trivial, trivial⟩⟩⟩, ⟨f114, ⟨f111, ⟨f110, ⟨f109, trivial, trivial⟩, trivial⟩, ⟨f113, ⟨f112, trivial, trivial⟩, trivial⟩⟩, ⟨f117, ⟨f116, ⟨f115, trivial, trivial⟩, trivial⟩, ⟨f118, trivial,
  trivial⟩⟩⟩⟩, ⟨f132, ⟨f127, ⟨f124, ⟨f123, ⟨f122, trivial, trivial⟩, trivial⟩, ⟨f126, ⟨f125, trivial, trivial⟩, trivial⟩⟩, ⟨f130, ⟨f129, ⟨f128, trivial, trivial⟩, trivial⟩, ⟨f131, trivial, trivial⟩⟩⟩,
  ⟨f139, ⟨f137, ⟨f135, ⟨f134, trivial, trivial⟩, trivial⟩, ⟨f138, trivial, trivial⟩⟩, ⟨f142, ⟨f141, ⟨f140, trivial, trivial⟩, trivial⟩, ⟨f143, trivial, trivial⟩⟩⟩⟩⟩, ⟨f167, ⟨f156, ⟨f150, ⟨f147, ⟨f146,
  ⟨f145, trivial, trivial⟩, trivial⟩, ⟨f149, ⟨f148, trivial, trivial⟩, trivial⟩⟩, ⟨f154, ⟨f152, ⟨f151, trivial, trivial⟩, trivial⟩, ⟨f155, trivial, trivial⟩⟩⟩, ⟨f162, ⟨f159, ⟨f158, ⟨f157, trivial,
  trivial⟩, trivial⟩, ⟨f161, ⟨f160, trivial, trivial⟩, trivial⟩⟩, ⟨f165, ⟨f164, ⟨f163, trivial, trivial⟩, trivial⟩, ⟨f166, trivial, trivial⟩⟩⟩⟩, ⟨f178, ⟨f173, ⟨f170, ⟨f169, ⟨f168, trivial, trivial⟩,
  trivial⟩, ⟨f172, ⟨f171, trivial, trivial⟩, trivial⟩⟩, ⟨f176, ⟨f175, ⟨f174, trivial, trivial⟩, trivial⟩, ⟨f177, trivial, trivial⟩⟩⟩, ⟨f183, ⟨f181, ⟨f180, ⟨f179, trivial, trivial⟩, trivial⟩, ⟨f182,
  trivial, trivial⟩⟩, ⟨f186, ⟨f185, ⟨f184, trivial, trivial⟩, trivial⟩, ⟨f187, trivial, trivial⟩⟩⟩⟩⟩⟩⟩
theorem tab_named : tab.named Try.prog = true := by kernel_rfl
end Go.Proofs.Ytlefnohibjcekaa.C
