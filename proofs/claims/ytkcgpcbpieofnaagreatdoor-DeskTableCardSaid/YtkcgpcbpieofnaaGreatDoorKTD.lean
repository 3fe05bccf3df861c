/- Parts of a proof: a layer of abstract values over the model, the functions' walks, plain laws. -/
import Derived.Deep.CondSized
import Derived.Deep.DeepHandedRow
import Derived.IntWalk
import Derived.KernelRfl
import Derived.Laws.Append
import Derived.Laws.AppendOwn
import Derived.Laws.BytesArg
import Derived.Laws.ComplexArith
import Derived.Laws.Cover3
import Derived.Laws.Entries
import Derived.Laws.FloatBits
import Derived.Laws.IdiomCopy
import Derived.Laws.IdiomStrings
import Derived.Laws.Pointers
import Derived.Laws.Small
import Derived.Laws.Strings
import Derived.Laws.StructEq
import Derived.Lib.LaidTab
import Derived.MapKept
import Derived.OpenShut
import Derived.Orders
import Derived.OrdersIn
import Derived.ProofKit
import Derived.RangeFuncRecord
import Derived.RangeFuncSeq
import Derived.ReadAgain
import Derived.Scope
import Derived.Shelf.Slices.Cells
import Derived.Shelf.Spec.SlicesInsertGrow
import Derived.SizedLaws
import Derived.Test.YtkcgpcbpieofnaaGreatDoorCards
import Derived.Test.YtkcgpcbpieofnaaGreatDoorProg
import Derived.Test.YtkcgpcbpieofnaaGreatDoorTie
import Derived.Test.YtkcgpcbpieofnaaGreatDoorKTC
section
set_option maxRecDepth 100000
namespace Go.Proofs.YtkcgpcbpieofnaaGreatDoor.C
open Go.Av
def c5 : AC := (.seq (.reg [⟨some 2, none, .box (.t 0)⟩, ⟨some 4, none, .mov (.c (.bool false))⟩] none)
 (.seq (.reg [⟨some 5, none, .mov (.t 1)⟩, ⟨some 6, none, .call 33 [(.t 5)]⟩, ⟨some 7, none, .mov (.t 1)⟩, ⟨some 8, none, .call 34 [(.t 7)]⟩, ⟨some 9, none, .eqB false (.t 6) (.t 8)⟩, ⟨some 10, none, .mov (.t 9)⟩, ⟨some 11, some (10, true), .load (some 14) (.t 2)⟩, ⟨some 12, some (10, true), .call 35 [(.t 11)]⟩, ⟨some 13, some (10, true), .load (some 14) (.t 2)⟩, ⟨some 14, some (10, true), .call 36 [(.t 13)]⟩, ⟨some 15, some (10, true), .bin .eql (.t 12) (.t 14)⟩, ⟨some 16, none, .pick (.t 10) (.t 15) (.c (.bool false))⟩, ⟨some 17, none, .mov (.t 16)⟩, ⟨some 18, some (17, true), .call 37 []⟩, ⟨some 19, none, .pick (.t 17) (.t 18) (.c (.bool false))⟩, ⟨some 4, none, .mov (.t 19)⟩] (some [(6, 8), (7, 8)]))
 .ret))
theorem f5 : FnIs Tryz.prog 5 20 c5 [.tmp 4] := ⟨_, Tryz.func5, rfl, by kernel_rfl, rfl⟩
def c6 : AC := (.seq (.reg [⟨some 2, none, .mov (.c (.bool false))⟩] none)
 (.seq (.reg [⟨some 19, none, .call 38 []⟩, ⟨some 3, none, .mov (.t 19)⟩] none)
 (.seq (.seq (.reg [⟨some 20, none, .mov (.t 3)⟩, ⟨some 21, none, .eqP false (.t 20) (.c (.sc (.pointer none)))⟩, ⟨some 22, none, .mov (.t 21)⟩, ⟨some 23, some (22, false), .mov (.t 0)⟩, ⟨some 24, some (22, false), .len false (.t 23)⟩, ⟨some 25, some (22, false), .bin .gtr (.t 24) (.c (.int .i64 200))⟩, ⟨some 26, none, .pick (.t 22) (.c (.bool true)) (.t 25)⟩] none)
 (.cond (.t 26) (.seq (.reg [⟨some 27, none, .mov (.t 3)⟩, ⟨some 28, none, .eqP true (.t 27) (.c (.sc (.pointer none)))⟩, ⟨some 29, none, .mov (.t 28)⟩, ⟨some 30, some (29, true), .call 37 []⟩, ⟨some 31, none, .pick (.t 29) (.t 30) (.c (.bool false))⟩, ⟨some 2, none, .mov (.t 31)⟩] none)
 .ret) .skip))
 (.seq (.reg [⟨some 32, none, .mksl 1 8 (.sc (.pointer none)) (.c (.int .i64 9)) (.c (.int .i64 9))⟩, ⟨some 4, none, .mov (.t 32)⟩] none)
 (.seq (.seq (.reg [⟨some 5, none, .mov (.c (.int .i64 0))⟩] none)
 (.block 0 (.loop (.seq (.seq (.reg [⟨some 33, none, .mov (.t 5)⟩, ⟨some 34, none, .mov (.t 0)⟩, ⟨some 35, none, .len false (.t 34)⟩, ⟨some 36, none, .bin .lss (.t 33) (.t 35)⟩] none)
 (.cond (.t 36) .skip (.exit 0)))
 (.seq (.block 1 (.seq (.reg [⟨some 39, none, .mov (.t 0)⟩, ⟨some 40, none, .mov (.t 5)⟩, ⟨some 41, none, .iaddr 2 (.t 39) (.t 40)⟩, ⟨some 42, none, .faddr 1 (.t 41)⟩, ⟨some 43, none, .load none (.t 42)⟩, ⟨some 6, none, .mov (.t 43)⟩] none)
 (.seq (.reg [⟨some 44, none, .mov (.t 6)⟩, ⟨some 45, none, .bin .geq (.t 44) (.c (.int .i64 1))⟩, ⟨some 46, none, .mov (.t 45)⟩, ⟨some 47, some (46, true), .mov (.t 6)⟩, ⟨some 48, some (46, true), .bin .leq (.t 47) (.c (.int .i64 8))⟩, ⟨some 49, none, .pick (.t 46) (.t 48) (.c (.bool false))⟩, ⟨some 50, none, .mov (.t 49)⟩, ⟨some 51, some (50, true), .mov (.t 4)⟩, ⟨some 52, some (50, true), .mov (.t 6)⟩, ⟨some 53, some (50, true), .iaddr 1 (.t 51) (.t 52)⟩, ⟨some 54, some (50, true), .load none (.t 53)⟩, ⟨some 55, some (50, true), .eqP true (.t 54) (.c (.sc (.pointer none)))⟩, ⟨some 56, none, .pick (.t 50) (.t 55) (.c (.bool false))⟩, ⟨some 7, none, .mov (.t 56)⟩] none)
 (.seq (.seq (.reg [⟨some 57, none, .mov (.t 0)⟩, ⟨some 58, none, .mov (.t 5)⟩, ⟨some 59, none, .iaddr 2 (.t 57) (.t 58)⟩, ⟨some 60, none, .faddr 0 (.t 59)⟩, ⟨some 61, none, .load none (.t 60)⟩] none)
 (.block 2 (.seq (.reg [⟨some 113, none, .bin .eql (.t 61) (.c (.int .i64 1))⟩, ⟨some 112, none, .mov (.t 113)⟩] none)
 (.cond (.t 112) (.seq (.seq (.reg [⟨some 114, none, .mov (.t 3)⟩, ⟨some 115, none, .mov (.t 6)⟩, ⟨some 116, none, .call 39 [(.t 114), (.t 115)]⟩, ⟨some 117, none, .bin .eql (.t 116) (.c (.int .i64 0))⟩, ⟨some 118, none, .mov (.t 7)⟩, ⟨some 119, none, .eqB true (.t 117) (.t 118)⟩, ⟨some 120, none, .mov (.t 119)⟩, ⟨some 121, some (120, false), .mov (.t 7)⟩, ⟨some 122, some (120, false), .un .not (.t 121)⟩, ⟨some 123, some (120, false), .mov (.t 122)⟩, ⟨some 124, some (123, true), .mov (.t 3)⟩, ⟨some 125, some (123, true), .mov (.t 6)⟩, ⟨some 126, some (123, true), .call 39 [(.t 124), (.t 125)]⟩, ⟨some 127, some (123, true), .bin .neq (.t 126) (.c (.int .i64 7))⟩, ⟨some 128, some (120, false), .pick (.t 123) (.t 127) (.c (.bool false))⟩, ⟨some 129, none, .pick (.t 120) (.c (.bool true)) (.t 128)⟩] none)
 (.cond (.t 129) (.seq (.reg [⟨some 2, none, .mov (.c (.bool false))⟩] none)
 .ret) .skip))
 (.seq (.reg [⟨some 130, none, .mov (.t 7)⟩] none)
 (.cond (.t 130) (.reg [⟨some 131, none, .mov (.t 4)⟩, ⟨some 132, none, .mov (.t 6)⟩, ⟨some 133, none, .iaddr 1 (.t 131) (.t 132)⟩, ⟨none, none, .store 1 (.t 133) (.c (.sc (.pointer none)))⟩] none) .skip))) (.seq (.reg [⟨some 135, none, .bin .eql (.t 61) (.c (.int .i64 2))⟩, ⟨some 134, none, .mov (.t 135)⟩] none)
 (.cond (.t 134) (.seq (.reg [⟨some 137, none, .mov (.t 3)⟩, ⟨some 138, none, .mov (.t 6)⟩, ⟨some 139, none, .call 40 [(.t 137), (.t 138)]⟩, ⟨some 136, none, .mov (.t 139)⟩, ⟨some 140, none, .ext (.t 136) 0⟩, ⟨some 141, none, .ext (.t 136) 1⟩, ⟨some 8, none, .mov (.t 140)⟩, ⟨some 9, none, .mov (.t 141)⟩] none)
 (.seq (.reg [⟨some 142, none, .mov (.t 7)⟩, ⟨some 143, none, .mov (.t 142)⟩, ⟨some 144, some (143, true), .mov (.t 8)⟩, ⟨some 145, some (143, true), .mov (.t 4)⟩, ⟨some 146, some (143, true), .mov (.t 6)⟩, ⟨some 147, some (143, true), .iaddr 1 (.t 145) (.t 146)⟩, ⟨some 148, some (143, true), .load none (.t 147)⟩, ⟨some 149, some (143, true), .eqQ true (.t 144) (.t 148)⟩, ⟨some 150, some (143, true), .mov (.t 149)⟩, ⟨some 151, some (150, false), .mov (.t 9)⟩, ⟨some 152, some (150, false), .bin .neq (.t 151) (.c (.int .i64 0))⟩, ⟨some 153, some (143, true), .pick (.t 150) (.c (.bool true)) (.t 152)⟩, ⟨some 154, none, .pick (.t 143) (.t 153) (.c (.bool false))⟩, ⟨some 155, none, .mov (.t 154)⟩, ⟨some 156, some (155, false), .mov (.t 7)⟩, ⟨some 157, some (155, false), .un .not (.t 156)⟩, ⟨some 158, some (155, false), .mov (.t 157)⟩, ⟨some 159, some (158, true), .mov (.t 8)⟩, ⟨some 160, some (158, true), .eqP true (.t 159) (.c (.sc (.pointer none)))⟩, ⟨some 161, some (158, true), .mov (.t 160)⟩, ⟨some 162, some (161, false), .mov (.t 9)⟩, ⟨some 163, some (161, false), .bin .neq (.t 162) (.c (.int .i64 7))⟩, ⟨some 164, some (158, true), .pick (.t 161) (.c (.bool true)) (.t 163)⟩, ⟨some 165, some (155, false), .pick (.t 158) (.t 164) (.c (.bool false))⟩, ⟨some 166, none, .pick (.t 155) (.c (.bool true)) (.t 165)⟩] none)
 (.cond (.t 166) (.seq (.reg [⟨some 2, none, .mov (.c (.bool false))⟩] none)
 .ret) .skip))) (.seq (.reg [⟨some 168, none, .bin .eql (.t 61) (.c (.int .i64 3))⟩, ⟨some 167, none, .mov (.t 168)⟩] none)
 (.cond (.t 167) (.seq (.reg [⟨some 170, none, .mov (.t 3)⟩, ⟨some 171, none, .call 41 [(.t 170), (.c (.sc (.pointer none)))]⟩, ⟨some 169, none, .mov (.t 171)⟩, ⟨some 172, none, .ext (.t 169) 0⟩, ⟨some 173, none, .ext (.t 169) 1⟩, ⟨some 10, none, .mov (.t 172)⟩, ⟨some 11, none, .mov (.t 173)⟩] none)
 (.seq (.reg [⟨some 174, none, .mov (.t 10)⟩, ⟨some 175, none, .bin .neq (.t 174) (.c (.int .i64 0))⟩, ⟨some 176, none, .mov (.t 175)⟩, ⟨some 177, some (176, false), .mov (.t 11)⟩, ⟨some 178, some (176, false), .bin .neq (.t 177) (.c (.int .i64 2))⟩, ⟨some 179, none, .pick (.t 176) (.c (.bool true)) (.t 178)⟩] none)
 (.cond (.t 179) (.seq (.reg [⟨some 2, none, .mov (.c (.bool false))⟩] none)
 .ret) .skip))) (.seq (.reg [⟨some 63, none, .call 42 []⟩, ⟨some 62, none, .mov (.t 63)⟩, ⟨some 64, none, .ext (.t 62) 0⟩, ⟨some 65, none, .ext (.t 62) 1⟩, ⟨some 12, none, .mov (.t 64)⟩, ⟨some 13, none, .mov (.t 65)⟩] none)
 (.seq (.reg [⟨some 14, none, .mov (.c (.int .i64 1))⟩] none)
 (.seq (.block 3 (.loop (.seq (.seq (.reg [⟨some 66, none, .mov (.t 14)⟩, ⟨some 67, none, .bin .leq (.t 66) (.c (.int .i64 8))⟩, ⟨some 68, none, .mov (.t 67)⟩, ⟨some 69, some (68, true), .mov (.t 4)⟩, ⟨some 70, some (68, true), .mov (.t 14)⟩, ⟨some 71, some (68, true), .iaddr 1 (.t 69) (.t 70)⟩, ⟨some 72, some (68, true), .load none (.t 71)⟩, ⟨some 73, some (68, true), .eqP true (.t 72) (.c (.sc (.pointer none)))⟩, ⟨some 74, none, .pick (.t 68) (.t 73) (.c (.bool false))⟩] none)
 (.cond (.t 74) .skip (.exit 3)))
 (.block 4 (.reg [⟨some 75, none, .mov (.t 14)⟩, ⟨some 76, none, .bin .add (.t 75) (.c (.int .i64 1))⟩, ⟨some 14, none, .mov (.t 76)⟩] none)))))
 (.seq (.reg [⟨some 78, none, .mov (.t 3)⟩, ⟨some 79, none, .mov (.t 12)⟩, ⟨some 80, none, .call 41 [(.t 78), (.t 79)]⟩, ⟨some 77, none, .mov (.t 80)⟩, ⟨some 81, none, .ext (.t 77) 0⟩, ⟨some 82, none, .ext (.t 77) 1⟩, ⟨some 15, none, .mov (.t 81)⟩, ⟨some 16, none, .mov (.t 82)⟩] none)
 (.seq (.seq (.reg [⟨some 83, none, .mov (.t 14)⟩, ⟨some 84, none, .bin .gtr (.t 83) (.c (.int .i64 8))⟩, ⟨some 85, none, .mov (.t 84)⟩, ⟨some 86, some (85, true), .mov (.t 15)⟩, ⟨some 87, some (85, true), .bin .neq (.t 86) (.c (.int .i64 0))⟩, ⟨some 88, some (85, true), .mov (.t 87)⟩, ⟨some 89, some (88, false), .mov (.t 16)⟩, ⟨some 90, some (88, false), .bin .neq (.t 89) (.c (.int .i64 9))⟩, ⟨some 91, some (85, true), .pick (.t 88) (.c (.bool true)) (.t 90)⟩, ⟨some 92, none, .pick (.t 85) (.t 91) (.c (.bool false))⟩, ⟨some 93, none, .mov (.t 92)⟩, ⟨some 94, some (93, false), .mov (.t 14)⟩, ⟨some 95, some (93, false), .bin .leq (.t 94) (.c (.int .i64 8))⟩, ⟨some 96, some (93, false), .mov (.t 95)⟩, ⟨some 97, some (96, true), .mov (.t 15)⟩, ⟨some 98, some (96, true), .mov (.t 14)⟩, ⟨some 99, some (96, true), .bin .neq (.t 97) (.t 98)⟩, ⟨some 100, some (96, true), .mov (.t 99)⟩, ⟨some 101, some (100, false), .mov (.t 16)⟩, ⟨some 102, some (100, false), .bin .neq (.t 101) (.c (.int .i64 0))⟩, ⟨some 103, some (96, true), .pick (.t 100) (.c (.bool true)) (.t 102)⟩, ⟨some 104, some (93, false), .pick (.t 96) (.t 103) (.c (.bool false))⟩, ⟨some 105, none, .pick (.t 93) (.c (.bool true)) (.t 104)⟩] none)
 (.cond (.t 105) (.seq (.reg [⟨some 2, none, .mov (.c (.bool false))⟩] none)
 .ret) .skip))
 (.seq (.reg [⟨some 106, none, .mov (.t 14)⟩, ⟨some 107, none, .bin .leq (.t 106) (.c (.int .i64 8))⟩] none)
 (.cond (.t 107) (.reg [⟨some 108, none, .mov (.t 4)⟩, ⟨some 109, none, .mov (.t 14)⟩, ⟨some 110, none, .mov (.t 12)⟩, ⟨some 111, none, .iaddr 1 (.t 108) (.t 109)⟩, ⟨none, none, .store 1 (.t 111) (.t 110)⟩] none) .skip)))))))))))))))
 (.seq (.reg [⟨some 17, none, .mov (.c (.sl 1 [] (.exact 0)))⟩] none)
 (.seq (.seq (.reg [⟨some 18, none, .mov (.c (.int .i64 1))⟩] none)
 (.block 5 (.loop (.seq (.seq (.reg [⟨some 180, none, .mov (.t 18)⟩, ⟨some 181, none, .bin .leq (.t 180) (.c (.int .i64 8))⟩] none)
 (.cond (.t 181) .skip (.exit 5)))
 (.seq (.block 6 (.seq (.reg [⟨some 184, none, .mov (.t 4)⟩, ⟨some 185, none, .mov (.t 18)⟩, ⟨some 186, none, .iaddr 1 (.t 184) (.t 185)⟩, ⟨some 187, none, .load none (.t 186)⟩, ⟨some 188, none, .eqP true (.t 187) (.c (.sc (.pointer none)))⟩] none)
 (.cond (.t 188) (.reg [⟨some 189, none, .mov (.t 17)⟩, ⟨some 190, none, .mov (.t 18)⟩, ⟨some 191, none, .buildSl 1 [(.t 190)]⟩, ⟨some 192, none, .app false 1 8 (.t 189) (.t 191)⟩, ⟨some 17, none, .mov (.t 192)⟩] none) .skip)))
 (.reg [⟨some 182, none, .mov (.t 18)⟩, ⟨some 183, none, .bin .add (.t 182) (.c (.int .i64 1))⟩, ⟨some 18, none, .mov (.t 183)⟩] none))))))
 (.seq (.reg [⟨some 193, none, .mov (.t 3)⟩, ⟨some 194, none, .call 44 [(.t 193)]⟩, ⟨some 195, none, .mov (.t 17)⟩, ⟨some 196, none, .call 43 [(.t 194), (.t 195)]⟩, ⟨some 197, none, .un .not (.t 196)⟩] none)
 (.cond (.t 197) (.seq (.reg [⟨some 2, none, .mov (.c (.bool false))⟩] none)
 .ret) .skip))))))))
 (.reg [⟨some 37, none, .mov (.t 5)⟩, ⟨some 38, none, .bin .add (.t 37) (.c (.int .i64 1))⟩, ⟨some 5, none, .mov (.t 38)⟩] none))))))
 (.seq (.reg [⟨some 198, none, .call 37 []⟩, ⟨some 2, none, .mov (.t 198)⟩] none)
 .ret))))))
theorem f6 : FnIs Tryz.prog 6 199 c6 [.tmp 2] := ⟨_, Tryz.func6, rfl, by kernel_rfl, rfl⟩
def c10 : AC := (.seq (.reg [⟨some 4, none, .mov (.c (.sc (.pointer none)))⟩, ⟨some 5, none, .mov (.c (.int .i64 0))⟩] none)
 (.seq (.seq (.reg [⟨some 9, none, .mov (.t 0)⟩, ⟨some 10, none, .mov (.t 1)⟩, ⟨some 11, none, .call 50 [(.t 9), (.c (.str [])), (.t 10)]⟩, ⟨some 8, none, .mov (.t 11)⟩, ⟨some 12, none, .ext (.t 8) 0⟩, ⟨some 13, none, .ext (.t 8) 1⟩, ⟨some 6, none, .mov (.t 12)⟩, ⟨some 7, none, .mov (.t 13)⟩] none)
 (.seq (.reg [⟨some 14, none, .mov (.t 7)⟩, ⟨some 15, none, .bin .neq (.t 14) (.c (.int .i64 0))⟩, ⟨some 16, none, .mov (.t 15)⟩, ⟨some 17, some (16, true), .mov (.t 7)⟩, ⟨some 18, some (16, true), .bin .neq (.t 17) (.c (.int .i64 7))⟩, ⟨some 19, none, .pick (.t 16) (.t 18) (.c (.bool false))⟩] none)
 (.cond (.t 19) (.seq (.reg [⟨some 20, none, .mov (.t 7)⟩, ⟨some 4, none, .mov (.c (.sc (.pointer none)))⟩, ⟨some 5, none, .mov (.t 20)⟩] none)
 .ret) .skip)))
 (.seq (.reg [⟨some 21, none, .mov (.t 0)⟩, ⟨some 22, none, .mov (.t 1)⟩, ⟨some 23, none, .mkmap⟩, ⟨some 24, none, .build [.sc (.pointer none), .int .i64 0, .sc (.map none), .sl 1 [] (.exact 0), .sl 1 [] (.exact 0), .sl 2 [] (.exact 0), .bool false] [(0, 1, (.t 21)), (1, 1, (.t 22)), (2, 1, (.t 23))]⟩, ⟨some 25, none, .box (.t 24)⟩, ⟨some 4, none, .mov (.t 25)⟩, ⟨some 5, none, .mov (.c (.int .i64 0))⟩] none)
 .ret)))
theorem f10 : FnIs Tryz.prog 10 26 c10 [.tmp 4, .tmp 5] := ⟨_, Tryz.func10, rfl, by kernel_rfl, rfl⟩
def c11 : AC := (.seq (.reg [⟨some 0, none, .mov (.c (.sc (.pointer none)))⟩] none)
 (.seq (.reg [⟨some 1, none, .mkmap⟩, ⟨some 2, none, .build [.sl 1 [] (.exact 0), .sc (.map none), .int .i64 0, .int .i64 0] [(1, 1, (.t 1))]⟩, ⟨some 3, none, .box (.t 2)⟩, ⟨some 0, none, .mov (.t 3)⟩] none)
 .ret))
theorem f11 : FnIs Tryz.prog 11 4 c11 [.tmp 0] := ⟨_, Tryz.func11, rfl, by kernel_rfl, rfl⟩
def c15 : AC := (.seq (.reg [⟨some 9, none, .box (.t 4)⟩, ⟨some 10, none, .mov (.c (.str []))⟩, ⟨some 11, none, .mov (.c (.int .i64 0))⟩] none)
 (.seq (.seq (.reg [⟨some 18, none, .mov (.t 0)⟩, ⟨some 19, none, .call 56 [(.t 18)]⟩, ⟨some 20, none, .mov (.t 1)⟩, ⟨some 21, none, .call 57 [(.t 20)]⟩, ⟨some 22, none, .mov (.t 2)⟩, ⟨some 23, none, .call 59 [(.t 22)]⟩, ⟨some 24, none, .mov (.t 3)⟩, ⟨some 25, none, .load (some 3) (.t 9)⟩, ⟨some 26, none, .call 60 [(.t 24), (.t 25)]⟩, ⟨some 27, none, .buildSl 1 [(.t 19), (.t 21), (.t 23), (.t 26)]⟩, ⟨some 28, none, .call 55 [(.t 27)]⟩, ⟨some 12, none, .mov (.t 28)⟩] (some [(1, 7), (3, 7), (5, 7)]))
 (.seq (.reg [⟨some 29, none, .mov (.t 12)⟩, ⟨some 30, none, .bin .neq (.t 29) (.c (.int .i64 0))⟩] none)
 (.cond (.t 30) (.seq (.reg [⟨some 31, none, .mov (.t 12)⟩, ⟨some 10, none, .mov (.c (.str []))⟩, ⟨some 11, none, .mov (.t 31)⟩] none)
 .ret) .skip)))
 (.seq (.reg [⟨some 32, none, .mov (.t 0)⟩, ⟨some 33, none, .mov (.t 1)⟩, ⟨some 34, none, .mov (.t 2)⟩, ⟨some 35, none, .build [.sc (.pointer none), .str [], .str []] [(0, 1, (.t 32)), (1, 1, (.t 33)), (2, 1, (.t 34))]⟩, ⟨some 13, none, .alloc [.sc (.pointer none), .str [], .str []]⟩, ⟨none, none, .store 3 (.t 13) (.t 35)⟩] none)
 (.seq (.reg [⟨some 37, none, .mov (.t 0)⟩, ⟨some 38, none, .mov (.t 1)⟩, ⟨some 39, none, .call 58 [(.t 37), (.t 38)]⟩, ⟨some 36, none, .mov (.t 39)⟩, ⟨some 40, none, .ext (.t 36) 0⟩, ⟨some 41, none, .ext (.t 36) 1⟩, ⟨some 14, none, .mov (.t 40)⟩, ⟨some 15, none, .mov (.t 41)⟩] none)
 (.seq (.seq (.reg [⟨some 42, none, .mov (.t 15)⟩, ⟨some 43, none, .bin .neq (.t 42) (.c (.int .i64 0))⟩] none)
 (.cond (.t 43) (.seq (.reg [⟨some 44, none, .mov (.t 15)⟩, ⟨some 10, none, .mov (.c (.str []))⟩, ⟨some 11, none, .mov (.t 44)⟩] none)
 .ret) .skip))
 (.seq (.reg [⟨some 46, none, .load (some 3) (.t 13)⟩, ⟨some 47, none, .call 61 [(.t 46)]⟩, ⟨some 45, none, .mov (.t 47)⟩, ⟨some 48, none, .ext (.t 45) 0⟩, ⟨some 49, none, .ext (.t 45) 1⟩, ⟨some 16, none, .mov (.t 48)⟩, ⟨some 15, none, .mov (.t 49)⟩] none)
 (.seq (.seq (.reg [⟨some 50, none, .mov (.t 15)⟩, ⟨some 51, none, .bin .neq (.t 50) (.c (.int .i64 0))⟩] none)
 (.cond (.t 51) (.seq (.reg [⟨some 52, none, .mov (.t 15)⟩, ⟨some 10, none, .mov (.c (.str []))⟩, ⟨some 11, none, .mov (.t 52)⟩] none)
 .ret) .skip))
 (.seq (.seq (.reg [⟨some 53, none, .mov (.t 16)⟩, ⟨some 54, none, .load (some 3) (.t 9)⟩, ⟨some 55, none, .call 62 [(.t 53), (.t 54)]⟩, ⟨some 17, none, .mov (.t 55)⟩] none)
 (.seq (.reg [⟨some 56, none, .mov (.t 17)⟩, ⟨some 57, none, .bin .neq (.t 56) (.c (.int .i64 0))⟩] none)
 (.cond (.t 57) (.seq (.reg [⟨some 58, none, .mov (.t 17)⟩, ⟨some 10, none, .mov (.c (.str []))⟩, ⟨some 11, none, .mov (.t 58)⟩] none)
 .ret) .skip)))
 (.seq (.reg [⟨some 59, none, .load (some 3) (.t 13)⟩, ⟨some 60, none, .mov (.t 14)⟩, ⟨some 61, none, .mov (.t 16)⟩, ⟨some 62, none, .mov (.t 3)⟩, ⟨some 63, none, .len true (.t 62)⟩, ⟨some 64, none, .mov (.t 3)⟩, ⟨some 65, none, .conv .s2b (.t 64)⟩, ⟨some 66, none, .call 49 [(.t 65)]⟩, ⟨some 67, none, .build [.int .i64 0, .int .i64 0, .int .i64 0, .bool false, .bool false] [(0, 1, (.t 63)), (1, 2, (.t 66))]⟩, ⟨some 68, none, .mov (.t 3)⟩, ⟨some 69, none, .call 63 [(.t 59), (.t 60), (.t 61), (.t 67), (.t 68)]⟩, ⟨some 70, none, .ext (.t 69) 0⟩, ⟨some 71, none, .ext (.t 69) 1⟩, ⟨some 10, none, .mov (.t 70)⟩, ⟨some 11, none, .mov (.t 71)⟩] (some [(0, 6), (0, 7)]))
 .ret)))))))))
theorem f15 : FnIs Tryz.prog 15 72 c15 [.tmp 10, .tmp 11] := ⟨_, Tryz.func15, rfl, by kernel_rfl, rfl⟩
def c17 : AC := (.seq (.reg [⟨some 8, none, .alloc [.str [], .int .i64 0, .int .i64 0, .int .i64 0, .bool false, .bool false, .str []]⟩, ⟨some 9, none, .mov (.c (.int .i64 0))⟩] none)
 (.seq (.reg [⟨some 14, none, .mov (.t 0)⟩, ⟨some 15, none, .mov (.t 1)⟩, ⟨some 16, none, .mov (.t 2)⟩, ⟨some 17, none, .mov (.t 3)⟩, ⟨some 18, none, .call 64 [(.t 14), (.t 15), (.t 16), (.t 17)]⟩, ⟨some 13, none, .mov (.t 18)⟩, ⟨some 19, none, .ext (.t 13) 0⟩, ⟨some 20, none, .ext (.t 13) 1⟩, ⟨some 21, none, .ext (.t 13) 2⟩, ⟨some 10, none, .alloc [.str [], .int .i64 0, .int .i64 0, .int .i64 0, .bool false, .bool false, .str []]⟩, ⟨none, none, .store 7 (.t 10) (.t 19)⟩, ⟨some 11, none, .mov (.t 20)⟩, ⟨some 12, none, .mov (.t 21)⟩] none)
 (.seq (.reg [⟨some 22, none, .load (some 7) (.t 10)⟩, ⟨some 23, none, .mov (.t 12)⟩, ⟨none, none, .store 7 (.t 8) (.t 22)⟩, ⟨some 9, none, .mov (.t 23)⟩] none)
 .ret)))
theorem f17 : FnIs Tryz.prog 17 24 c17 [.cell 8 (some 7), .tmp 9] := ⟨_, Tryz.func17, rfl, by kernel_rfl, rfl⟩
def c21 : AC := (.seq (.reg [⟨some 4, none, .mov (.c (.int .i64 0))⟩] none)
 (.seq (.seq (.reg [⟨some 8, none, .mov (.t 0)⟩, ⟨some 9, none, .call 56 [(.t 8)]⟩, ⟨some 10, none, .mov (.t 1)⟩, ⟨some 11, none, .call 57 [(.t 10)]⟩, ⟨some 12, none, .buildSl 1 [(.t 9), (.t 11)]⟩, ⟨some 13, none, .call 55 [(.t 12)]⟩, ⟨some 5, none, .mov (.t 13)⟩] none)
 (.seq (.reg [⟨some 14, none, .mov (.t 5)⟩, ⟨some 15, none, .bin .neq (.t 14) (.c (.int .i64 0))⟩] none)
 (.cond (.t 15) (.seq (.reg [⟨some 16, none, .mov (.t 5)⟩, ⟨some 4, none, .mov (.t 16)⟩] none)
 .ret) .skip)))
 (.seq (.reg [⟨some 18, none, .mov (.t 0)⟩, ⟨some 19, none, .mov (.t 1)⟩, ⟨some 20, none, .call 58 [(.t 18), (.t 19)]⟩, ⟨some 17, none, .mov (.t 20)⟩, ⟨some 21, none, .ext (.t 17) 0⟩, ⟨some 22, none, .ext (.t 17) 1⟩, ⟨some 6, none, .mov (.t 21)⟩, ⟨some 7, none, .mov (.t 22)⟩] none)
 (.seq (.reg [⟨some 23, none, .mov (.t 7)⟩] none)
 (.block 0 (.seq (.reg [⟨some 26, none, .bin .eql (.t 23) (.c (.int .i64 0))⟩, ⟨some 25, none, .mov (.t 26)⟩] none)
 (.cond (.t 25) (.seq (.reg [⟨some 4, none, .mov (.c (.int .i64 8))⟩] none)
 .ret) (.seq (.reg [⟨some 28, none, .bin .eql (.t 23) (.c (.int .i64 7))⟩, ⟨some 27, none, .mov (.t 28)⟩] none)
 (.cond (.t 27) (.seq (.reg [⟨some 29, none, .mov (.t 0)⟩, ⟨some 30, none, .mov (.t 1)⟩, ⟨some 31, none, .call 78 [(.t 29), (.t 30), (.c (.int .i64 0))]⟩, ⟨some 4, none, .mov (.t 31)⟩] none)
 .ret) (.seq (.reg [⟨some 24, none, .mov (.t 7)⟩, ⟨some 4, none, .mov (.t 24)⟩] none)
 .ret))))))))))
theorem f21 : FnIs Tryz.prog 21 32 c21 [.tmp 4] := ⟨_, Tryz.func21, rfl, by kernel_rfl, rfl⟩
def c22 : AC := (.seq (.reg [⟨some 4, none, .mov (.c (.int .i64 0))⟩] none)
 (.seq (.seq (.reg [⟨some 16, none, .mov (.t 0)⟩, ⟨some 17, none, .call 56 [(.t 16)]⟩, ⟨some 18, none, .mov (.t 1)⟩, ⟨some 19, none, .call 57 [(.t 18)]⟩, ⟨some 20, none, .buildSl 1 [(.t 17), (.t 19)]⟩, ⟨some 21, none, .call 55 [(.t 20)]⟩, ⟨some 5, none, .mov (.t 21)⟩] none)
 (.seq (.reg [⟨some 22, none, .mov (.t 5)⟩, ⟨some 23, none, .bin .neq (.t 22) (.c (.int .i64 0))⟩] none)
 (.cond (.t 23) (.seq (.reg [⟨some 24, none, .mov (.t 5)⟩, ⟨some 4, none, .mov (.t 24)⟩] none)
 .ret) .skip)))
 (.seq (.seq (.reg [⟨some 26, none, .mov (.t 0)⟩, ⟨some 27, none, .mov (.t 1)⟩, ⟨some 28, none, .call 58 [(.t 26), (.t 27)]⟩, ⟨some 25, none, .mov (.t 28)⟩, ⟨some 29, none, .ext (.t 25) 0⟩, ⟨some 30, none, .ext (.t 25) 1⟩, ⟨some 6, none, .mov (.t 29)⟩, ⟨some 7, none, .mov (.t 30)⟩] none)
 (.seq (.reg [⟨some 31, none, .mov (.t 7)⟩, ⟨some 32, none, .bin .neq (.t 31) (.c (.int .i64 0))⟩] none)
 (.cond (.t 32) (.seq (.reg [⟨some 33, none, .mov (.t 7)⟩, ⟨some 4, none, .mov (.t 33)⟩] none)
 .ret) .skip)))
 (.seq (.seq (.reg [⟨some 34, none, .buildSl 1 [(.c (.int .i64 2)), (.c (.int .i64 4))]⟩, ⟨some 35, none, .len false (.t 34)⟩, ⟨some 36, none, .mov (.c (.int .i64 0))⟩] none)
 (.block 0 (.loop (.seq (.reg [⟨some 37, none, .bin .lss (.t 36) (.t 35)⟩] none)
 (.seq (.cond (.t 37) .skip (.exit 0))
 (.seq (.block 1 (.seq (.reg [⟨some 38, none, .iaddr 1 (.t 34) (.t 36)⟩, ⟨some 39, none, .load none (.t 38)⟩, ⟨some 9, none, .mov (.t 39)⟩] none)
 (.seq (.reg [⟨some 41, none, .mov (.t 9)⟩, ⟨some 42, none, .mov (.t 1)⟩, ⟨some 43, none, .build [.int .i64 0, .str [], .str [], .sl 1 [] (.exact 0)] [(0, 1, (.t 41)), (1, 1, (.t 42))]⟩, ⟨some 44, none, .call 52 [(.t 43)]⟩, ⟨some 40, none, .mov (.t 44)⟩, ⟨some 45, none, .ext (.t 40) 0⟩, ⟨some 46, none, .ext (.t 40) 1⟩, ⟨some 10, none, .alloc [.str [], .str []]⟩, ⟨none, none, .store 2 (.t 10) (.t 45)⟩, ⟨some 11, none, .mov (.t 46)⟩] none)
 (.seq (.reg [⟨some 48, none, .mov (.t 0)⟩, ⟨some 49, none, .faddr 0 (.t 10)⟩, ⟨some 50, none, .load none (.t 49)⟩, ⟨some 51, none, .faddr 1 (.t 10)⟩, ⟨some 52, none, .load none (.t 51)⟩, ⟨some 53, none, .call 53 [(.t 48), (.t 50), (.t 52), (.c (.int .i64 1))]⟩, ⟨some 47, none, .mov (.t 53)⟩, ⟨some 54, none, .ext (.t 47) 0⟩, ⟨some 55, none, .ext (.t 47) 1⟩, ⟨some 12, none, .mov (.t 54)⟩, ⟨some 13, none, .mov (.t 55)⟩] none)
 (.block 2 (.seq (.reg [⟨some 57, none, .mov (.t 13)⟩, ⟨some 58, none, .bin .neq (.t 57) (.c (.int .i64 0))⟩, ⟨some 56, none, .mov (.t 58)⟩] none)
 (.cond (.t 56) (.seq (.reg [⟨some 59, none, .mov (.t 13)⟩, ⟨some 4, none, .mov (.t 59)⟩] none)
 .ret) (.seq (.reg [⟨some 61, none, .mov (.t 12)⟩, ⟨some 62, none, .len false (.t 61)⟩, ⟨some 63, none, .bin .gtr (.t 62) (.c (.int .i64 0))⟩, ⟨some 60, none, .mov (.t 63)⟩] none)
 (.cond (.t 60) (.seq (.reg [⟨some 4, none, .mov (.c (.int .i64 19))⟩] none)
 .ret) .skip)))))))))
 (.reg [⟨some 64, none, .bin .add (.t 36) (.c (.int .i64 1))⟩, ⟨some 36, none, .mov (.t 64)⟩] none)))))))
 (.seq (.reg [⟨some 66, none, .mov (.t 1)⟩, ⟨some 67, none, .build [.int .i64 0, .str [], .str [], .sl 1 [] (.exact 0)] [(0, 1, (.c (.int .i64 1))), (1, 1, (.t 66))]⟩, ⟨some 68, none, .call 79 [(.t 67)]⟩, ⟨some 65, none, .mov (.t 68)⟩, ⟨some 69, none, .ext (.t 65) 0⟩, ⟨some 70, none, .ext (.t 65) 1⟩, ⟨some 14, none, .mov (.t 69)⟩, ⟨some 15, none, .mov (.t 70)⟩] none)
 (.seq (.reg [⟨some 71, none, .mov (.t 0)⟩, ⟨some 72, none, .mov (.t 14)⟩, ⟨some 73, none, .call 80 [(.t 71), (.t 72)]⟩, ⟨some 4, none, .mov (.t 73)⟩] none)
 .ret))))))
theorem f22 : FnIs Tryz.prog 22 74 c22 [.tmp 4] := ⟨_, Tryz.func22, rfl, by kernel_rfl, rfl⟩
def c29 : AC := (.seq (.reg [⟨some 9, none, .box (.t 4)⟩, ⟨some 10, none, .mov (.c (.str []))⟩, ⟨some 11, none, .mov (.c (.int .i64 0))⟩] none)
 (.seq (.reg [⟨some 15, none, .mov (.t 0)⟩, ⟨some 16, none, .mov (.t 1)⟩, ⟨some 17, none, .mov (.t 2)⟩, ⟨some 18, none, .build [.sc (.pointer none), .str [], .str []] [(0, 1, (.t 15)), (1, 1, (.t 16)), (2, 1, (.t 17))]⟩, ⟨some 19, none, .mov (.t 3)⟩, ⟨some 20, none, .build [.sc (.pointer none), .str [], .str [], .int .i64 0] [(0, 3, (.t 18)), (3, 1, (.t 19))]⟩, ⟨some 12, none, .alloc [.sc (.pointer none), .str [], .str [], .int .i64 0]⟩, ⟨none, none, .store 4 (.t 12) (.t 20)⟩] none)
 (.seq (.reg [⟨some 21, none, .faddr 0 (.t 12)⟩, ⟨some 22, none, .load (some 3) (.t 21)⟩, ⟨some 23, none, .call 81 [(.t 22)]⟩, ⟨some 13, none, .mov (.t 23)⟩] none)
 (.seq (.block 0 (.seq (.reg [⟨some 27, none, .mov (.t 13)⟩, ⟨some 28, none, .bin .neq (.t 27) (.c (.int .i64 0))⟩, ⟨some 26, none, .mov (.t 28)⟩] none)
 (.cond (.t 26) .skip (.seq (.reg [⟨some 30, none, .mov (.t 3)⟩, ⟨some 31, none, .bin .lss (.t 30) (.c (.int .i64 0))⟩, ⟨some 32, none, .mov (.t 31)⟩, ⟨some 33, some (32, false), .load none (.t 9)⟩, ⟨some 34, some (32, false), .call 90 [(.t 33)]⟩, ⟨some 35, some (32, false), .un .not (.t 34)⟩, ⟨some 36, none, .pick (.t 32) (.c (.bool true)) (.t 35)⟩, ⟨some 29, none, .mov (.t 36)⟩] none)
 (.cond (.t 29) (.reg [⟨some 13, none, .mov (.c (.int .i64 2))⟩] none) (.reg [⟨some 24, none, .load (some 4) (.t 12)⟩, ⟨some 25, none, .call 86 [(.t 24)]⟩, ⟨some 13, none, .mov (.t 25)⟩] none))))))
 (.seq (.reg [⟨some 14, none, .alloc [.str []]⟩, ⟨none, none, .store 1 (.t 14) (.c (.str []))⟩] none)
 (.seq (.seq (.reg [⟨some 37, none, .mov (.t 13)⟩, ⟨some 38, none, .bin .eql (.t 37) (.c (.int .i64 0))⟩] none)
 (.cond (.t 38) (.reg [⟨some 39, none, .faddr 0 (.t 12)⟩, ⟨some 40, none, .load (some 3) (.t 39)⟩, ⟨some 41, none, .mkfn (.func 91) [] [(.t 12), (.t 9), (.t 14)]⟩, ⟨some 42, none, .call 87 [(.t 40), (.t 41)]⟩, ⟨some 13, none, .mov (.t 42)⟩] none) .skip))
 (.seq (.seq (.reg [⟨some 43, none, .mov (.t 13)⟩, ⟨some 44, none, .bin .neq (.t 43) (.c (.int .i64 0))⟩] none)
 (.cond (.t 44) (.seq (.reg [⟨some 45, none, .mov (.t 13)⟩, ⟨some 10, none, .mov (.c (.str []))⟩, ⟨some 11, none, .mov (.t 45)⟩] none)
 .ret) .skip))
 (.seq (.reg [⟨some 46, none, .load none (.t 14)⟩, ⟨some 10, none, .mov (.t 46)⟩, ⟨some 11, none, .mov (.c (.int .i64 0))⟩] none)
 .ret))))))))
theorem f29 : FnIs Tryz.prog 29 47 c29 [.tmp 10, .tmp 11] := ⟨_, Tryz.func29, rfl, by kernel_rfl, rfl⟩
def c30 : AC := (.seq (.reg [⟨some 4, none, .mov (.c (.sl 2 [] (.exact 0)))⟩, ⟨some 5, none, .mov (.c (.int .i64 0))⟩] none)
 (.seq (.seq (.reg [⟨some 16, none, .mov (.t 0)⟩, ⟨some 17, none, .mov (.t 1)⟩, ⟨some 18, none, .call 14 [(.t 16), (.t 17)]⟩, ⟨some 15, none, .mov (.t 18)⟩, ⟨some 19, none, .ext (.t 15) 0⟩, ⟨some 20, none, .ext (.t 15) 1⟩, ⟨some 6, none, .mov (.t 19)⟩, ⟨some 7, none, .mov (.t 20)⟩] none)
 (.seq (.reg [⟨some 21, none, .mov (.t 7)⟩, ⟨some 22, none, .bin .neq (.t 21) (.c (.int .i64 0))⟩] none)
 (.cond (.t 22) (.seq (.reg [⟨some 23, none, .mov (.t 7)⟩, ⟨some 4, none, .mov (.c (.sl 2 [] (.exact 0)))⟩, ⟨some 5, none, .mov (.t 23)⟩] none)
 .ret) .skip)))
 (.seq (.reg [⟨some 25, none, .mov (.t 0)⟩, ⟨some 26, none, .mov (.t 1)⟩, ⟨some 27, none, .build [.sc (.pointer none), .str [], .str []] [(0, 1, (.t 25)), (1, 1, (.t 26)), (2, 1, (.c (.str [])))]⟩, ⟨some 28, none, .call 93 [(.t 27), (.c (.int .i64 4)), (.c (.sl 1 [] (.exact 0)))]⟩, ⟨some 24, none, .mov (.t 28)⟩, ⟨some 29, none, .ext (.t 24) 0⟩, ⟨some 30, none, .ext (.t 24) 1⟩, ⟨some 8, none, .mov (.t 29)⟩, ⟨some 9, none, .mov (.t 30)⟩] none)
 (.seq (.seq (.reg [⟨some 31, none, .mov (.t 9)⟩, ⟨some 32, none, .bin .neq (.t 31) (.c (.int .i64 0))⟩] none)
 (.cond (.t 32) (.seq (.reg [⟨some 33, none, .mov (.t 9)⟩, ⟨some 4, none, .mov (.c (.sl 2 [] (.exact 0)))⟩, ⟨some 5, none, .mov (.t 33)⟩] none)
 .ret) .skip))
 (.seq (.reg [⟨some 10, none, .mov (.c (.sl 2 [] (.exact 0)))⟩] none)
 (.seq (.seq (.reg [⟨some 34, none, .mov (.t 8)⟩, ⟨some 35, none, .len false (.t 34)⟩, ⟨some 36, none, .mov (.c (.int .i64 0))⟩] none)
 (.block 0 (.loop (.seq (.reg [⟨some 37, none, .bin .lss (.t 36) (.t 35)⟩] none)
 (.seq (.cond (.t 37) .skip (.exit 0))
 (.seq (.block 1 (.seq (.reg [⟨some 38, none, .iaddr 2 (.t 34) (.t 36)⟩, ⟨some 39, none, .load (some 2) (.t 38)⟩, ⟨some 12, none, .alloc [.str [], .str []]⟩, ⟨none, none, .store 2 (.t 12) (.t 39)⟩] none)
 (.seq (.reg [⟨some 41, none, .faddr 0 (.t 12)⟩, ⟨some 42, none, .load none (.t 41)⟩, ⟨some 43, none, .call 54 [(.t 42)]⟩, ⟨some 40, none, .mov (.t 43)⟩, ⟨some 44, none, .ext (.t 40) 0⟩, ⟨some 45, none, .ext (.t 40) 1⟩, ⟨some 13, none, .alloc [.int .i64 0, .str [], .str [], .sl 1 [] (.exact 0)]⟩, ⟨none, none, .store 4 (.t 13) (.t 44)⟩, ⟨some 14, none, .mov (.t 45)⟩] none)
 (.seq (.seq (.reg [⟨some 46, none, .mov (.t 14)⟩, ⟨some 47, none, .bin .neq (.t 46) (.c (.int .i64 0))⟩] none)
 (.cond (.t 47) (.seq (.reg [⟨some 48, none, .mov (.t 14)⟩, ⟨some 4, none, .mov (.c (.sl 2 [] (.exact 0)))⟩, ⟨some 5, none, .mov (.t 48)⟩] none)
 .ret) .skip))
 (.reg [⟨some 49, none, .mov (.t 10)⟩, ⟨some 50, none, .faddr 2 (.t 13)⟩, ⟨some 51, none, .load none (.t 50)⟩, ⟨some 52, none, .faddr 3 (.t 13)⟩, ⟨some 53, none, .load none (.t 52)⟩, ⟨some 54, none, .iaddr 1 (.t 53) (.c (.int .i64 0))⟩, ⟨some 55, none, .load none (.t 54)⟩, ⟨some 56, none, .build [.str [], .int .i64 0] [(0, 1, (.t 51)), (1, 1, (.t 55))]⟩, ⟨some 57, none, .buildSl 2 [(.t 56)]⟩, ⟨some 58, none, .app false 2 24 (.t 49) (.t 57)⟩, ⟨some 10, none, .mov (.t 58)⟩] (some [(2, 4), (2, 6)]))))))
 (.reg [⟨some 59, none, .bin .add (.t 36) (.c (.int .i64 1))⟩, ⟨some 36, none, .mov (.t 59)⟩] none)))))))
 (.seq (.reg [⟨some 60, none, .mov (.t 10)⟩, ⟨some 4, none, .mov (.t 60)⟩, ⟨some 5, none, .mov (.c (.int .i64 0))⟩] none)
 .ret)))))))
theorem f30 : FnIs Tryz.prog 30 61 c30 [.tmp 4, .tmp 5] := ⟨_, Tryz.func30, rfl, by kernel_rfl, rfl⟩
def c33 : AC := (.seq (.reg [⟨some 2, none, .mov (.c (.bool false))⟩] none)
 (.seq (.reg [⟨some 3, none, .mov (.t 0)⟩, ⟨some 4, none, .bin .geq (.t 3) (.c (.int .i64 5))⟩, ⟨some 5, none, .mov (.t 4)⟩, ⟨some 6, some (5, true), .mov (.t 0)⟩, ⟨some 7, some (5, true), .bin .leq (.t 6) (.c (.int .i64 21))⟩, ⟨some 8, none, .pick (.t 5) (.t 7) (.c (.bool false))⟩, ⟨some 2, none, .mov (.t 8)⟩] none)
 .ret))
theorem f33 : FnIs Tryz.prog 33 9 c33 [.tmp 2] := ⟨_, Tryz.func33, rfl, by kernel_rfl, rfl⟩
def c36 : AC := (.seq (.reg [⟨some 1, none, .box (.t 0)⟩, ⟨some 2, none, .mov (.c (.int .i64 0))⟩] none)
 (.seq (.seq (.reg [⟨some 3, none, .faddr 0 (.t 1)⟩, ⟨some 4, none, .load none (.t 3)⟩, ⟨some 5, none, .bin .neq (.t 4) (.c (.int .i64 10))⟩, ⟨some 6, none, .mov (.t 5)⟩, ⟨some 7, some (6, true), .faddr 0 (.t 1)⟩, ⟨some 8, some (6, true), .load none (.t 7)⟩, ⟨some 9, some (6, true), .bin .neq (.t 8) (.c (.int .i64 17))⟩, ⟨some 10, none, .pick (.t 6) (.t 9) (.c (.bool false))⟩] none)
 (.cond (.t 10) (.seq (.reg [⟨some 2, none, .mov (.c (.int .i64 0))⟩] none)
 .ret) .skip))
 (.seq (.reg [⟨some 11, none, .faddr 7 (.t 1)⟩, ⟨some 12, none, .load none (.t 11)⟩, ⟨some 13, none, .len true (.t 12)⟩, ⟨some 14, none, .bin .add (.t 13) (.c (.int .i64 160))⟩, ⟨some 15, none, .bin .sub (.t 14) (.c (.int .i64 1))⟩, ⟨some 16, none, .bin .quo (.t 15) (.c (.int .i64 160))⟩, ⟨some 2, none, .mov (.t 16)⟩] none)
 .ret)))
theorem f36 : FnIs Tryz.prog 36 17 c36 [.tmp 2] := ⟨_, Tryz.func36, rfl, by kernel_rfl, rfl⟩
def c37 : AC := (.seq (.reg [⟨some 0, none, .mov (.c (.bool false))⟩] none)
 (.seq (.reg [⟨some 17, none, .call 42 []⟩, ⟨some 16, none, .mov (.t 17)⟩, ⟨some 18, none, .ext (.t 16) 0⟩, ⟨some 19, none, .ext (.t 16) 1⟩, ⟨some 1, none, .mov (.t 18)⟩, ⟨some 2, none, .mov (.t 19)⟩] none)
 (.seq (.reg [⟨some 21, none, .call 42 []⟩, ⟨some 20, none, .mov (.t 21)⟩, ⟨some 22, none, .ext (.t 20) 0⟩, ⟨some 23, none, .ext (.t 20) 1⟩, ⟨some 3, none, .mov (.t 22)⟩, ⟨some 4, none, .mov (.t 23)⟩] none)
 (.seq (.reg [⟨some 24, none, .call 38 []⟩, ⟨some 5, none, .mov (.t 24)⟩] none)
 (.seq (.seq (.reg [⟨some 25, none, .mov (.t 1)⟩, ⟨some 26, none, .eqP false (.t 25) (.c (.sc (.pointer none)))⟩, ⟨some 27, none, .mov (.t 26)⟩, ⟨some 28, some (27, false), .mov (.t 3)⟩, ⟨some 29, some (27, false), .eqP false (.t 28) (.c (.sc (.pointer none)))⟩, ⟨some 30, none, .pick (.t 27) (.c (.bool true)) (.t 29)⟩, ⟨some 31, none, .mov (.t 30)⟩, ⟨some 32, some (31, false), .mov (.t 5)⟩, ⟨some 33, some (31, false), .eqP false (.t 32) (.c (.sc (.pointer none)))⟩, ⟨some 34, none, .pick (.t 31) (.c (.bool true)) (.t 33)⟩] none)
 (.cond (.t 34) (.seq (.reg [⟨some 0, none, .mov (.c (.bool false))⟩] none)
 .ret) .skip))
 (.seq (.reg [⟨some 35, none, .mov (.t 1)⟩, ⟨some 36, none, .build [.int .i64 0, .int .i64 0, .str [], .str [], .str [], .str [], .str [], .str [], .int .i64 0, .int .i64 0, .int .i64 0, .int .i64 0, .int .i64 0, .sl 1 [] (.exact 0)] [(0, 1, (.c (.int .i64 5))), (2, 1, (.c (.str [97, 98, 99])))]⟩, ⟨some 37, none, .call 46 [(.t 35), (.t 36)]⟩, ⟨some 6, none, .alloc [.int .i64 0, .int .i64 0, .int .i64 0, .str [], .int .i64 0, .int .i64 0, .str [], .int .i64 0, .int .i64 0, .int .i64 0, .bool false, .bool false, .str [], .sl 1 [] (.exact 0), .sl 1 [] (.exact 0), .sl 1 [] (.exact 0), .str [], .bool false, .sl 8 [] (.exact 0), .str [], .int .i64 0, .bool false, .sl 2 [] (.exact 0), .sl 6 [] (.exact 0)]⟩, ⟨none, none, .store 24 (.t 6) (.t 37)⟩] none)
 (.seq (.reg [⟨some 38, none, .mov (.t 1)⟩, ⟨some 39, none, .build [.int .i64 0, .int .i64 0, .str [], .str [], .str [], .str [], .str [], .str [], .int .i64 0, .int .i64 0, .int .i64 0, .int .i64 0, .int .i64 0, .sl 1 [] (.exact 0)] [(0, 1, (.c (.int .i64 10))), (2, 1, (.c (.str [97, 98, 99]))), (3, 1, (.c (.str [107]))), (7, 1, (.c (.str [120])))]⟩, ⟨some 40, none, .call 46 [(.t 38), (.t 39)]⟩, ⟨some 7, none, .alloc [.int .i64 0, .int .i64 0, .int .i64 0, .str [], .int .i64 0, .int .i64 0, .str [], .int .i64 0, .int .i64 0, .int .i64 0, .bool false, .bool false, .str [], .sl 1 [] (.exact 0), .sl 1 [] (.exact 0), .sl 1 [] (.exact 0), .str [], .bool false, .sl 8 [] (.exact 0), .str [], .int .i64 0, .bool false, .sl 2 [] (.exact 0), .sl 6 [] (.exact 0)]⟩, ⟨none, none, .store 24 (.t 7) (.t 40)⟩] none)
 (.seq (.reg [⟨some 41, none, .mov (.t 1)⟩, ⟨some 42, none, .build [.int .i64 0, .int .i64 0, .str [], .str [], .str [], .str [], .str [], .str [], .int .i64 0, .int .i64 0, .int .i64 0, .int .i64 0, .int .i64 0, .sl 1 [] (.exact 0)] [(0, 1, (.c (.int .i64 1)))]⟩, ⟨some 43, none, .call 46 [(.t 41), (.t 42)]⟩, ⟨some 8, none, .alloc [.int .i64 0, .int .i64 0, .int .i64 0, .str [], .int .i64 0, .int .i64 0, .str [], .int .i64 0, .int .i64 0, .int .i64 0, .bool false, .bool false, .str [], .sl 1 [] (.exact 0), .sl 1 [] (.exact 0), .sl 1 [] (.exact 0), .str [], .bool false, .sl 8 [] (.exact 0), .str [], .int .i64 0, .bool false, .sl 2 [] (.exact 0), .sl 6 [] (.exact 0)]⟩, ⟨none, none, .store 24 (.t 8) (.t 43)⟩] none)
 (.seq (.reg [⟨some 45, none, .mov (.t 5)⟩, ⟨some 46, none, .mov (.t 1)⟩, ⟨some 47, none, .call 41 [(.t 45), (.t 46)]⟩, ⟨some 44, none, .mov (.t 47)⟩, ⟨some 48, none, .ext (.t 44) 0⟩, ⟨some 49, none, .ext (.t 44) 1⟩, ⟨some 9, none, .mov (.t 48)⟩, ⟨some 10, none, .mov (.t 49)⟩] none)
 (.seq (.reg [⟨some 51, none, .mov (.t 5)⟩, ⟨some 52, none, .mov (.t 3)⟩, ⟨some 53, none, .call 41 [(.t 51), (.t 52)]⟩, ⟨some 50, none, .mov (.t 53)⟩, ⟨some 54, none, .ext (.t 50) 0⟩, ⟨some 55, none, .ext (.t 50) 1⟩, ⟨some 11, none, .mov (.t 54)⟩, ⟨some 12, none, .mov (.t 55)⟩] none)
 (.seq (.reg [⟨some 56, none, .mov (.t 5)⟩, ⟨some 57, none, .call 39 [(.t 56), (.c (.int .i64 1))]⟩, ⟨some 13, none, .mov (.t 57)⟩] none)
 (.seq (.reg [⟨some 59, none, .mov (.t 5)⟩, ⟨some 60, none, .mov (.t 3)⟩, ⟨some 61, none, .call 41 [(.t 59), (.t 60)]⟩, ⟨some 58, none, .mov (.t 61)⟩, ⟨some 62, none, .ext (.t 58) 0⟩, ⟨some 63, none, .ext (.t 58) 1⟩, ⟨some 14, none, .mov (.t 62)⟩, ⟨some 15, none, .mov (.t 63)⟩] none)
 (.seq (.reg [⟨some 64, none, .faddr 0 (.t 6)⟩, ⟨some 65, none, .load none (.t 64)⟩, ⟨some 66, none, .bin .eql (.t 65) (.c (.int .i64 0))⟩, ⟨some 67, none, .mov (.t 66)⟩, ⟨some 68, some (67, true), .load (some 24) (.t 7)⟩, ⟨some 69, some (67, true), .buildSl 1 [(.c (.int .u8 120))]⟩, ⟨some 70, some (67, true), .conv .s2s (.t 69)⟩, ⟨some 71, some (67, true), .call 49 [(.t 70)]⟩, ⟨some 72, some (67, true), .build [.int .i64 0, .int .i64 0, .int .i64 0, .str [], .int .i64 0, .int .i64 0, .str [], .int .i64 0, .int .i64 0, .int .i64 0, .bool false, .bool false, .str [], .sl 1 [] (.exact 0), .sl 1 [] (.exact 0), .sl 1 [] (.exact 0), .str [], .bool false, .sl 8 [] (.exact 0), .str [], .int .i64 0, .bool false, .sl 2 [] (.exact 0), .sl 6 [] (.exact 0)] [(3, 1, (.c (.str [110, 117, 108, 108]))), (1, 1, (.c (.int .i64 65))), (4, 2, (.t 71))]⟩, ⟨some 73, some (67, true), .call 47 [(.t 68), (.t 72)]⟩, ⟨some 74, none, .pick (.t 67) (.t 73) (.c (.bool false))⟩, ⟨some 75, none, .mov (.t 74)⟩, ⟨some 76, some (75, true), .faddr 0 (.t 8)⟩, ⟨some 77, some (75, true), .load none (.t 76)⟩, ⟨some 78, some (75, true), .bin .eql (.t 77) (.c (.int .i64 2))⟩, ⟨some 79, none, .pick (.t 75) (.t 78) (.c (.bool false))⟩, ⟨some 80, none, .mov (.t 79)⟩, ⟨some 81, some (80, true), .mov (.t 9)⟩, ⟨some 82, some (80, true), .bin .eql (.t 81) (.c (.int .i64 1))⟩, ⟨some 83, none, .pick (.t 80) (.t 82) (.c (.bool false))⟩, ⟨some 84, none, .mov (.t 83)⟩, ⟨some 85, some (84, true), .mov (.t 10)⟩, ⟨some 86, some (84, true), .bin .eql (.t 85) (.c (.int .i64 0))⟩, ⟨some 87, none, .pick (.t 84) (.t 86) (.c (.bool false))⟩, ⟨some 88, none, .mov (.t 87)⟩, ⟨some 89, some (88, true), .mov (.t 11)⟩, ⟨some 90, some (88, true), .bin .eql (.t 89) (.c (.int .i64 2))⟩, ⟨some 91, none, .pick (.t 88) (.t 90) (.c (.bool false))⟩, ⟨some 92, none, .mov (.t 91)⟩, ⟨some 93, some (92, true), .mov (.t 12)⟩, ⟨some 94, some (92, true), .bin .eql (.t 93) (.c (.int .i64 0))⟩, ⟨some 95, none, .pick (.t 92) (.t 94) (.c (.bool false))⟩, ⟨some 96, none, .mov (.t 95)⟩, ⟨some 97, some (96, true), .mov (.t 13)⟩, ⟨some 98, some (96, true), .bin .eql (.t 97) (.c (.int .i64 0))⟩, ⟨some 99, none, .pick (.t 96) (.t 98) (.c (.bool false))⟩, ⟨some 100, none, .mov (.t 99)⟩, ⟨some 101, some (100, true), .mov (.t 14)⟩, ⟨some 102, some (100, true), .bin .eql (.t 101) (.c (.int .i64 1))⟩, ⟨some 103, none, .pick (.t 100) (.t 102) (.c (.bool false))⟩, ⟨some 104, none, .mov (.t 103)⟩, ⟨some 105, some (104, true), .mov (.t 15)⟩, ⟨some 106, some (104, true), .bin .eql (.t 105) (.c (.int .i64 0))⟩, ⟨some 107, none, .pick (.t 104) (.t 106) (.c (.bool false))⟩, ⟨some 108, none, .mov (.t 107)⟩, ⟨some 109, none, .pick (.t 108) (.c (.bool true)) (.c (.bool false))⟩, ⟨some 0, none, .mov (.t 109)⟩] (some [(4, 5), (4, 6), (4, 7)]))
 .ret)))))))))))))
theorem f37 : FnIs Tryz.prog 37 110 c37 [.tmp 0] := ⟨_, Tryz.func37, rfl, by kernel_rfl, rfl⟩
def c38 : AC := (.seq (.reg [⟨some 0, none, .mov (.c (.sc (.pointer none)))⟩] none)
 (.seq (.reg [⟨some 1, none, .build [.bool false, .sc (.pointer none), .sc (.pointer none), .sc (.pointer none), .sc (.pointer none), .sc (.pointer none), .sc (.pointer none), .sc (.pointer none), .sc (.pointer none)] [(0, 1, (.c (.bool true)))]⟩, ⟨some 2, none, .box (.t 1)⟩, ⟨some 0, none, .mov (.t 2)⟩] none)
 .ret))
theorem f38 : FnIs Tryz.prog 38 3 c38 [.tmp 0] := ⟨_, Tryz.func38, rfl, by kernel_rfl, rfl⟩
def c39 : AC := (.seq (.reg [⟨some 4, none, .mov (.c (.int .i64 0))⟩] none)
 (.seq (.reg [⟨some 8, none, .mov (.t 0)⟩, ⟨some 9, none, .mov (.t 1)⟩, ⟨some 10, none, .call 40 [(.t 8), (.t 9)]⟩, ⟨some 7, none, .mov (.t 10)⟩, ⟨some 11, none, .ext (.t 7) 0⟩, ⟨some 12, none, .ext (.t 7) 1⟩, ⟨some 5, none, .mov (.t 11)⟩, ⟨some 6, none, .mov (.t 12)⟩] none)
 (.seq (.seq (.reg [⟨some 13, none, .mov (.t 6)⟩, ⟨some 14, none, .bin .eql (.t 13) (.c (.int .i64 0))⟩] none)
 (.cond (.t 14) (.reg [⟨some 15, none, .mov (.t 0)⟩, ⟨some 16, none, .mov (.t 1)⟩, ⟨some 17, none, .bin .sub (.t 16) (.c (.int .i64 1))⟩, ⟨some 18, none, .nilck (.t 15)⟩, ⟨some 19, none, .faddr 1 (.t 18)⟩, ⟨some 20, none, .raw (.paddr 1 8) [(.t 19), (.t 17)]⟩, ⟨none, none, .store 1 (.t 20) (.c (.sc (.pointer none)))⟩] none) .skip))
 (.seq (.reg [⟨some 21, none, .mov (.t 6)⟩, ⟨some 4, none, .mov (.t 21)⟩] none)
 .ret))))
theorem f39 : FnIs Tryz.prog 39 22 c39 [.tmp 4] := ⟨_, Tryz.func39, rfl, by kernel_rfl, rfl⟩
def c40 : AC := (.seq (.reg [⟨some 4, none, .mov (.c (.sc (.pointer none)))⟩, ⟨some 5, none, .mov (.c (.int .i64 0))⟩] none)
 (.seq (.block 0 (.seq (.reg [⟨some 7, none, .mov (.t 0)⟩, ⟨some 8, none, .eqP false (.t 7) (.c (.sc (.pointer none)))⟩, ⟨some 9, none, .mov (.t 8)⟩, ⟨some 10, some (9, false), .mov (.t 0)⟩, ⟨some 11, some (9, false), .nilck (.t 10)⟩, ⟨some 12, some (9, false), .faddr 0 (.t 11)⟩, ⟨some 13, some (9, false), .load none (.t 12)⟩, ⟨some 14, some (9, false), .un .not (.t 13)⟩, ⟨some 15, none, .pick (.t 9) (.c (.bool true)) (.t 14)⟩, ⟨some 6, none, .mov (.t 15)⟩] none)
 (.cond (.t 6) (.seq (.reg [⟨some 4, none, .mov (.c (.sc (.pointer none)))⟩, ⟨some 5, none, .mov (.c (.int .i64 1))⟩] none)
 .ret) (.seq (.reg [⟨some 17, none, .mov (.t 1)⟩, ⟨some 18, none, .bin .lss (.t 17) (.c (.int .i64 1))⟩, ⟨some 19, none, .mov (.t 18)⟩, ⟨some 20, some (19, false), .mov (.t 1)⟩, ⟨some 21, some (19, false), .bin .gtr (.t 20) (.c (.int .i64 8))⟩, ⟨some 22, none, .pick (.t 19) (.c (.bool true)) (.t 21)⟩, ⟨some 23, none, .mov (.t 22)⟩, ⟨some 24, some (23, false), .mov (.t 0)⟩, ⟨some 25, some (23, false), .mov (.t 1)⟩, ⟨some 26, some (23, false), .bin .sub (.t 25) (.c (.int .i64 1))⟩, ⟨some 27, some (23, false), .nilck (.t 24)⟩, ⟨some 28, some (23, false), .faddr 1 (.t 27)⟩, ⟨some 29, some (23, false), .raw (.paddr 1 8) [(.t 28), (.t 26)]⟩, ⟨some 30, some (23, false), .load none (.t 29)⟩, ⟨some 31, some (23, false), .eqP false (.t 30) (.c (.sc (.pointer none)))⟩, ⟨some 32, none, .pick (.t 23) (.c (.bool true)) (.t 31)⟩, ⟨some 16, none, .mov (.t 32)⟩] none)
 (.cond (.t 16) (.seq (.reg [⟨some 4, none, .mov (.c (.sc (.pointer none)))⟩, ⟨some 5, none, .mov (.c (.int .i64 7))⟩] none)
 .ret) .skip)))))
 (.seq (.reg [⟨some 33, none, .mov (.t 0)⟩, ⟨some 34, none, .mov (.t 1)⟩, ⟨some 35, none, .bin .sub (.t 34) (.c (.int .i64 1))⟩, ⟨some 36, none, .nilck (.t 33)⟩, ⟨some 37, none, .faddr 1 (.t 36)⟩, ⟨some 38, none, .raw (.paddr 1 8) [(.t 37), (.t 35)]⟩, ⟨some 39, none, .load none (.t 38)⟩, ⟨some 4, none, .mov (.t 39)⟩, ⟨some 5, none, .mov (.c (.int .i64 0))⟩] none)
 .ret)))
theorem f40 : FnIs Tryz.prog 40 40 c40 [.tmp 4, .tmp 5] := ⟨_, Tryz.func40, rfl, by kernel_rfl, rfl⟩
def c41 : AC := (.seq (.reg [⟨some 4, none, .mov (.c (.int .i64 0))⟩, ⟨some 5, none, .mov (.c (.int .i64 0))⟩] none)
 (.seq (.block 0 (.seq (.reg [⟨some 9, none, .mov (.t 0)⟩, ⟨some 10, none, .eqP false (.t 9) (.c (.sc (.pointer none)))⟩, ⟨some 11, none, .mov (.t 10)⟩, ⟨some 12, some (11, false), .mov (.t 0)⟩, ⟨some 13, some (11, false), .nilck (.t 12)⟩, ⟨some 14, some (11, false), .faddr 0 (.t 13)⟩, ⟨some 15, some (11, false), .load none (.t 14)⟩, ⟨some 16, some (11, false), .un .not (.t 15)⟩, ⟨some 17, none, .pick (.t 11) (.c (.bool true)) (.t 16)⟩, ⟨some 8, none, .mov (.t 17)⟩] none)
 (.cond (.t 8) (.seq (.reg [⟨some 4, none, .mov (.c (.int .i64 0))⟩, ⟨some 5, none, .mov (.c (.int .i64 1))⟩] none)
 .ret) (.seq (.reg [⟨some 19, none, .mov (.t 1)⟩, ⟨some 20, none, .eqP false (.t 19) (.c (.sc (.pointer none)))⟩, ⟨some 18, none, .mov (.t 20)⟩] none)
 (.cond (.t 18) (.seq (.reg [⟨some 4, none, .mov (.c (.int .i64 0))⟩, ⟨some 5, none, .mov (.c (.int .i64 2))⟩] none)
 .ret) .skip)))))
 (.seq (.seq (.reg [⟨some 21, none, .mov (.t 0)⟩, ⟨some 22, none, .nilck (.t 21)⟩, ⟨some 23, none, .faddr 1 (.t 22)⟩, ⟨some 24, none, .load (some 8) (.t 23)⟩, ⟨some 25, none, .mov (.c (.int .i64 0))⟩] none)
 (.block 1 (.loop (.seq (.reg [⟨some 26, none, .bin .lss (.t 25) (.c (.int .i64 8))⟩] none)
 (.seq (.cond (.t 26) .skip (.exit 1))
 (.seq (.block 2 (.seq (.reg [⟨some 27, none, .mov (.t 25)⟩, ⟨some 28, none, .raw (.aidx 1 none 8) [(.t 24), (.t 25)]⟩, ⟨some 6, none, .mov (.t 27)⟩, ⟨some 7, none, .mov (.t 28)⟩] none)
 (.seq (.reg [⟨some 29, none, .mov (.t 7)⟩, ⟨some 30, none, .eqP false (.t 29) (.c (.sc (.pointer none)))⟩] none)
 (.cond (.t 30) (.seq (.reg [⟨some 31, none, .mov (.t 0)⟩, ⟨some 32, none, .mov (.t 6)⟩, ⟨some 33, none, .mov (.t 1)⟩, ⟨some 34, none, .nilck (.t 31)⟩, ⟨some 35, none, .faddr 1 (.t 34)⟩, ⟨some 36, none, .raw (.paddr 1 8) [(.t 35), (.t 32)]⟩, ⟨none, none, .store 1 (.t 36) (.t 33)⟩] none)
 (.seq (.reg [⟨some 37, none, .mov (.t 6)⟩, ⟨some 38, none, .bin .add (.t 37) (.c (.int .i64 1))⟩, ⟨some 4, none, .mov (.t 38)⟩, ⟨some 5, none, .mov (.c (.int .i64 0))⟩] none)
 .ret)) .skip))))
 (.reg [⟨some 39, none, .bin .add (.t 25) (.c (.int .i64 1))⟩, ⟨some 25, none, .mov (.t 39)⟩] none)))))))
 (.seq (.reg [⟨some 4, none, .mov (.c (.int .i64 0))⟩, ⟨some 5, none, .mov (.c (.int .i64 9))⟩] none)
 .ret))))
theorem f41 : FnIs Tryz.prog 41 40 c41 [.tmp 4, .tmp 5] := ⟨_, Tryz.func41, rfl, by kernel_rfl, rfl⟩
def c42 : AC := (.seq (.reg [⟨some 0, none, .mov (.c (.sc (.pointer none)))⟩, ⟨some 1, none, .mov (.c (.sc (.pointer none)))⟩] none)
 (.seq (.reg [⟨some 5, none, .call 11 []⟩, ⟨some 2, none, .mov (.t 5)⟩] none)
 (.seq (.reg [⟨some 7, none, .mov (.t 2)⟩, ⟨some 8, none, .call 10 [(.t 7), (.c (.int .i64 0))]⟩, ⟨some 6, none, .mov (.t 8)⟩, ⟨some 9, none, .ext (.t 6) 0⟩, ⟨some 10, none, .ext (.t 6) 1⟩, ⟨some 3, none, .mov (.t 9)⟩, ⟨some 4, none, .mov (.t 10)⟩] none)
 (.seq (.seq (.reg [⟨some 11, none, .mov (.t 4)⟩, ⟨some 12, none, .bin .neq (.t 11) (.c (.int .i64 0))⟩] none)
 (.cond (.t 12) (.seq (.reg [⟨some 0, none, .mov (.c (.sc (.pointer none)))⟩, ⟨some 1, none, .mov (.c (.sc (.pointer none)))⟩] none)
 .ret) .skip))
 (.seq (.reg [⟨some 13, none, .mov (.t 3)⟩, ⟨some 14, none, .mov (.t 2)⟩, ⟨some 0, none, .mov (.t 13)⟩, ⟨some 1, none, .mov (.t 14)⟩] none)
 .ret)))))
theorem f42 : FnIs Tryz.prog 42 15 c42 [.tmp 0, .tmp 1] := ⟨_, Tryz.func42, rfl, by kernel_rfl, rfl⟩
def c43 : AC := (.seq (.reg [⟨some 4, none, .mov (.c (.bool false))⟩] none)
 (.seq (.seq (.reg [⟨some 6, none, .mov (.t 0)⟩, ⟨some 7, none, .len false (.t 6)⟩, ⟨some 8, none, .mov (.t 1)⟩, ⟨some 9, none, .len false (.t 8)⟩, ⟨some 10, none, .bin .neq (.t 7) (.t 9)⟩] none)
 (.cond (.t 10) (.seq (.reg [⟨some 4, none, .mov (.c (.bool false))⟩] none)
 .ret) .skip))
 (.seq (.seq (.reg [⟨some 5, none, .mov (.c (.int .i64 0))⟩] none)
 (.block 0 (.loop (.seq (.seq (.reg [⟨some 11, none, .mov (.t 5)⟩, ⟨some 12, none, .mov (.t 0)⟩, ⟨some 13, none, .len false (.t 12)⟩, ⟨some 14, none, .bin .lss (.t 11) (.t 13)⟩] none)
 (.cond (.t 14) .skip (.exit 0)))
 (.seq (.block 1 (.seq (.reg [⟨some 17, none, .mov (.t 0)⟩, ⟨some 18, none, .mov (.t 5)⟩, ⟨some 19, none, .iaddr 1 (.t 17) (.t 18)⟩, ⟨some 20, none, .load none (.t 19)⟩, ⟨some 21, none, .mov (.t 1)⟩, ⟨some 22, none, .mov (.t 5)⟩, ⟨some 23, none, .iaddr 1 (.t 21) (.t 22)⟩, ⟨some 24, none, .load none (.t 23)⟩, ⟨some 25, none, .bin .neq (.t 20) (.t 24)⟩] (some [(3, 7)]))
 (.cond (.t 25) (.seq (.reg [⟨some 4, none, .mov (.c (.bool false))⟩] none)
 .ret) .skip)))
 (.reg [⟨some 15, none, .mov (.t 5)⟩, ⟨some 16, none, .bin .add (.t 15) (.c (.int .i64 1))⟩, ⟨some 5, none, .mov (.t 16)⟩] none))))))
 (.seq (.reg [⟨some 4, none, .mov (.c (.bool true))⟩] none)
 .ret))))
theorem f43 : FnIs Tryz.prog 43 26 c43 [.tmp 4] := ⟨_, Tryz.func43, rfl, by kernel_rfl, rfl⟩
def c44 : AC := (.seq (.reg [⟨some 2, none, .mov (.c (.sl 1 [] (.exact 0)))⟩] none)
 (.seq (.seq (.reg [⟨some 6, none, .mov (.t 0)⟩, ⟨some 7, none, .eqP false (.t 6) (.c (.sc (.pointer none)))⟩] none)
 (.cond (.t 7) (.seq (.reg [⟨some 2, none, .mov (.c (.sl 1 [] (.exact 0)))⟩] none)
 .ret) .skip))
 (.seq (.reg [⟨some 3, none, .mov (.c (.sl 1 [] (.exact 0)))⟩] none)
 (.seq (.seq (.reg [⟨some 8, none, .mov (.t 0)⟩, ⟨some 9, none, .nilck (.t 8)⟩, ⟨some 10, none, .faddr 1 (.t 9)⟩, ⟨some 11, none, .load (some 8) (.t 10)⟩, ⟨some 12, none, .mov (.c (.int .i64 0))⟩] none)
 (.block 0 (.loop (.seq (.reg [⟨some 13, none, .bin .lss (.t 12) (.c (.int .i64 8))⟩] none)
 (.seq (.cond (.t 13) .skip (.exit 0))
 (.seq (.block 1 (.seq (.reg [⟨some 14, none, .mov (.t 12)⟩, ⟨some 15, none, .raw (.aidx 1 none 8) [(.t 11), (.t 12)]⟩, ⟨some 4, none, .mov (.t 14)⟩, ⟨some 5, none, .mov (.t 15)⟩] none)
 (.seq (.reg [⟨some 16, none, .mov (.t 5)⟩, ⟨some 17, none, .eqP true (.t 16) (.c (.sc (.pointer none)))⟩] none)
 (.cond (.t 17) (.reg [⟨some 18, none, .mov (.t 3)⟩, ⟨some 19, none, .mov (.t 4)⟩, ⟨some 20, none, .bin .add (.t 19) (.c (.int .i64 1))⟩, ⟨some 21, none, .buildSl 1 [(.t 20)]⟩, ⟨some 22, none, .app false 1 8 (.t 18) (.t 21)⟩, ⟨some 3, none, .mov (.t 22)⟩] none) .skip))))
 (.reg [⟨some 23, none, .bin .add (.t 12) (.c (.int .i64 1))⟩, ⟨some 12, none, .mov (.t 23)⟩] none)))))))
 (.seq (.reg [⟨some 24, none, .mov (.t 3)⟩, ⟨some 2, none, .mov (.t 24)⟩] none)
 .ret)))))
theorem f44 : FnIs Tryz.prog 44 25 c44 [.tmp 2] := ⟨_, Tryz.func44, rfl, by kernel_rfl, rfl⟩
def c46 : AC := (.seq (.reg [⟨some 2, none, .box (.t 0)⟩, ⟨some 3, none, .box (.t 1)⟩, ⟨some 4, none, .alloc [.int .i64 0, .int .i64 0, .int .i64 0, .str [], .int .i64 0, .int .i64 0, .str [], .int .i64 0, .int .i64 0, .int .i64 0, .bool false, .bool false, .str [], .sl 1 [] (.exact 0), .sl 1 [] (.exact 0), .sl 1 [] (.exact 0), .str [], .bool false, .sl 8 [] (.exact 0), .str [], .int .i64 0, .bool false, .sl 2 [] (.exact 0), .sl 6 [] (.exact 0)]⟩] none)
 (.seq (.reg [⟨some 5, none, .alloc [.int .i64 0, .int .i64 0, .int .i64 0, .str [], .int .i64 0, .int .i64 0, .str [], .int .i64 0, .int .i64 0, .int .i64 0, .bool false, .bool false, .str [], .sl 1 [] (.exact 0), .sl 1 [] (.exact 0), .sl 1 [] (.exact 0), .str [], .bool false, .sl 8 [] (.exact 0), .str [], .int .i64 0, .bool false, .sl 2 [] (.exact 0), .sl 6 [] (.exact 0)]⟩] none)
 (.seq (.seq (.reg [⟨some 6, none, .faddr 0 (.t 3)⟩, ⟨some 7, none, .load none (.t 6)⟩, ⟨some 8, none, .call 33 [(.t 7)]⟩, ⟨some 9, none, .un .not (.t 8)⟩] none)
 (.cond (.t 9) (.reg [⟨some 10, none, .faddr 0 (.t 5)⟩, ⟨none, none, .store 1 (.t 10) (.c (.int .i64 2))⟩] none) (.reg [⟨some 11, none, .load none (.t 2)⟩, ⟨some 12, none, .load (some 14) (.t 3)⟩, ⟨some 13, none, .mkfn (.func 99) [] [(.t 2), (.t 3)]⟩, ⟨some 14, none, .call 98 [(.t 11), (.t 12), (.t 13)]⟩, ⟨none, none, .store 24 (.t 5) (.t 14)⟩] none)))
 (.seq (.seq (.reg [⟨some 15, none, .faddr 0 (.t 5)⟩, ⟨some 16, none, .load none (.t 15)⟩, ⟨some 17, none, .bin .neq (.t 16) (.c (.int .i64 0))⟩] none)
 (.cond (.t 17) (.seq (.reg [⟨some 18, none, .faddr 0 (.t 5)⟩, ⟨some 19, none, .load none (.t 18)⟩, ⟨some 20, none, .build [.int .i64 0, .int .i64 0, .int .i64 0, .str [], .int .i64 0, .int .i64 0, .str [], .int .i64 0, .int .i64 0, .int .i64 0, .bool false, .bool false, .str [], .sl 1 [] (.exact 0), .sl 1 [] (.exact 0), .sl 1 [] (.exact 0), .str [], .bool false, .sl 8 [] (.exact 0), .str [], .int .i64 0, .bool false, .sl 2 [] (.exact 0), .sl 6 [] (.exact 0)] [(0, 1, (.t 19))]⟩, ⟨none, none, .store 24 (.t 4) (.t 20)⟩] none)
 .ret) .skip))
 (.seq (.reg [⟨some 21, none, .load (some 24) (.t 5)⟩, ⟨none, none, .store 24 (.t 4) (.t 21)⟩] none)
 .ret)))))
theorem f46 : FnIs Tryz.prog 46 22 c46 [.cell 4 (some 24)] := ⟨_, Tryz.func46, rfl, by kernel_rfl, rfl⟩
def c47 : AC := (.seq (.reg [⟨some 2, none, .box (.t 0)⟩, ⟨some 3, none, .box (.t 1)⟩, ⟨some 4, none, .mov (.c (.bool false))⟩] none)
 (.seq (.reg [⟨some 5, none, .faddr 0 (.t 2)⟩, ⟨some 6, none, .load none (.t 5)⟩, ⟨some 7, none, .faddr 0 (.t 3)⟩, ⟨some 8, none, .load none (.t 7)⟩, ⟨some 9, none, .bin .eql (.t 6) (.t 8)⟩, ⟨some 10, none, .mov (.t 9)⟩, ⟨some 11, some (10, true), .faddr 1 (.t 2)⟩, ⟨some 12, some (10, true), .load none (.t 11)⟩, ⟨some 13, some (10, true), .faddr 1 (.t 3)⟩, ⟨some 14, some (10, true), .load none (.t 13)⟩, ⟨some 15, some (10, true), .bin .eql (.t 12) (.t 14)⟩, ⟨some 16, none, .pick (.t 10) (.t 15) (.c (.bool false))⟩, ⟨some 17, none, .mov (.t 16)⟩, ⟨some 18, some (17, true), .faddr 2 (.t 2)⟩, ⟨some 19, some (17, true), .load none (.t 18)⟩, ⟨some 20, some (17, true), .faddr 2 (.t 3)⟩, ⟨some 21, some (17, true), .load none (.t 20)⟩, ⟨some 22, some (17, true), .bin .eql (.t 19) (.t 21)⟩, ⟨some 23, none, .pick (.t 17) (.t 22) (.c (.bool false))⟩, ⟨some 24, none, .mov (.t 23)⟩, ⟨some 25, some (24, true), .faddr 3 (.t 2)⟩, ⟨some 26, some (24, true), .load none (.t 25)⟩, ⟨some 27, some (24, true), .faddr 3 (.t 3)⟩, ⟨some 28, some (24, true), .load none (.t 27)⟩, ⟨some 29, some (24, true), .bin .eql (.t 26) (.t 28)⟩, ⟨some 30, none, .pick (.t 24) (.t 29) (.c (.bool false))⟩, ⟨some 31, none, .mov (.t 30)⟩, ⟨some 32, some (31, true), .faddr 4 (.t 2)⟩, ⟨some 33, some (31, true), .load (some 2) (.t 32)⟩, ⟨some 34, some (31, true), .faddr 4 (.t 3)⟩, ⟨some 35, some (31, true), .load (some 2) (.t 34)⟩, ⟨some 36, some (31, true), .eqA false [.int, .int] (.t 33) (.t 35)⟩, ⟨some 37, none, .pick (.t 31) (.t 36) (.c (.bool false))⟩, ⟨some 38, none, .mov (.t 37)⟩, ⟨some 39, some (38, true), .faddr 6 (.t 2)⟩, ⟨some 40, some (38, true), .load (some 7) (.t 39)⟩, ⟨some 41, some (38, true), .faddr 6 (.t 3)⟩, ⟨some 42, some (38, true), .load (some 7) (.t 41)⟩, ⟨some 43, some (38, true), .eqA false [.str, .int, .int, .int, .bool, .bool, .str] (.t 40) (.t 42)⟩, ⟨some 44, none, .pick (.t 38) (.t 43) (.c (.bool false))⟩, ⟨some 45, none, .mov (.t 44)⟩, ⟨some 46, some (45, true), .faddr 13 (.t 2)⟩, ⟨some 47, some (45, true), .load none (.t 46)⟩, ⟨some 48, some (45, true), .faddr 13 (.t 3)⟩, ⟨some 49, some (45, true), .load none (.t 48)⟩, ⟨some 50, some (45, true), .call 103 [(.t 47), (.t 49)]⟩, ⟨some 51, none, .pick (.t 45) (.t 50) (.c (.bool false))⟩, ⟨some 52, none, .mov (.t 51)⟩, ⟨some 53, some (52, true), .faddr 14 (.t 2)⟩, ⟨some 54, some (52, true), .load (some 4) (.t 53)⟩, ⟨some 55, some (52, true), .faddr 14 (.t 3)⟩, ⟨some 56, some (52, true), .load (some 4) (.t 55)⟩, ⟨some 57, some (52, true), .call 104 [(.t 54), (.t 56)]⟩, ⟨some 58, none, .pick (.t 52) (.t 57) (.c (.bool false))⟩, ⟨some 59, none, .mov (.t 58)⟩, ⟨some 60, some (59, true), .faddr 18 (.t 2)⟩, ⟨some 61, some (59, true), .load (some 4) (.t 60)⟩, ⟨some 62, some (59, true), .faddr 18 (.t 3)⟩, ⟨some 63, some (59, true), .load (some 4) (.t 62)⟩, ⟨some 64, some (59, true), .call 105 [(.t 61), (.t 63)]⟩, ⟨some 65, none, .pick (.t 59) (.t 64) (.c (.bool false))⟩, ⟨some 66, none, .mov (.t 65)⟩, ⟨some 67, some (66, true), .faddr 22 (.t 2)⟩, ⟨some 68, some (66, true), .load none (.t 67)⟩, ⟨some 69, some (66, true), .faddr 22 (.t 3)⟩, ⟨some 70, some (66, true), .load none (.t 69)⟩, ⟨some 71, some (66, true), .call 106 [(.t 68), (.t 70)]⟩, ⟨some 72, none, .pick (.t 66) (.t 71) (.c (.bool false))⟩, ⟨some 73, none, .mov (.t 72)⟩, ⟨some 74, some (73, true), .faddr 23 (.t 2)⟩, ⟨some 75, some (73, true), .load none (.t 74)⟩, ⟨some 76, some (73, true), .faddr 23 (.t 3)⟩, ⟨some 77, some (73, true), .load none (.t 76)⟩, ⟨some 78, some (73, true), .call 107 [(.t 75), (.t 77)]⟩, ⟨some 79, none, .pick (.t 73) (.t 78) (.c (.bool false))⟩, ⟨some 4, none, .mov (.t 79)⟩] none)
 .ret))
theorem f47 : FnIs Tryz.prog 47 80 c47 [.tmp 4] := ⟨_, Tryz.func47, rfl, by kernel_rfl, rfl⟩
def c49 : AC := (.seq (.reg [⟨some 2, none, .alloc [.int .i64 0, .int .i64 0]⟩] none)
 (.seq (.reg [⟨some 3, none, .mov (.c (.sc (.complex .f64 0 0)))⟩] none)
 (.seq (.seq (.reg [⟨some 6, none, .mov (.t 0)⟩, ⟨some 7, none, .len false (.t 6)⟩, ⟨some 8, none, .mov (.c (.int .i64 0))⟩] none)
 (.block 0 (.loop (.seq (.reg [⟨some 9, none, .bin .lss (.t 8) (.t 7)⟩] none)
 (.seq (.cond (.t 9) .skip (.exit 0))
 (.seq (.block 1 (.seq (.reg [⟨some 10, none, .iaddr 1 (.t 6) (.t 8)⟩, ⟨some 11, none, .load none (.t 10)⟩, ⟨some 5, none, .mov (.t 11)⟩] none)
 (.seq (.reg [⟨some 12, none, .mov (.t 3)⟩, ⟨some 13, none, .call 108 [(.t 12), (.c (.sc (.complex .f64 4613937818241073152 4611686018427387904)))]⟩, ⟨some 3, none, .mov (.t 13)⟩] none)
 (.reg [⟨some 14, none, .mov (.t 3)⟩, ⟨some 15, none, .mov (.t 5)⟩, ⟨some 16, none, .raw (.i2f .f64) [(.t 15)]⟩, ⟨some 17, none, .bin .add (.t 16) (.c (.sc (.float .f64 4607182418800017408)))⟩, ⟨some 18, none, .mov (.t 5)⟩, ⟨some 19, none, .raw (.i2f .f64) [(.t 18)]⟩, ⟨some 20, none, .bin .sub (.c (.sc (.float .f64 4643211215818981376))) (.t 19)⟩, ⟨some 21, none, .raw .cplx [(.t 17), (.t 20)]⟩, ⟨some 22, none, .bin .add (.t 14) (.t 21)⟩, ⟨some 23, none, .call 109 [(.t 22)]⟩, ⟨some 3, none, .mov (.t 23)⟩] none))))
 (.reg [⟨some 24, none, .bin .add (.t 8) (.c (.int .i64 1))⟩, ⟨some 8, none, .mov (.t 24)⟩] none)))))))
 (.seq (.reg [⟨some 25, none, .mov (.t 3)⟩, ⟨some 26, none, .call 110 [(.t 25)]⟩, ⟨none, none, .store 2 (.t 2) (.t 26)⟩] none)
 .ret))))
theorem f49 : FnIs Tryz.prog 49 27 c49 [.cell 2 (some 2)] := ⟨_, Tryz.func49, rfl, by kernel_rfl, rfl⟩
def c50 : AC := (.seq (.reg [⟨some 6, none, .mov (.c (.str []))⟩, ⟨some 7, none, .mov (.c (.int .i64 0))⟩] none)
 (.seq (.seq (.reg [⟨some 11, none, .mov (.t 0)⟩, ⟨some 12, none, .mov (.t 2)⟩, ⟨some 13, none, .call 111 [(.t 11), (.t 12)]⟩, ⟨some 8, none, .mov (.t 13)⟩] none)
 (.seq (.reg [⟨some 14, none, .mov (.t 8)⟩, ⟨some 15, none, .bin .neq (.t 14) (.c (.int .i64 0))⟩] none)
 (.cond (.t 15) (.seq (.reg [⟨some 16, none, .mov (.t 8)⟩, ⟨some 6, none, .mov (.c (.str []))⟩, ⟨some 7, none, .mov (.t 16)⟩] none)
 .ret) .skip)))
 (.seq (.reg [⟨some 18, none, .mov (.t 0)⟩, ⟨some 19, none, .nilck (.t 18)⟩, ⟨some 20, none, .faddr 1 (.t 19)⟩, ⟨some 21, none, .load none (.t 20)⟩, ⟨some 22, none, .mov (.t 1)⟩, ⟨some 23, none, .mlook (.sl 3 [] (.exact 0)) false (.t 21) (.t 22)⟩, ⟨some 24, none, .mov (.t 2)⟩, ⟨some 25, none, .call 112 [(.t 23), (.t 24)]⟩, ⟨some 17, none, .mov (.t 25)⟩, ⟨some 26, none, .ext (.t 17) 0⟩, ⟨some 27, none, .ext (.t 17) 1⟩, ⟨some 9, none, .mov (.t 26)⟩, ⟨some 10, none, .mov (.t 27)⟩] none)
 (.seq (.seq (.reg [⟨some 28, none, .mov (.t 10)⟩, ⟨some 29, none, .un .not (.t 28)⟩] none)
 (.cond (.t 29) (.seq (.reg [⟨some 6, none, .mov (.c (.str []))⟩, ⟨some 7, none, .mov (.c (.int .i64 7))⟩] none)
 .ret) .skip))
 (.seq (.reg [⟨some 30, none, .mov (.t 9)⟩, ⟨some 6, none, .mov (.t 30)⟩, ⟨some 7, none, .mov (.c (.int .i64 0))⟩] none)
 .ret)))))
theorem f50 : FnIs Tryz.prog 50 31 c50 [.tmp 6, .tmp 7] := ⟨_, Tryz.func50, rfl, by kernel_rfl, rfl⟩
def c51 : AC := (.seq (.reg [⟨some 2, none, .mov (.c (.int .i64 0))⟩] none)
 (.seq (.block 0 (.seq (.reg [⟨some 4, none, .mov (.t 0)⟩, ⟨some 5, none, .call 113 [(.t 4)]⟩, ⟨some 6, none, .un .not (.t 5)⟩, ⟨some 3, none, .mov (.t 6)⟩] none)
 (.cond (.t 3) (.seq (.reg [⟨some 2, none, .mov (.c (.int .i64 1))⟩] none)
 .ret) (.seq (.reg [⟨some 8, none, .mov (.t 0)⟩, ⟨some 9, none, .nilck (.t 8)⟩, ⟨some 10, none, .faddr 6 (.t 9)⟩, ⟨some 11, none, .load none (.t 10)⟩, ⟨some 7, none, .mov (.t 11)⟩] none)
 (.cond (.t 7) (.seq (.reg [⟨some 2, none, .mov (.c (.int .i64 17))⟩] none)
 .ret) .skip)))))
 (.seq (.reg [⟨some 2, none, .mov (.c (.int .i64 0))⟩] none)
 .ret)))
theorem f51 : FnIs Tryz.prog 51 12 c51 [.tmp 2] := ⟨_, Tryz.func51, rfl, by kernel_rfl, rfl⟩
def c52 : AC := (.seq (.reg [⟨some 1, none, .box (.t 0)⟩, ⟨some 2, none, .alloc [.str [], .str []]⟩, ⟨some 3, none, .mov (.c (.int .i64 0))⟩] none)
 (.seq (.seq (.reg [⟨some 5, none, .load (some 4) (.t 1)⟩, ⟨some 6, none, .call 114 [(.t 5)]⟩, ⟨some 7, none, .un .not (.t 6)⟩, ⟨some 8, none, .mov (.t 7)⟩, ⟨some 9, some (8, false), .faddr 1 (.t 1)⟩, ⟨some 10, some (8, false), .load none (.t 9)⟩, ⟨some 11, some (8, false), .bin .eql (.t 10) (.c (.str []))⟩, ⟨some 12, some (8, false), .mov (.t 11)⟩, ⟨some 13, some (12, true), .faddr 2 (.t 1)⟩, ⟨some 14, some (12, true), .load none (.t 13)⟩, ⟨some 15, some (12, true), .bin .neq (.t 14) (.c (.str []))⟩, ⟨some 16, some (8, false), .pick (.t 12) (.t 15) (.c (.bool false))⟩, ⟨some 17, none, .pick (.t 8) (.c (.bool true)) (.t 16)⟩, ⟨some 18, none, .mov (.t 17)⟩, ⟨some 19, some (18, false), .faddr 2 (.t 1)⟩, ⟨some 20, some (18, false), .load none (.t 19)⟩, ⟨some 21, some (18, false), .bin .eql (.t 20) (.c (.str []))⟩, ⟨some 22, some (18, false), .mov (.t 21)⟩, ⟨some 23, some (22, true), .faddr 3 (.t 1)⟩, ⟨some 24, some (22, true), .load none (.t 23)⟩, ⟨some 25, some (22, true), .len false (.t 24)⟩, ⟨some 26, some (22, true), .bin .gtr (.t 25) (.c (.int .i64 0))⟩, ⟨some 27, some (18, false), .pick (.t 22) (.t 26) (.c (.bool false))⟩, ⟨some 28, none, .pick (.t 18) (.c (.bool true)) (.t 27)⟩] none)
 (.cond (.t 28) (.seq (.reg [⟨some 29, none, .build [.str [], .str []] []⟩, ⟨none, none, .store 2 (.t 2) (.t 29)⟩, ⟨some 3, none, .mov (.c (.int .i64 2))⟩] none)
 .ret) .skip))
 (.seq (.seq (.reg [⟨some 30, none, .faddr 1 (.t 1)⟩, ⟨some 31, none, .load none (.t 30)⟩, ⟨some 32, none, .bin .neq (.t 31) (.c (.str []))⟩, ⟨some 33, none, .mov (.t 32)⟩, ⟨some 34, some (33, true), .faddr 1 (.t 1)⟩, ⟨some 35, some (33, true), .load none (.t 34)⟩, ⟨some 36, some (33, true), .call 57 [(.t 35)]⟩, ⟨some 37, some (33, true), .bin .neq (.t 36) (.c (.int .i64 0))⟩, ⟨some 38, none, .pick (.t 33) (.t 37) (.c (.bool false))⟩, ⟨some 39, none, .mov (.t 38)⟩, ⟨some 40, some (39, false), .faddr 2 (.t 1)⟩, ⟨some 41, some (39, false), .load none (.t 40)⟩, ⟨some 42, some (39, false), .bin .neq (.t 41) (.c (.str []))⟩, ⟨some 43, some (39, false), .mov (.t 42)⟩, ⟨some 44, some (43, true), .faddr 2 (.t 1)⟩, ⟨some 45, some (43, true), .load none (.t 44)⟩, ⟨some 46, some (43, true), .call 59 [(.t 45)]⟩, ⟨some 47, some (43, true), .bin .neq (.t 46) (.c (.int .i64 0))⟩, ⟨some 48, some (39, false), .pick (.t 43) (.t 47) (.c (.bool false))⟩, ⟨some 49, none, .pick (.t 39) (.c (.bool true)) (.t 48)⟩] none)
 (.cond (.t 49) (.seq (.reg [⟨some 50, none, .build [.str [], .str []] []⟩, ⟨none, none, .store 2 (.t 2) (.t 50)⟩, ⟨some 3, none, .mov (.c (.int .i64 15))⟩] none)
 .ret) .skip))
 (.seq (.reg [⟨some 51, none, .load (some 4) (.t 1)⟩, ⟨some 52, none, .faddr 1 (.t 1)⟩, ⟨some 53, none, .load none (.t 52)⟩, ⟨some 54, none, .faddr 2 (.t 1)⟩, ⟨some 55, none, .load none (.t 54)⟩, ⟨some 56, none, .buildSl 1 [(.t 53), (.t 55)]⟩, ⟨some 57, none, .call 115 [(.t 51), (.t 56)]⟩, ⟨some 4, none, .mov (.t 57)⟩] none)
 (.seq (.reg [⟨some 58, none, .mov (.t 4)⟩, ⟨some 59, none, .mov (.t 4)⟩, ⟨some 60, none, .call 116 [(.t 59)]⟩, ⟨some 61, none, .build [.str [], .str []] [(0, 1, (.t 58)), (1, 1, (.t 60))]⟩, ⟨none, none, .store 2 (.t 2) (.t 61)⟩, ⟨some 3, none, .mov (.c (.int .i64 0))⟩] none)
 .ret)))))
theorem f52 : FnIs Tryz.prog 52 62 c52 [.cell 2 (some 2), .tmp 3] := ⟨_, Tryz.func52, rfl, by kernel_rfl, rfl⟩
def c53 : AC := (.seq (.reg [⟨some 4, none, .box (.t 0)⟩, ⟨some 5, none, .box (.t 1)⟩, ⟨some 6, none, .box (.t 2)⟩, ⟨some 7, none, .box (.t 3)⟩, ⟨some 8, none, .mov (.c (.sl 2 [] (.exact 0)))⟩, ⟨some 9, none, .mov (.c (.int .i64 0))⟩] none)
 (.seq (.reg [⟨some 10, none, .load none (.t 4)⟩, ⟨some 11, none, .mkfn (.func 118) [] [(.t 4), (.t 5), (.t 6), (.t 7)]⟩, ⟨some 12, none, .call 117 [(.t 10), (.t 11)]⟩, ⟨some 13, none, .ext (.t 12) 0⟩, ⟨some 14, none, .ext (.t 12) 1⟩, ⟨some 8, none, .mov (.t 13)⟩, ⟨some 9, none, .mov (.t 14)⟩] none)
 .ret))
theorem f53 : FnIs Tryz.prog 53 15 c53 [.tmp 8, .tmp 9] := ⟨_, Tryz.func53, rfl, by kernel_rfl, rfl⟩
def c55 : AC := (.seq (.reg [⟨some 2, none, .mov (.c (.int .i64 0))⟩] none)
 (.seq (.seq (.reg [⟨some 5, none, .mov (.t 0)⟩, ⟨some 6, none, .len false (.t 5)⟩, ⟨some 7, none, .mov (.c (.int .i64 0))⟩] none)
 (.block 0 (.loop (.seq (.reg [⟨some 8, none, .bin .lss (.t 7) (.t 6)⟩] none)
 (.seq (.cond (.t 8) .skip (.exit 0))
 (.seq (.block 1 (.seq (.reg [⟨some 9, none, .iaddr 1 (.t 5) (.t 7)⟩, ⟨some 10, none, .load none (.t 9)⟩, ⟨some 4, none, .mov (.t 10)⟩] none)
 (.seq (.reg [⟨some 11, none, .mov (.t 4)⟩, ⟨some 12, none, .bin .neq (.t 11) (.c (.int .i64 0))⟩] none)
 (.cond (.t 12) (.seq (.reg [⟨some 13, none, .mov (.t 4)⟩, ⟨some 2, none, .mov (.t 13)⟩] none)
 .ret) .skip))))
 (.reg [⟨some 14, none, .bin .add (.t 7) (.c (.int .i64 1))⟩, ⟨some 7, none, .mov (.t 14)⟩] none)))))))
 (.seq (.reg [⟨some 2, none, .mov (.c (.int .i64 0))⟩] none)
 .ret)))
theorem f55 : FnIs Tryz.prog 55 15 c55 [.tmp 2] := ⟨_, Tryz.func55, rfl, by kernel_rfl, rfl⟩
def c56 : AC := (.seq (.reg [⟨some 2, none, .mov (.c (.int .i64 0))⟩] none)
 (.seq (.reg [⟨some 3, none, .mov (.t 0)⟩, ⟨some 4, none, .mov (.t 0)⟩, ⟨some 5, none, .call 83 [(.t 4)]⟩, ⟨some 6, none, .call 124 [(.t 3), (.t 5)]⟩, ⟨some 2, none, .mov (.t 6)⟩] none)
 .ret))
theorem f56 : FnIs Tryz.prog 56 7 c56 [.tmp 2] := ⟨_, Tryz.func56, rfl, by kernel_rfl, rfl⟩
def c57 : AC := (.seq (.reg [⟨some 2, none, .mov (.c (.int .i64 0))⟩] none)
 (.seq (.seq (.reg [⟨some 5, none, .mov (.t 0)⟩, ⟨some 6, none, .len true (.t 5)⟩, ⟨some 7, none, .bin .lss (.t 6) (.c (.int .i64 3))⟩, ⟨some 8, none, .mov (.t 7)⟩, ⟨some 9, some (8, false), .mov (.t 0)⟩, ⟨some 10, some (8, false), .len true (.t 9)⟩, ⟨some 11, some (8, false), .bin .gtr (.t 10) (.c (.int .i64 12))⟩, ⟨some 12, none, .pick (.t 8) (.c (.bool true)) (.t 11)⟩] none)
 (.cond (.t 12) (.seq (.reg [⟨some 2, none, .mov (.c (.int .i64 15))⟩] none)
 .ret) .skip))
 (.seq (.seq (.reg [⟨some 13, none, .mov (.t 0)⟩, ⟨some 14, none, .len true (.t 13)⟩, ⟨some 15, none, .mov (.c (.int .i64 0))⟩] none)
 (.block 0 (.loop (.seq (.reg [⟨some 16, none, .bin .lss (.t 15) (.t 14)⟩] none)
 (.seq (.cond (.t 16) .skip (.exit 0))
 (.seq (.block 1 (.seq (.reg [⟨some 17, none, .mov (.t 15)⟩, ⟨some 3, none, .mov (.t 17)⟩] none)
 (.seq (.reg [⟨some 18, none, .mov (.t 0)⟩, ⟨some 19, none, .mov (.t 3)⟩, ⟨some 20, none, .idx (.t 18) (.t 19)⟩, ⟨some 4, none, .mov (.t 20)⟩] none)
 (.block 2 (.seq (.block 4 (.seq (.block 3 (.seq (.seq (.seq (.reg [⟨some 22, none, .mov (.t 4)⟩, ⟨some 23, none, .bin .eql (.t 22) (.c (.int .u8 45))⟩, ⟨some 21, none, .mov (.t 23)⟩] none)
 (.cond (.t 21) (.exit 3) .skip))
 (.seq (.reg [⟨some 25, none, .mov (.t 4)⟩, ⟨some 26, none, .bin .lss (.t 25) (.c (.int .u8 48))⟩, ⟨some 27, none, .mov (.t 26)⟩, ⟨some 28, some (27, false), .mov (.t 4)⟩, ⟨some 29, some (27, false), .bin .gtr (.t 28) (.c (.int .u8 57))⟩, ⟨some 30, some (27, false), .mov (.t 29)⟩, ⟨some 31, some (30, true), .mov (.t 4)⟩, ⟨some 32, some (30, true), .bin .lss (.t 31) (.c (.int .u8 97))⟩, ⟨some 33, some (27, false), .pick (.t 30) (.t 32) (.c (.bool false))⟩, ⟨some 34, none, .pick (.t 27) (.c (.bool true)) (.t 33)⟩, ⟨some 35, none, .mov (.t 34)⟩, ⟨some 36, some (35, false), .mov (.t 4)⟩, ⟨some 37, some (35, false), .bin .gtr (.t 36) (.c (.int .u8 122))⟩, ⟨some 38, none, .pick (.t 35) (.c (.bool true)) (.t 37)⟩, ⟨some 24, none, .mov (.t 38)⟩] none)
 (.cond (.t 24) (.exit 4) .skip)))
 (.exit 2)))
 (.seq (.reg [⟨some 39, none, .mov (.t 3)⟩, ⟨some 40, none, .bin .gtr (.t 39) (.c (.int .i64 0))⟩, ⟨some 41, none, .mov (.t 40)⟩, ⟨some 42, some (41, true), .mov (.t 3)⟩, ⟨some 43, some (41, true), .mov (.t 0)⟩, ⟨some 44, some (41, true), .len true (.t 43)⟩, ⟨some 45, some (41, true), .bin .sub (.t 44) (.c (.int .i64 1))⟩, ⟨some 46, some (41, true), .bin .lss (.t 42) (.t 45)⟩, ⟨some 47, none, .pick (.t 41) (.t 46) (.c (.bool false))⟩] none)
 (.cond (.t 47) (.exit 1) .skip))))
 (.seq (.seq (.reg [⟨some 2, none, .mov (.c (.int .i64 15))⟩] none)
 .ret)
 (.exit 2)))))))
 (.reg [⟨some 48, none, .bin .add (.t 15) (.c (.int .i64 1))⟩, ⟨some 15, none, .mov (.t 48)⟩] none)))))))
 (.seq (.reg [⟨some 2, none, .mov (.c (.int .i64 0))⟩] none)
 .ret))))
theorem f57 : FnIs Tryz.prog 57 49 c57 [.tmp 2] := ⟨_, Tryz.func57, rfl, by kernel_rfl, rfl⟩
def c58 : AC := (.seq (.reg [⟨some 4, none, .mov (.c (.int .i64 0))⟩, ⟨some 5, none, .mov (.c (.int .i64 0))⟩] none)
 (.seq (.reg [⟨some 10, none, .mov (.t 1)⟩, ⟨some 11, none, .build [.int .i64 0, .str [], .str [], .sl 1 [] (.exact 0)] [(0, 1, (.c (.int .i64 1))), (1, 1, (.t 10))]⟩, ⟨some 12, none, .call 79 [(.t 11)]⟩, ⟨some 9, none, .mov (.t 12)⟩, ⟨some 13, none, .ext (.t 9) 0⟩, ⟨some 14, none, .ext (.t 9) 1⟩, ⟨some 6, none, .mov (.t 13)⟩, ⟨some 7, none, .mov (.t 14)⟩] none)
 (.seq (.seq (.reg [⟨some 15, none, .mov (.t 7)⟩, ⟨some 16, none, .bin .neq (.t 15) (.c (.int .i64 0))⟩] none)
 (.cond (.t 16) (.seq (.reg [⟨some 17, none, .mov (.t 7)⟩, ⟨some 4, none, .mov (.c (.int .i64 0))⟩, ⟨some 5, none, .mov (.t 17)⟩] none)
 .ret) .skip))
 (.seq (.reg [⟨some 19, none, .mov (.t 0)⟩, ⟨some 20, none, .mov (.t 6)⟩, ⟨some 21, none, .call 125 [(.t 19), (.t 20)]⟩, ⟨some 18, none, .mov (.t 21)⟩, ⟨some 22, none, .ext (.t 18) 0⟩, ⟨some 23, none, .ext (.t 18) 1⟩, ⟨some 8, none, .mov (.t 22)⟩, ⟨some 7, none, .mov (.t 23)⟩] none)
 (.seq (.seq (.reg [⟨some 24, none, .mov (.t 7)⟩, ⟨some 25, none, .bin .neq (.t 24) (.c (.int .i64 0))⟩] none)
 (.cond (.t 25) (.seq (.reg [⟨some 26, none, .mov (.t 7)⟩, ⟨some 4, none, .mov (.c (.int .i64 0))⟩, ⟨some 5, none, .mov (.t 26)⟩] none)
 .ret) .skip))
 (.seq (.reg [⟨some 27, none, .mov (.t 8)⟩, ⟨some 28, none, .call 126 [(.t 27)]⟩, ⟨some 29, none, .ext (.t 28) 0⟩, ⟨some 30, none, .ext (.t 28) 1⟩, ⟨some 4, none, .mov (.t 29)⟩, ⟨some 5, none, .mov (.t 30)⟩] none)
 .ret))))))
theorem f58 : FnIs Tryz.prog 58 31 c58 [.tmp 4, .tmp 5] := ⟨_, Tryz.func58, rfl, by kernel_rfl, rfl⟩
def c59 : AC := (.seq (.reg [⟨some 2, none, .mov (.c (.int .i64 0))⟩] none)
 (.seq (.seq (.reg [⟨some 5, none, .mov (.t 0)⟩, ⟨some 6, none, .bin .eql (.t 5) (.c (.str []))⟩, ⟨some 7, none, .mov (.t 6)⟩, ⟨some 8, some (7, false), .mov (.t 0)⟩, ⟨some 9, some (7, false), .len true (.t 8)⟩, ⟨some 10, some (7, false), .bin .gtr (.t 9) (.c (.int .i64 32))⟩, ⟨some 11, none, .pick (.t 7) (.c (.bool true)) (.t 10)⟩] none)
 (.cond (.t 11) (.seq (.reg [⟨some 2, none, .mov (.c (.int .i64 15))⟩] none)
 .ret) .skip))
 (.seq (.seq (.reg [⟨some 12, none, .mov (.t 0)⟩, ⟨some 13, none, .conv .s2b (.t 12)⟩, ⟨some 14, none, .len false (.t 13)⟩, ⟨some 15, none, .mov (.c (.int .i64 0))⟩] none)
 (.block 0 (.loop (.seq (.reg [⟨some 16, none, .bin .lss (.t 15) (.t 14)⟩] none)
 (.seq (.cond (.t 16) .skip (.exit 0))
 (.seq (.block 1 (.seq (.reg [⟨some 17, none, .iaddr 1 (.t 13) (.t 15)⟩, ⟨some 18, none, .load none (.t 17)⟩, ⟨some 4, none, .mov (.t 18)⟩] none)
 (.seq (.reg [⟨some 19, none, .mov (.t 4)⟩, ⟨some 20, none, .bin .lss (.t 19) (.c (.int .u8 33))⟩, ⟨some 21, none, .mov (.t 20)⟩, ⟨some 22, some (21, false), .mov (.t 4)⟩, ⟨some 23, some (21, false), .bin .gtr (.t 22) (.c (.int .u8 126))⟩, ⟨some 24, none, .pick (.t 21) (.c (.bool true)) (.t 23)⟩] none)
 (.cond (.t 24) (.seq (.reg [⟨some 2, none, .mov (.c (.int .i64 15))⟩] none)
 .ret) .skip))))
 (.reg [⟨some 25, none, .bin .add (.t 15) (.c (.int .i64 1))⟩, ⟨some 15, none, .mov (.t 25)⟩] none)))))))
 (.seq (.reg [⟨some 2, none, .mov (.c (.int .i64 0))⟩] none)
 .ret))))
theorem f59 : FnIs Tryz.prog 59 26 c59 [.tmp 2] := ⟨_, Tryz.func59, rfl, by kernel_rfl, rfl⟩
def c60 : AC := (.seq (.reg [⟨some 3, none, .box (.t 1)⟩, ⟨some 4, none, .mov (.c (.int .i64 0))⟩] none)
 (.seq (.block 0 (.seq (.reg [⟨some 6, none, .mov (.t 0)⟩, ⟨some 7, none, .len true (.t 6)⟩, ⟨some 8, none, .bin .gtr (.t 7) (.c (.int .i64 2560))⟩, ⟨some 5, none, .mov (.t 8)⟩] none)
 (.cond (.t 5) (.seq (.reg [⟨some 4, none, .mov (.c (.int .i64 5))⟩] none)
 .ret) (.seq (.reg [⟨some 10, none, .faddr 0 (.t 3)⟩, ⟨some 11, none, .load none (.t 10)⟩, ⟨some 12, none, .bin .lss (.t 11) (.c (.int .i64 0))⟩, ⟨some 13, none, .mov (.t 12)⟩, ⟨some 14, some (13, false), .faddr 0 (.t 3)⟩, ⟨some 15, some (13, false), .load none (.t 14)⟩, ⟨some 16, some (13, false), .bin .gtr (.t 15) (.c (.int .i64 2))⟩, ⟨some 17, none, .pick (.t 13) (.c (.bool true)) (.t 16)⟩, ⟨some 9, none, .mov (.t 17)⟩] none)
 (.cond (.t 9) (.seq (.reg [⟨some 4, none, .mov (.c (.int .i64 2))⟩] none)
 .ret) .skip)))))
 (.seq (.reg [⟨some 4, none, .mov (.c (.int .i64 0))⟩] none)
 .ret)))
theorem f60 : FnIs Tryz.prog 60 18 c60 [.tmp 4] := ⟨_, Tryz.func60, rfl, by kernel_rfl, rfl⟩
def c61 : AC := (.seq (.reg [⟨some 1, none, .box (.t 0)⟩, ⟨some 2, none, .mov (.c (.sl 6 [] (.exact 0)))⟩, ⟨some 3, none, .mov (.c (.int .i64 0))⟩] none)
 (.seq (.reg [⟨some 14, none, .faddr 1 (.t 1)⟩, ⟨some 15, none, .load none (.t 14)⟩, ⟨some 16, none, .faddr 2 (.t 1)⟩, ⟨some 17, none, .load none (.t 16)⟩, ⟨some 18, none, .build [.int .i64 0, .str [], .str [], .sl 1 [] (.exact 0)] [(0, 1, (.c (.int .i64 2))), (1, 1, (.t 15)), (2, 1, (.t 17))]⟩, ⟨some 19, none, .call 52 [(.t 18)]⟩, ⟨some 13, none, .mov (.t 19)⟩, ⟨some 20, none, .ext (.t 13) 0⟩, ⟨some 21, none, .ext (.t 13) 1⟩, ⟨some 4, none, .alloc [.str [], .str []]⟩, ⟨none, none, .store 2 (.t 4) (.t 20)⟩, ⟨some 5, none, .mov (.t 21)⟩] none)
 (.seq (.seq (.reg [⟨some 22, none, .mov (.t 5)⟩, ⟨some 23, none, .bin .neq (.t 22) (.c (.int .i64 0))⟩] none)
 (.cond (.t 23) (.seq (.reg [⟨some 24, none, .mov (.t 5)⟩, ⟨some 2, none, .mov (.c (.sl 6 [] (.exact 0)))⟩, ⟨some 3, none, .mov (.t 24)⟩] none)
 .ret) .skip))
 (.seq (.reg [⟨some 26, none, .faddr 0 (.t 1)⟩, ⟨some 27, none, .load none (.t 26)⟩, ⟨some 28, none, .faddr 0 (.t 4)⟩, ⟨some 29, none, .load none (.t 28)⟩, ⟨some 30, none, .faddr 1 (.t 4)⟩, ⟨some 31, none, .load none (.t 30)⟩, ⟨some 32, none, .call 53 [(.t 27), (.t 29), (.t 31), (.c (.int .i64 (-1)))]⟩, ⟨some 25, none, .mov (.t 32)⟩, ⟨some 33, none, .ext (.t 25) 0⟩, ⟨some 34, none, .ext (.t 25) 1⟩, ⟨some 6, none, .mov (.t 33)⟩, ⟨some 5, none, .mov (.t 34)⟩] none)
 (.seq (.seq (.reg [⟨some 35, none, .mov (.t 5)⟩, ⟨some 36, none, .bin .neq (.t 35) (.c (.int .i64 0))⟩] none)
 (.cond (.t 36) (.seq (.reg [⟨some 37, none, .mov (.t 5)⟩, ⟨some 2, none, .mov (.c (.sl 6 [] (.exact 0)))⟩, ⟨some 3, none, .mov (.t 37)⟩] none)
 .ret) .skip))
 (.seq (.reg [⟨some 7, none, .mov (.c (.sl 6 [] (.exact 0)))⟩] none)
 (.seq (.seq (.reg [⟨some 38, none, .mov (.t 6)⟩, ⟨some 39, none, .len false (.t 38)⟩, ⟨some 40, none, .mov (.c (.int .i64 0))⟩] none)
 (.block 0 (.loop (.seq (.reg [⟨some 41, none, .bin .lss (.t 40) (.t 39)⟩] none)
 (.seq (.cond (.t 41) .skip (.exit 0))
 (.seq (.block 1 (.seq (.reg [⟨some 42, none, .iaddr 2 (.t 38) (.t 40)⟩, ⟨some 43, none, .load (some 2) (.t 42)⟩, ⟨some 9, none, .alloc [.str [], .str []]⟩, ⟨none, none, .store 2 (.t 9) (.t 43)⟩] none)
 (.seq (.reg [⟨some 45, none, .faddr 0 (.t 9)⟩, ⟨some 46, none, .load none (.t 45)⟩, ⟨some 47, none, .call 54 [(.t 46)]⟩, ⟨some 44, none, .mov (.t 47)⟩, ⟨some 48, none, .ext (.t 44) 0⟩, ⟨some 49, none, .ext (.t 44) 1⟩, ⟨some 10, none, .alloc [.int .i64 0, .str [], .str [], .sl 1 [] (.exact 0)]⟩, ⟨none, none, .store 4 (.t 10) (.t 48)⟩, ⟨some 11, none, .mov (.t 49)⟩] none)
 (.seq (.seq (.reg [⟨some 50, none, .mov (.t 11)⟩, ⟨some 51, none, .bin .neq (.t 50) (.c (.int .i64 0))⟩] none)
 (.cond (.t 51) (.seq (.reg [⟨some 52, none, .mov (.t 11)⟩, ⟨some 2, none, .mov (.c (.sl 6 [] (.exact 0)))⟩, ⟨some 3, none, .mov (.t 52)⟩] none)
 .ret) .skip))
 (.seq (.reg [⟨some 54, none, .faddr 1 (.t 9)⟩, ⟨some 55, none, .load none (.t 54)⟩, ⟨some 56, none, .call 127 [(.t 55)]⟩, ⟨some 53, none, .mov (.t 56)⟩, ⟨some 57, none, .ext (.t 53) 0⟩, ⟨some 58, none, .ext (.t 53) 1⟩, ⟨some 12, none, .alloc [.int .i64 0, .int .i64 0, .int .i64 0, .bool false, .bool false]⟩, ⟨none, none, .store 5 (.t 12) (.t 57)⟩, ⟨some 11, none, .mov (.t 58)⟩] none)
 (.seq (.seq (.reg [⟨some 59, none, .mov (.t 11)⟩, ⟨some 60, none, .bin .neq (.t 59) (.c (.int .i64 0))⟩] none)
 (.cond (.t 60) (.seq (.reg [⟨some 61, none, .mov (.t 11)⟩, ⟨some 2, none, .mov (.c (.sl 6 [] (.exact 0)))⟩, ⟨some 3, none, .mov (.t 61)⟩] none)
 .ret) .skip))
 (.reg [⟨some 62, none, .mov (.t 7)⟩, ⟨some 63, none, .faddr 3 (.t 10)⟩, ⟨some 64, none, .load none (.t 63)⟩, ⟨some 65, none, .iaddr 1 (.t 64) (.c (.int .i64 0))⟩, ⟨some 66, none, .load none (.t 65)⟩, ⟨some 67, none, .load (some 5) (.t 12)⟩, ⟨some 68, none, .build [.int .i64 0, .int .i64 0, .int .i64 0, .int .i64 0, .bool false, .bool false] [(0, 1, (.t 66)), (1, 5, (.t 67))]⟩, ⟨some 69, none, .buildSl 6 [(.t 68)]⟩, ⟨some 70, none, .app false 6 40 (.t 62) (.t 69)⟩, ⟨some 7, none, .mov (.t 70)⟩] (some [(2, 5), (4, 5)]))))))))
 (.reg [⟨some 71, none, .bin .add (.t 40) (.c (.int .i64 1))⟩, ⟨some 40, none, .mov (.t 71)⟩] none)))))))
 (.seq (.reg [⟨some 72, none, .mov (.t 7)⟩, ⟨some 2, none, .mov (.t 72)⟩, ⟨some 3, none, .mov (.c (.int .i64 0))⟩] none)
 .ret))))))))
theorem f61 : FnIs Tryz.prog 61 73 c61 [.tmp 2, .tmp 3] := ⟨_, Tryz.func61, rfl, by kernel_rfl, rfl⟩
def c62 : AC := (.seq (.reg [⟨some 3, none, .box (.t 1)⟩, ⟨some 4, none, .mov (.c (.int .i64 0))⟩] none)
 (.seq (.reg [⟨some 6, none, .mov (.t 0)⟩, ⟨some 7, none, .len false (.t 6)⟩, ⟨some 8, none, .bin .gtr (.t 7) (.c (.int .i64 0))⟩, ⟨some 9, none, .mov (.t 8)⟩, ⟨some 10, some (9, true), .mov (.t 0)⟩, ⟨some 11, some (9, true), .iaddr 6 (.t 10) (.c (.int .i64 0))⟩, ⟨some 12, some (9, true), .faddr 1 (.t 11)⟩, ⟨some 13, some (9, true), .faddr 3 (.t 12)⟩, ⟨some 14, some (9, true), .load none (.t 13)⟩, ⟨some 15, some (9, true), .un .not (.t 14)⟩, ⟨some 16, none, .pick (.t 9) (.t 15) (.c (.bool false))⟩, ⟨some 5, none, .mov (.t 16)⟩] none)
 (.seq (.block 0 (.seq (.reg [⟨some 18, none, .faddr 0 (.t 3)⟩, ⟨some 19, none, .load none (.t 18)⟩, ⟨some 20, none, .bin .eql (.t 19) (.c (.int .i64 1))⟩, ⟨some 21, none, .mov (.t 20)⟩, ⟨some 22, some (21, true), .mov (.t 5)⟩, ⟨some 23, none, .pick (.t 21) (.t 22) (.c (.bool false))⟩, ⟨some 17, none, .mov (.t 23)⟩] none)
 (.cond (.t 17) (.seq (.reg [⟨some 4, none, .mov (.c (.int .i64 16))⟩] none)
 .ret) (.seq (.reg [⟨some 25, none, .faddr 0 (.t 3)⟩, ⟨some 26, none, .load none (.t 25)⟩, ⟨some 27, none, .bin .eql (.t 26) (.c (.int .i64 2))⟩, ⟨some 28, none, .mov (.t 27)⟩, ⟨some 29, some (28, true), .mov (.t 5)⟩, ⟨some 30, some (28, true), .un .not (.t 29)⟩, ⟨some 31, some (28, true), .mov (.t 30)⟩, ⟨some 32, some (31, false), .mov (.t 0)⟩, ⟨some 33, some (31, false), .iaddr 6 (.t 32) (.c (.int .i64 0))⟩, ⟨some 34, some (31, false), .faddr 1 (.t 33)⟩, ⟨some 35, some (31, false), .faddr 1 (.t 34)⟩, ⟨some 36, some (31, false), .load (some 2) (.t 35)⟩, ⟨some 37, some (31, false), .faddr 1 (.t 3)⟩, ⟨some 38, some (31, false), .load (some 2) (.t 37)⟩, ⟨some 39, some (31, false), .eqA true [.int, .int] (.t 36) (.t 38)⟩, ⟨some 40, some (28, true), .pick (.t 31) (.c (.bool true)) (.t 39)⟩, ⟨some 41, none, .pick (.t 28) (.t 40) (.c (.bool false))⟩, ⟨some 24, none, .mov (.t 41)⟩] (some [(11, 13)]))
 (.cond (.t 24) (.seq (.reg [⟨some 4, none, .mov (.c (.int .i64 16))⟩] none)
 .ret) .skip)))))
 (.seq (.reg [⟨some 4, none, .mov (.c (.int .i64 0))⟩] none)
 .ret))))
theorem f62 : FnIs Tryz.prog 62 42 c62 [.tmp 4] := ⟨_, Tryz.func62, rfl, by kernel_rfl, rfl⟩
def c63 : AC := (.seq (.reg [⟨some 5, none, .box (.t 0)⟩, ⟨some 7, none, .box (.t 2)⟩, ⟨some 8, none, .box (.t 3)⟩, ⟨some 9, none, .box (.t 4)⟩, ⟨some 10, none, .mov (.c (.str []))⟩, ⟨some 11, none, .mov (.c (.int .i64 0))⟩] none)
 (.seq (.reg [⟨some 15, none, .faddr 0 (.t 5)⟩, ⟨some 16, none, .load none (.t 15)⟩, ⟨some 17, none, .call 82 [(.t 16)]⟩, ⟨some 12, none, .mov (.t 17)⟩] none)
 (.seq (.seq (.reg [⟨some 18, none, .mov (.t 12)⟩, ⟨some 19, none, .bin .geq (.t 18) (.c (.int .i64 1125899906842624))⟩] none)
 (.cond (.t 19) (.seq (.reg [⟨some 10, none, .mov (.c (.str []))⟩, ⟨some 11, none, .mov (.c (.int .i64 18))⟩] none)
 .ret) .skip))
 (.seq (.reg [⟨some 20, none, .mov (.t 12)⟩, ⟨some 21, none, .bin .add (.t 20) (.c (.int .i64 1))⟩, ⟨some 22, none, .bin .mul (.t 21) (.c (.int .i64 64))⟩, ⟨some 23, none, .faddr 0 (.t 5)⟩, ⟨some 24, none, .load none (.t 23)⟩, ⟨some 25, none, .call 83 [(.t 24)]⟩, ⟨some 26, none, .len false (.t 25)⟩, ⟨some 27, none, .bin .add (.t 22) (.t 26)⟩, ⟨some 28, none, .load (some 5) (.t 8)⟩, ⟨some 29, none, .build [.int .i64 0, .int .i64 0, .int .i64 0, .int .i64 0, .bool false, .bool false] [(0, 1, (.t 27)), (1, 5, (.t 28))]⟩, ⟨some 13, none, .alloc [.int .i64 0, .int .i64 0, .int .i64 0, .int .i64 0, .bool false, .bool false]⟩, ⟨none, none, .store 6 (.t 13) (.t 29)⟩] (some [(4, 8), (5, 8), (4, 10), (5, 10), (8, 10)]))
 (.seq (.reg [⟨some 30, none, .mov (.t 1)⟩, ⟨some 31, none, .bin .neq (.t 30) (.c (.int .i64 1))⟩, ⟨some 32, none, .faddr 1 (.t 13)⟩, ⟨some 33, none, .faddr 4 (.t 32)⟩, ⟨none, none, .store 1 (.t 33) (.t 31)⟩] none)
 (.seq (.reg [⟨some 34, none, .faddr 0 (.t 5)⟩, ⟨some 35, none, .load none (.t 34)⟩, ⟨some 36, none, .mkfn (.func 128) [] [(.t 13), (.t 5), (.t 7), (.t 9)]⟩, ⟨some 37, none, .call 69 [(.t 35), (.t 36)]⟩, ⟨some 14, none, .mov (.t 37)⟩] none)
 (.seq (.seq (.reg [⟨some 38, none, .mov (.t 14)⟩, ⟨some 39, none, .bin .neq (.t 38) (.c (.int .i64 0))⟩] none)
 (.cond (.t 39) (.seq (.reg [⟨some 40, none, .mov (.t 14)⟩, ⟨some 10, none, .mov (.c (.str []))⟩, ⟨some 11, none, .mov (.t 40)⟩] none)
 .ret) .skip))
 (.seq (.reg [⟨some 41, none, .faddr 0 (.t 13)⟩, ⟨some 42, none, .load none (.t 41)⟩, ⟨some 43, none, .faddr 1 (.t 13)⟩, ⟨some 44, none, .faddr 4 (.t 43)⟩, ⟨some 45, none, .load none (.t 44)⟩, ⟨some 46, none, .call 130 [(.t 42), (.t 45)]⟩, ⟨some 10, none, .mov (.t 46)⟩, ⟨some 11, none, .mov (.c (.int .i64 0))⟩] none)
 .ret))))))))
theorem f63 : FnIs Tryz.prog 63 47 c63 [.tmp 10, .tmp 11] := ⟨_, Tryz.func63, rfl, by kernel_rfl, rfl⟩
def c69 : AC := (.seq (.reg [⟨some 4, none, .mov (.c (.int .i64 0))⟩] none)
 (.seq (.reg [⟨some 7, none, .mov (.t 0)⟩, ⟨some 8, none, .call 83 [(.t 7)]⟩, ⟨some 5, none, .mov (.t 8)⟩] none)
 (.seq (.reg [⟨some 9, none, .mov (.t 1)⟩, ⟨some 10, none, .callv (.t 9) []⟩, ⟨some 6, none, .mov (.t 10)⟩] none)
 (.seq (.seq (.reg [⟨some 11, none, .mov (.t 6)⟩, ⟨some 12, none, .bin .neq (.t 11) (.c (.int .i64 0))⟩] none)
 (.cond (.t 12) (.reg [⟨some 13, none, .mov (.t 0)⟩, ⟨some 14, none, .mov (.t 5)⟩, ⟨some 15, none, .call 124 [(.t 13), (.t 14)]⟩] none) .skip))
 (.seq (.reg [⟨some 16, none, .mov (.t 6)⟩, ⟨some 4, none, .mov (.t 16)⟩] none)
 .ret)))))
theorem f69 : FnIs Tryz.prog 69 17 c69 [.tmp 4] := ⟨_, Tryz.func69, rfl, by kernel_rfl, rfl⟩
def c73 : AC := (.seq (.reg [⟨some 2, none, .box (.t 0)⟩, ⟨some 4, none, .mov (.c (.int .i64 0))⟩] none)
 (.seq (.seq (.reg [⟨some 7, none, .mov (.t 1)⟩, ⟨some 8, none, .len false (.t 7)⟩, ⟨some 9, none, .mov (.c (.int .i64 0))⟩] none)
 (.block 0 (.loop (.seq (.reg [⟨some 10, none, .bin .lss (.t 9) (.t 8)⟩] none)
 (.seq (.cond (.t 10) .skip (.exit 0))
 (.seq (.block 1 (.seq (.reg [⟨some 11, none, .iaddr 6 (.t 7) (.t 9)⟩, ⟨some 12, none, .load (some 6) (.t 11)⟩, ⟨some 6, none, .alloc [.int .i64 0, .int .i64 0, .int .i64 0, .int .i64 0, .bool false, .bool false]⟩, ⟨none, none, .store 6 (.t 6) (.t 12)⟩] none)
 (.seq (.reg [⟨some 13, none, .faddr 1 (.t 6)⟩, ⟨some 14, none, .faddr 4 (.t 13)⟩, ⟨some 15, none, .load none (.t 14)⟩] none)
 (.cond (.t 15) (.seq (.reg [⟨some 16, none, .load (some 3) (.t 2)⟩, ⟨some 17, none, .load (some 6) (.t 6)⟩, ⟨some 18, none, .call 71 [(.t 16), (.t 17)]⟩, ⟨some 4, none, .mov (.t 18)⟩] none)
 .ret) .skip))))
 (.reg [⟨some 19, none, .bin .add (.t 9) (.c (.int .i64 1))⟩, ⟨some 9, none, .mov (.t 19)⟩] none)))))))
 (.seq (.reg [⟨some 4, none, .mov (.c (.int .i64 0))⟩] none)
 .ret)))
theorem f73 : FnIs Tryz.prog 73 20 c73 [.tmp 4] := ⟨_, Tryz.func73, rfl, by kernel_rfl, rfl⟩
def c78 : AC := (.seq (.reg [⟨some 6, none, .mov (.c (.int .i64 0))⟩] none)
 (.seq (.reg [⟨some 12, none, .mov (.t 1)⟩, ⟨some 13, none, .build [.int .i64 0, .str [], .str [], .sl 1 [] (.exact 0)] [(0, 1, (.c (.int .i64 1))), (1, 1, (.t 12))]⟩, ⟨some 14, none, .call 79 [(.t 13)]⟩, ⟨some 11, none, .mov (.t 14)⟩, ⟨some 15, none, .ext (.t 11) 0⟩, ⟨some 16, none, .ext (.t 11) 1⟩, ⟨some 7, none, .mov (.t 15)⟩, ⟨some 8, none, .mov (.t 16)⟩] none)
 (.seq (.reg [⟨some 18, none, .mov (.t 2)⟩, ⟨some 19, none, .call 137 [(.t 18)]⟩, ⟨some 17, none, .mov (.t 19)⟩, ⟨some 20, none, .ext (.t 17) 0⟩, ⟨some 21, none, .ext (.t 17) 1⟩, ⟨some 9, none, .mov (.t 20)⟩, ⟨some 10, none, .mov (.t 21)⟩] none)
 (.seq (.seq (.reg [⟨some 22, none, .mov (.t 10)⟩, ⟨some 23, none, .bin .neq (.t 22) (.c (.int .i64 0))⟩] none)
 (.cond (.t 23) (.seq (.reg [⟨some 24, none, .mov (.t 10)⟩, ⟨some 6, none, .mov (.t 24)⟩] none)
 .ret) .skip))
 (.seq (.reg [⟨some 25, none, .mov (.t 0)⟩, ⟨some 26, none, .mov (.t 7)⟩, ⟨some 27, none, .mov (.t 9)⟩, ⟨some 28, none, .call 84 [(.t 25), (.t 26), (.t 27)]⟩, ⟨some 6, none, .mov (.t 28)⟩] none)
 .ret)))))
theorem f78 : FnIs Tryz.prog 78 29 c78 [.tmp 6] := ⟨_, Tryz.func78, rfl, by kernel_rfl, rfl⟩
def c79 : AC := (.seq (.reg [⟨some 1, none, .box (.t 0)⟩, ⟨some 2, none, .mov (.c (.str []))⟩, ⟨some 3, none, .mov (.c (.int .i64 0))⟩] none)
 (.seq (.seq (.reg [⟨some 6, none, .load (some 4) (.t 1)⟩, ⟨some 7, none, .call 114 [(.t 6)]⟩, ⟨some 8, none, .un .not (.t 7)⟩, ⟨some 9, none, .mov (.t 8)⟩, ⟨some 10, some (9, false), .faddr 3 (.t 1)⟩, ⟨some 11, some (9, false), .load none (.t 10)⟩, ⟨some 12, some (9, false), .len false (.t 11)⟩, ⟨some 13, some (9, false), .faddr 0 (.t 1)⟩, ⟨some 14, some (9, false), .load none (.t 13)⟩, ⟨some 15, some (9, false), .call 138 [(.t 14)]⟩, ⟨some 16, some (9, false), .bin .neq (.t 12) (.t 15)⟩, ⟨some 17, none, .pick (.t 9) (.c (.bool true)) (.t 16)⟩] (some [(5, 8), (5, 9)]))
 (.cond (.t 17) (.seq (.reg [⟨some 2, none, .mov (.c (.str []))⟩, ⟨some 3, none, .mov (.c (.int .i64 2))⟩] none)
 .ret) .skip))
 (.seq (.seq (.reg [⟨some 18, none, .faddr 1 (.t 1)⟩, ⟨some 19, none, .load none (.t 18)⟩, ⟨some 20, none, .call 57 [(.t 19)]⟩, ⟨some 4, none, .mov (.t 20)⟩] none)
 (.seq (.reg [⟨some 21, none, .mov (.t 4)⟩, ⟨some 22, none, .bin .neq (.t 21) (.c (.int .i64 0))⟩] none)
 (.cond (.t 22) (.seq (.reg [⟨some 23, none, .mov (.t 4)⟩, ⟨some 2, none, .mov (.c (.str []))⟩, ⟨some 3, none, .mov (.t 23)⟩] none)
 .ret) .skip)))
 (.seq (.seq (.reg [⟨some 24, none, .faddr 0 (.t 1)⟩, ⟨some 25, none, .load none (.t 24)⟩, ⟨some 26, none, .bin .neq (.t 25) (.c (.int .i64 1))⟩] none)
 (.cond (.t 26) (.seq (.reg [⟨some 27, none, .faddr 2 (.t 1)⟩, ⟨some 28, none, .load none (.t 27)⟩, ⟨some 29, none, .call 59 [(.t 28)]⟩, ⟨some 5, none, .mov (.t 29)⟩] none)
 (.seq (.reg [⟨some 30, none, .mov (.t 5)⟩, ⟨some 31, none, .bin .neq (.t 30) (.c (.int .i64 0))⟩] none)
 (.cond (.t 31) (.seq (.reg [⟨some 32, none, .mov (.t 5)⟩, ⟨some 2, none, .mov (.c (.str []))⟩, ⟨some 3, none, .mov (.t 32)⟩] none)
 .ret) .skip))) .skip))
 (.seq (.reg [⟨some 33, none, .load (some 4) (.t 1)⟩, ⟨some 34, none, .faddr 1 (.t 1)⟩, ⟨some 35, none, .load none (.t 34)⟩, ⟨some 36, none, .faddr 2 (.t 1)⟩, ⟨some 37, none, .load none (.t 36)⟩, ⟨some 38, none, .buildSl 1 [(.t 35), (.t 37)]⟩, ⟨some 39, none, .call 115 [(.t 33), (.t 38)]⟩, ⟨some 2, none, .mov (.t 39)⟩, ⟨some 3, none, .mov (.c (.int .i64 0))⟩] none)
 .ret)))))
theorem f79 : FnIs Tryz.prog 79 40 c79 [.tmp 2, .tmp 3] := ⟨_, Tryz.func79, rfl, by kernel_rfl, rfl⟩
def c82 : AC := (.seq (.reg [⟨some 2, none, .mov (.c (.int .i64 0))⟩] none)
 (.seq (.seq (.reg [⟨some 3, none, .mov (.t 0)⟩, ⟨some 4, none, .call 113 [(.t 3)]⟩, ⟨some 5, none, .un .not (.t 4)⟩] none)
 (.cond (.t 5) (.seq (.reg [⟨some 2, none, .mov (.c (.int .i64 0))⟩] none)
 .ret) .skip))
 (.seq (.reg [⟨some 6, none, .mov (.t 0)⟩, ⟨some 7, none, .nilck (.t 6)⟩, ⟨some 8, none, .faddr 1 (.t 7)⟩, ⟨some 9, none, .load none (.t 8)⟩, ⟨some 2, none, .mov (.t 9)⟩] none)
 .ret)))
theorem f82 : FnIs Tryz.prog 82 10 c82 [.tmp 2] := ⟨_, Tryz.func82, rfl, by kernel_rfl, rfl⟩
def c83 : AC := (.seq (.reg [⟨some 2, none, .mov (.c (.sl 3 [] (.exact 0)))⟩] none)
 (.seq (.seq (.reg [⟨some 6, none, .mov (.t 0)⟩, ⟨some 7, none, .call 113 [(.t 6)]⟩, ⟨some 8, none, .un .not (.t 7)⟩] none)
 (.cond (.t 8) (.seq (.reg [⟨some 2, none, .mov (.c (.sl 3 [] (.exact 0)))⟩] none)
 .ret) .skip))
 (.seq (.reg [⟨some 3, none, .mov (.c (.sl 3 [] (.exact 0)))⟩] none)
 (.seq (.seq (.reg [⟨some 9, none, .mov (.t 0)⟩, ⟨some 10, none, .nilck (.t 9)⟩, ⟨some 11, none, .faddr 3 (.t 10)⟩, ⟨some 12, none, .load none (.t 11)⟩, ⟨some 13, none, .len false (.t 12)⟩, ⟨some 14, none, .mov (.c (.int .i64 0))⟩] none)
 (.block 0 (.loop (.seq (.reg [⟨some 15, none, .bin .lss (.t 14) (.t 13)⟩] none)
 (.seq (.cond (.t 15) .skip (.exit 0))
 (.seq (.block 1 (.seq (.reg [⟨some 16, none, .iaddr 1 (.t 12) (.t 14)⟩, ⟨some 17, none, .load none (.t 16)⟩, ⟨some 5, none, .mov (.t 17)⟩] none)
 (.reg [⟨some 18, none, .mov (.t 3)⟩, ⟨some 19, none, .mov (.t 0)⟩, ⟨some 20, none, .nilck (.t 19)⟩, ⟨some 21, none, .faddr 2 (.t 20)⟩, ⟨some 22, none, .load none (.t 21)⟩, ⟨some 23, none, .mov (.t 5)⟩, ⟨some 24, none, .mlook (.agg [.str [], .str [], .bool false]) false (.t 22) (.t 23)⟩, ⟨some 25, none, .buildSl 3 [(.t 24)]⟩, ⟨some 26, none, .app false 3 40 (.t 18) (.t 25)⟩, ⟨some 3, none, .mov (.t 26)⟩] none)))
 (.reg [⟨some 27, none, .bin .add (.t 14) (.c (.int .i64 1))⟩, ⟨some 14, none, .mov (.t 27)⟩] none)))))))
 (.seq (.reg [⟨some 28, none, .mov (.t 3)⟩, ⟨some 2, none, .mov (.t 28)⟩] none)
 .ret)))))
theorem f83 : FnIs Tryz.prog 83 29 c83 [.tmp 2] := ⟨_, Tryz.func83, rfl, by kernel_rfl, rfl⟩
def c84 : AC := (.seq (.reg [⟨some 6, none, .mov (.c (.int .i64 0))⟩] none)
 (.seq (.reg [⟨some 7, none, .mov (.t 0)⟩, ⟨some 8, none, .mov (.t 1)⟩, ⟨some 9, none, .mov (.t 2)⟩, ⟨some 10, none, .build [.str [], .str [], .bool false] [(0, 1, (.t 8)), (1, 1, (.t 9))]⟩, ⟨some 11, none, .call 139 [(.t 7), (.t 10)]⟩, ⟨some 6, none, .mov (.t 11)⟩] none)
 .ret))
theorem f84 : FnIs Tryz.prog 84 12 c84 [.tmp 6] := ⟨_, Tryz.func84, rfl, by kernel_rfl, rfl⟩
def c98 : AC := (.seq (.reg [⟨some 4, none, .box (.t 1)⟩, ⟨some 6, none, .alloc [.int .i64 0, .int .i64 0, .int .i64 0, .str [], .int .i64 0, .int .i64 0, .str [], .int .i64 0, .int .i64 0, .int .i64 0, .bool false, .bool false, .str [], .sl 1 [] (.exact 0), .sl 1 [] (.exact 0), .sl 1 [] (.exact 0), .str [], .bool false, .sl 8 [] (.exact 0), .str [], .int .i64 0, .bool false, .sl 2 [] (.exact 0), .sl 6 [] (.exact 0)]⟩] none)
 (.seq (.reg [⟨some 7, none, .alloc [.int .i64 0, .int .i64 0, .int .i64 0, .str [], .int .i64 0, .int .i64 0, .str [], .int .i64 0, .int .i64 0, .int .i64 0, .bool false, .bool false, .str [], .sl 1 [] (.exact 0), .sl 1 [] (.exact 0), .sl 1 [] (.exact 0), .str [], .bool false, .sl 8 [] (.exact 0), .str [], .int .i64 0, .bool false, .sl 2 [] (.exact 0), .sl 6 [] (.exact 0)]⟩] none)
 (.seq (.seq (.reg [⟨some 10, none, .faddr 0 (.t 4)⟩, ⟨some 11, none, .load none (.t 10)⟩] none)
 (.block 0 (.seq (.reg [⟨some 15, none, .bin .eql (.t 11) (.c (.int .i64 7))⟩, ⟨some 14, none, .mov (.t 15)⟩] none)
 (.cond (.t 14) (.reg [⟨some 17, none, .mov (.t 0)⟩, ⟨some 18, none, .call 13 [(.t 17)]⟩, ⟨some 16, none, .mov (.t 18)⟩, ⟨some 19, none, .ext (.t 16) 0⟩, ⟨some 20, none, .ext (.t 16) 1⟩, ⟨some 21, none, .faddr 13 (.t 7)⟩, ⟨none, none, .store 1 (.t 21) (.t 19)⟩, ⟨some 22, none, .faddr 0 (.t 7)⟩, ⟨none, none, .store 1 (.t 22) (.t 20)⟩] none) (.seq (.reg [⟨some 24, none, .bin .eql (.t 11) (.c (.int .i64 9))⟩, ⟨some 23, none, .mov (.t 24)⟩] none)
 (.cond (.t 23) (.seq (.reg [⟨some 26, none, .mov (.t 0)⟩, ⟨some 27, none, .faddr 2 (.t 4)⟩, ⟨some 28, none, .load none (.t 27)⟩, ⟨some 29, none, .call 14 [(.t 26), (.t 28)]⟩, ⟨some 25, none, .mov (.t 29)⟩, ⟨some 30, none, .ext (.t 25) 0⟩, ⟨some 31, none, .ext (.t 25) 1⟩, ⟨some 8, none, .mov (.t 30)⟩, ⟨some 9, none, .mov (.t 31)⟩] none)
 (.reg [⟨some 32, none, .mov (.t 8)⟩, ⟨some 33, none, .mov (.t 9)⟩, ⟨some 34, none, .faddr 1 (.t 7)⟩, ⟨none, none, .store 1 (.t 34) (.t 32)⟩, ⟨some 35, none, .faddr 0 (.t 7)⟩, ⟨none, none, .store 1 (.t 35) (.t 33)⟩] none)) (.seq (.reg [⟨some 37, none, .bin .eql (.t 11) (.c (.int .i64 11))⟩, ⟨some 36, none, .mov (.t 37)⟩] none)
 (.cond (.t 36) (.reg [⟨some 39, none, .mov (.t 0)⟩, ⟨some 40, none, .faddr 2 (.t 4)⟩, ⟨some 41, none, .load none (.t 40)⟩, ⟨some 42, none, .faddr 3 (.t 4)⟩, ⟨some 43, none, .load none (.t 42)⟩, ⟨some 44, none, .faddr 4 (.t 4)⟩, ⟨some 45, none, .load none (.t 44)⟩, ⟨some 46, none, .call 16 [(.t 39), (.t 41), (.t 43), (.t 45)]⟩, ⟨some 38, none, .mov (.t 46)⟩, ⟨some 47, none, .ext (.t 38) 0⟩, ⟨some 48, none, .ext (.t 38) 1⟩, ⟨some 49, none, .faddr 6 (.t 7)⟩, ⟨none, none, .store 7 (.t 49) (.t 47)⟩, ⟨some 50, none, .faddr 0 (.t 7)⟩, ⟨none, none, .store 1 (.t 50) (.t 48)⟩] none) (.seq (.reg [⟨some 52, none, .bin .eql (.t 11) (.c (.int .i64 12))⟩, ⟨some 51, none, .mov (.t 52)⟩] none)
 (.cond (.t 51) (.reg [⟨some 54, none, .mov (.t 0)⟩, ⟨some 55, none, .faddr 2 (.t 4)⟩, ⟨some 56, none, .load none (.t 55)⟩, ⟨some 57, none, .faddr 3 (.t 4)⟩, ⟨some 58, none, .load none (.t 57)⟩, ⟨some 59, none, .faddr 4 (.t 4)⟩, ⟨some 60, none, .load none (.t 59)⟩, ⟨some 61, none, .call 17 [(.t 54), (.t 56), (.t 58), (.t 60)]⟩, ⟨some 53, none, .mov (.t 61)⟩, ⟨some 62, none, .ext (.t 53) 0⟩, ⟨some 63, none, .ext (.t 53) 1⟩, ⟨some 64, none, .faddr 6 (.t 7)⟩, ⟨none, none, .store 7 (.t 64) (.t 62)⟩, ⟨some 65, none, .faddr 0 (.t 7)⟩, ⟨none, none, .store 1 (.t 65) (.t 63)⟩] none) (.seq (.reg [⟨some 67, none, .bin .eql (.t 11) (.c (.int .i64 14))⟩, ⟨some 66, none, .mov (.t 67)⟩] none)
 (.cond (.t 66) (.reg [⟨some 69, none, .mov (.t 0)⟩, ⟨some 70, none, .faddr 2 (.t 4)⟩, ⟨some 71, none, .load none (.t 70)⟩, ⟨some 72, none, .faddr 5 (.t 4)⟩, ⟨some 73, none, .load none (.t 72)⟩, ⟨some 74, none, .faddr 6 (.t 4)⟩, ⟨some 75, none, .load none (.t 74)⟩, ⟨some 76, none, .faddr 3 (.t 4)⟩, ⟨some 77, none, .load none (.t 76)⟩, ⟨some 78, none, .faddr 12 (.t 4)⟩, ⟨some 79, none, .load none (.t 78)⟩, ⟨some 80, none, .call 19 [(.t 69), (.t 71), (.t 73), (.t 75), (.t 77), (.t 79)]⟩, ⟨some 68, none, .mov (.t 80)⟩, ⟨some 81, none, .ext (.t 68) 0⟩, ⟨some 82, none, .ext (.t 68) 1⟩, ⟨some 83, none, .faddr 14 (.t 7)⟩, ⟨none, none, .store 4 (.t 83) (.t 81)⟩, ⟨some 84, none, .faddr 0 (.t 7)⟩, ⟨none, none, .store 1 (.t 84) (.t 82)⟩] none) (.seq (.reg [⟨some 86, none, .bin .eql (.t 11) (.c (.int .i64 15))⟩, ⟨some 85, none, .mov (.t 86)⟩] none)
 (.cond (.t 85) (.reg [⟨some 88, none, .mov (.t 0)⟩, ⟨some 89, none, .faddr 2 (.t 4)⟩, ⟨some 90, none, .load none (.t 89)⟩, ⟨some 91, none, .faddr 5 (.t 4)⟩, ⟨some 92, none, .load none (.t 91)⟩, ⟨some 93, none, .faddr 3 (.t 4)⟩, ⟨some 94, none, .load none (.t 93)⟩, ⟨some 95, none, .faddr 11 (.t 4)⟩, ⟨some 96, none, .load none (.t 95)⟩, ⟨some 97, none, .faddr 12 (.t 4)⟩, ⟨some 98, none, .load none (.t 97)⟩, ⟨some 99, none, .call 20 [(.t 88), (.t 90), (.t 92), (.t 94), (.t 96), (.t 98)]⟩, ⟨some 87, none, .mov (.t 99)⟩, ⟨some 100, none, .ext (.t 87) 0⟩, ⟨some 101, none, .ext (.t 87) 1⟩, ⟨some 102, none, .faddr 18 (.t 7)⟩, ⟨none, none, .store 4 (.t 102) (.t 100)⟩, ⟨some 103, none, .faddr 0 (.t 7)⟩, ⟨none, none, .store 1 (.t 103) (.t 101)⟩] none) (.seq (.reg [⟨some 105, none, .bin .eql (.t 11) (.c (.int .i64 20))⟩, ⟨some 104, none, .mov (.t 105)⟩] none)
 (.cond (.t 104) (.reg [⟨some 107, none, .mov (.t 0)⟩, ⟨some 108, none, .faddr 2 (.t 4)⟩, ⟨some 109, none, .load none (.t 108)⟩, ⟨some 110, none, .call 30 [(.t 107), (.t 109)]⟩, ⟨some 106, none, .mov (.t 110)⟩, ⟨some 111, none, .ext (.t 106) 0⟩, ⟨some 112, none, .ext (.t 106) 1⟩, ⟨some 113, none, .faddr 22 (.t 7)⟩, ⟨none, none, .store 1 (.t 113) (.t 111)⟩, ⟨some 114, none, .faddr 0 (.t 7)⟩, ⟨none, none, .store 1 (.t 114) (.t 112)⟩] none) (.seq (.reg [⟨some 116, none, .bin .eql (.t 11) (.c (.int .i64 21))⟩, ⟨some 115, none, .mov (.t 116)⟩] none)
 (.cond (.t 115) (.reg [⟨some 118, none, .mov (.t 0)⟩, ⟨some 119, none, .faddr 2 (.t 4)⟩, ⟨some 120, none, .load none (.t 119)⟩, ⟨some 121, none, .faddr 3 (.t 4)⟩, ⟨some 122, none, .load none (.t 121)⟩, ⟨some 123, none, .faddr 11 (.t 4)⟩, ⟨some 124, none, .load none (.t 123)⟩, ⟨some 125, none, .call 31 [(.t 118), (.t 120), (.t 122), (.t 124)]⟩, ⟨some 117, none, .mov (.t 125)⟩, ⟨some 126, none, .ext (.t 117) 0⟩, ⟨some 127, none, .ext (.t 117) 1⟩, ⟨some 128, none, .faddr 23 (.t 7)⟩, ⟨none, none, .store 1 (.t 128) (.t 126)⟩, ⟨some 129, none, .faddr 0 (.t 7)⟩, ⟨none, none, .store 1 (.t 129) (.t 127)⟩] none) (.seq (.reg [⟨some 12, none, .mov (.t 2)⟩, ⟨some 13, none, .callv (.t 12) []⟩, ⟨none, none, .store 24 (.t 6) (.t 13)⟩] none)
 .ret)))))))))))))))))))
 (.seq (.reg [⟨some 130, none, .load (some 24) (.t 7)⟩, ⟨none, none, .store 24 (.t 6) (.t 130)⟩] none)
 .ret))))
theorem f98 : FnIs Tryz.prog 98 131 c98 [.cell 6 (some 24)] := ⟨_, Tryz.func98, rfl, by kernel_rfl, rfl⟩
def c99 : AC := (.seq (.reg [⟨some 2, none, .alloc [.int .i64 0, .int .i64 0, .int .i64 0, .str [], .int .i64 0, .int .i64 0, .str [], .int .i64 0, .int .i64 0, .int .i64 0, .bool false, .bool false, .str [], .sl 1 [] (.exact 0), .sl 1 [] (.exact 0), .sl 1 [] (.exact 0), .str [], .bool false, .sl 8 [] (.exact 0), .str [], .int .i64 0, .bool false, .sl 2 [] (.exact 0), .sl 6 [] (.exact 0)]⟩] none)
 (.seq (.reg [⟨some 3, none, .load none (.t 0)⟩, ⟨some 4, none, .load (some 14) (.t 1)⟩, ⟨some 5, none, .mkfn (.func 101) [] [(.t 0), (.t 1)]⟩, ⟨some 6, none, .call 100 [(.t 3), (.t 4), (.t 5)]⟩, ⟨none, none, .store 24 (.t 2) (.t 6)⟩] none)
 .ret))
theorem f99 : FnIs Tryz.prog 99 7 c99 [.cell 2 (some 24)] := ⟨_, Tryz.func99, rfl, by kernel_rfl, rfl⟩
def c100 : AC := (.seq (.reg [⟨some 4, none, .box (.t 1)⟩, ⟨some 6, none, .alloc [.int .i64 0, .int .i64 0, .int .i64 0, .str [], .int .i64 0, .int .i64 0, .str [], .int .i64 0, .int .i64 0, .int .i64 0, .bool false, .bool false, .str [], .sl 1 [] (.exact 0), .sl 1 [] (.exact 0), .sl 1 [] (.exact 0), .str [], .bool false, .sl 8 [] (.exact 0), .str [], .int .i64 0, .bool false, .sl 2 [] (.exact 0), .sl 6 [] (.exact 0)]⟩] none)
 (.seq (.reg [⟨some 7, none, .alloc [.int .i64 0, .int .i64 0, .int .i64 0, .str [], .int .i64 0, .int .i64 0, .str [], .int .i64 0, .int .i64 0, .int .i64 0, .bool false, .bool false, .str [], .sl 1 [] (.exact 0), .sl 1 [] (.exact 0), .sl 1 [] (.exact 0), .str [], .bool false, .sl 8 [] (.exact 0), .str [], .int .i64 0, .bool false, .sl 2 [] (.exact 0), .sl 6 [] (.exact 0)]⟩] none)
 (.seq (.seq (.reg [⟨some 9, none, .faddr 0 (.t 4)⟩, ⟨some 10, none, .load none (.t 9)⟩] none)
 (.block 0 (.seq (.reg [⟨some 14, none, .bin .eql (.t 10) (.c (.int .i64 5))⟩, ⟨some 13, none, .mov (.t 14)⟩] none)
 (.cond (.t 13) (.reg [⟨some 15, none, .mov (.t 0)⟩, ⟨some 16, none, .faddr 2 (.t 4)⟩, ⟨some 17, none, .load none (.t 16)⟩, ⟨some 18, none, .call 21 [(.t 15), (.t 17)]⟩, ⟨some 19, none, .faddr 0 (.t 7)⟩, ⟨none, none, .store 1 (.t 19) (.t 18)⟩] none) (.seq (.reg [⟨some 21, none, .bin .eql (.t 10) (.c (.int .i64 6))⟩, ⟨some 20, none, .mov (.t 21)⟩] none)
 (.cond (.t 20) (.reg [⟨some 22, none, .mov (.t 0)⟩, ⟨some 23, none, .faddr 2 (.t 4)⟩, ⟨some 24, none, .load none (.t 23)⟩, ⟨some 25, none, .call 22 [(.t 22), (.t 24)]⟩, ⟨some 26, none, .faddr 0 (.t 7)⟩, ⟨none, none, .store 1 (.t 26) (.t 25)⟩] none) (.seq (.reg [⟨some 28, none, .bin .eql (.t 10) (.c (.int .i64 8))⟩, ⟨some 27, none, .mov (.t 28)⟩] none)
 (.cond (.t 27) (.reg [⟨some 29, none, .mov (.t 0)⟩, ⟨some 30, none, .faddr 2 (.t 4)⟩, ⟨some 31, none, .load none (.t 30)⟩, ⟨some 32, none, .faddr 12 (.t 4)⟩, ⟨some 33, none, .load none (.t 32)⟩, ⟨some 34, none, .bin .gtr (.t 33) (.c (.int .i64 0))⟩, ⟨some 35, none, .call 23 [(.t 29), (.t 31), (.t 34)]⟩, ⟨some 36, none, .faddr 0 (.t 7)⟩, ⟨none, none, .store 1 (.t 36) (.t 35)⟩] none) (.seq (.reg [⟨some 38, none, .bin .eql (.t 10) (.c (.int .i64 10))⟩, ⟨some 37, none, .mov (.t 38)⟩] none)
 (.cond (.t 37) (.seq (.reg [⟨some 39, none, .mov (.t 0)⟩, ⟨some 40, none, .call 145 [(.t 39)]⟩, ⟨some 41, none, .faddr 7 (.t 4)⟩, ⟨some 42, none, .load none (.t 41)⟩, ⟨some 43, none, .conv .s2b (.t 42)⟩, ⟨some 44, none, .call 49 [(.t 43)]⟩, ⟨some 45, none, .faddr 1 (.t 7)⟩, ⟨none, none, .store 1 (.t 45) (.t 40)⟩, ⟨some 46, none, .faddr 4 (.t 7)⟩, ⟨none, none, .store 2 (.t 46) (.t 44)⟩] (some [(1, 3), (1, 4)]))
 (.reg [⟨some 48, none, .mov (.t 0)⟩, ⟨some 49, none, .faddr 2 (.t 4)⟩, ⟨some 50, none, .load none (.t 49)⟩, ⟨some 51, none, .faddr 3 (.t 4)⟩, ⟨some 52, none, .load none (.t 51)⟩, ⟨some 53, none, .faddr 7 (.t 4)⟩, ⟨some 54, none, .load none (.t 53)⟩, ⟨some 55, none, .faddr 8 (.t 4)⟩, ⟨some 56, none, .load (some 3) (.t 55)⟩, ⟨some 57, none, .call 15 [(.t 48), (.t 50), (.t 52), (.t 54), (.t 56)]⟩, ⟨some 47, none, .mov (.t 57)⟩, ⟨some 58, none, .ext (.t 47) 0⟩, ⟨some 59, none, .ext (.t 47) 1⟩, ⟨some 60, none, .faddr 3 (.t 7)⟩, ⟨none, none, .store 1 (.t 60) (.t 58)⟩, ⟨some 61, none, .faddr 0 (.t 7)⟩, ⟨none, none, .store 1 (.t 61) (.t 59)⟩] none)) (.seq (.reg [⟨some 63, none, .bin .eql (.t 10) (.c (.int .i64 13))⟩, ⟨some 62, none, .mov (.t 63)⟩] none)
 (.cond (.t 62) (.seq (.reg [⟨some 64, none, .mov (.t 0)⟩, ⟨some 65, none, .call 145 [(.t 64)]⟩, ⟨some 8, none, .mov (.t 65)⟩] none)
 (.seq (.reg [⟨some 67, none, .mov (.t 0)⟩, ⟨some 68, none, .faddr 2 (.t 4)⟩, ⟨some 69, none, .load none (.t 68)⟩, ⟨some 70, none, .faddr 3 (.t 4)⟩, ⟨some 71, none, .load none (.t 70)⟩, ⟨some 72, none, .faddr 4 (.t 4)⟩, ⟨some 73, none, .load none (.t 72)⟩, ⟨some 74, none, .call 18 [(.t 67), (.t 69), (.t 71), (.t 73)]⟩, ⟨some 66, none, .mov (.t 74)⟩, ⟨some 75, none, .ext (.t 66) 0⟩, ⟨some 76, none, .ext (.t 66) 1⟩, ⟨some 77, none, .faddr 3 (.t 7)⟩, ⟨none, none, .store 1 (.t 77) (.t 75)⟩, ⟨some 78, none, .faddr 0 (.t 7)⟩, ⟨none, none, .store 1 (.t 78) (.t 76)⟩] none)
 (.seq (.reg [⟨some 79, none, .faddr 4 (.t 4)⟩, ⟨some 80, none, .load none (.t 79)⟩, ⟨some 81, none, .bin .eql (.t 80) (.c (.str []))⟩, ⟨some 82, none, .mov (.t 81)⟩, ⟨some 83, some (82, true), .faddr 3 (.t 7)⟩, ⟨some 84, some (82, true), .load none (.t 83)⟩, ⟨some 85, some (82, true), .bin .neq (.t 84) (.c (.str []))⟩, ⟨some 86, none, .pick (.t 82) (.t 85) (.c (.bool false))⟩] none)
 (.cond (.t 86) (.reg [⟨some 87, none, .mov (.t 8)⟩, ⟨some 88, none, .faddr 1 (.t 7)⟩, ⟨none, none, .store 1 (.t 88) (.t 87)⟩] none) .skip)))) (.seq (.reg [⟨some 11, none, .mov (.t 2)⟩, ⟨some 12, none, .callv (.t 11) []⟩, ⟨none, none, .store 24 (.t 6) (.t 12)⟩] none)
 .ret)))))))))))))
 (.seq (.reg [⟨some 89, none, .load (some 24) (.t 7)⟩, ⟨none, none, .store 24 (.t 6) (.t 89)⟩] none)
 .ret))))
theorem f100 : FnIs Tryz.prog 100 90 c100 [.cell 6 (some 24)] := ⟨_, Tryz.func100, rfl, by kernel_rfl, rfl⟩
def c101 : AC := (.seq (.reg [⟨some 2, none, .alloc [.int .i64 0, .int .i64 0, .int .i64 0, .str [], .int .i64 0, .int .i64 0, .str [], .int .i64 0, .int .i64 0, .int .i64 0, .bool false, .bool false, .str [], .sl 1 [] (.exact 0), .sl 1 [] (.exact 0), .sl 1 [] (.exact 0), .str [], .bool false, .sl 8 [] (.exact 0), .str [], .int .i64 0, .bool false, .sl 2 [] (.exact 0), .sl 6 [] (.exact 0)]⟩] none)
 (.seq (.reg [⟨some 3, none, .load none (.t 0)⟩, ⟨some 4, none, .load (some 14) (.t 1)⟩, ⟨some 5, none, .call 102 [(.t 3), (.t 4)]⟩, ⟨none, none, .store 24 (.t 2) (.t 5)⟩] none)
 .ret))
theorem f101 : FnIs Tryz.prog 101 6 c101 [.cell 2 (some 24)] := ⟨_, Tryz.func101, rfl, by kernel_rfl, rfl⟩
def c103 : AC := (.seq (.reg [⟨some 4, none, .mov (.c (.bool false))⟩] none)
 (.seq (.seq (.reg [⟨some 6, none, .mov (.t 0)⟩, ⟨some 7, none, .len false (.t 6)⟩, ⟨some 8, none, .mov (.t 1)⟩, ⟨some 9, none, .len false (.t 8)⟩, ⟨some 10, none, .bin .neq (.t 7) (.t 9)⟩] none)
 (.cond (.t 10) (.seq (.reg [⟨some 4, none, .mov (.c (.bool false))⟩] none)
 .ret) .skip))
 (.seq (.seq (.reg [⟨some 5, none, .mov (.c (.int .i64 0))⟩] none)
 (.block 0 (.loop (.seq (.seq (.reg [⟨some 11, none, .mov (.t 5)⟩, ⟨some 12, none, .mov (.t 0)⟩, ⟨some 13, none, .len false (.t 12)⟩, ⟨some 14, none, .bin .lss (.t 11) (.t 13)⟩] none)
 (.cond (.t 14) .skip (.exit 0)))
 (.seq (.block 1 (.seq (.reg [⟨some 17, none, .mov (.t 0)⟩, ⟨some 18, none, .mov (.t 5)⟩, ⟨some 19, none, .iaddr 1 (.t 17) (.t 18)⟩, ⟨some 20, none, .load none (.t 19)⟩, ⟨some 21, none, .mov (.t 1)⟩, ⟨some 22, none, .mov (.t 5)⟩, ⟨some 23, none, .iaddr 1 (.t 21) (.t 22)⟩, ⟨some 24, none, .load none (.t 23)⟩, ⟨some 25, none, .bin .neq (.t 20) (.t 24)⟩] (some [(3, 7)]))
 (.cond (.t 25) (.seq (.reg [⟨some 4, none, .mov (.c (.bool false))⟩] none)
 .ret) .skip)))
 (.reg [⟨some 15, none, .mov (.t 5)⟩, ⟨some 16, none, .bin .add (.t 15) (.c (.int .i64 1))⟩, ⟨some 5, none, .mov (.t 16)⟩] none))))))
 (.seq (.reg [⟨some 4, none, .mov (.c (.bool true))⟩] none)
 .ret))))
theorem f103 : FnIs Tryz.prog 103 26 c103 [.tmp 4] := ⟨_, Tryz.func103, rfl, by kernel_rfl, rfl⟩
def c104 : AC := (.seq (.reg [⟨some 2, none, .box (.t 0)⟩, ⟨some 3, none, .box (.t 1)⟩, ⟨some 4, none, .mov (.c (.bool false))⟩] none)
 (.seq (.reg [⟨some 5, none, .faddr 0 (.t 2)⟩, ⟨some 6, none, .load none (.t 5)⟩, ⟨some 7, none, .faddr 0 (.t 3)⟩, ⟨some 8, none, .load none (.t 7)⟩, ⟨some 9, none, .call 103 [(.t 6), (.t 8)]⟩, ⟨some 10, none, .mov (.t 9)⟩, ⟨some 11, some (10, true), .faddr 1 (.t 2)⟩, ⟨some 12, some (10, true), .load none (.t 11)⟩, ⟨some 13, some (10, true), .faddr 1 (.t 3)⟩, ⟨some 14, some (10, true), .load none (.t 13)⟩, ⟨some 15, some (10, true), .call 103 [(.t 12), (.t 14)]⟩, ⟨some 16, none, .pick (.t 10) (.t 15) (.c (.bool false))⟩, ⟨some 17, none, .mov (.t 16)⟩, ⟨some 18, some (17, true), .faddr 2 (.t 2)⟩, ⟨some 19, some (17, true), .load none (.t 18)⟩, ⟨some 20, some (17, true), .faddr 2 (.t 3)⟩, ⟨some 21, some (17, true), .load none (.t 20)⟩, ⟨some 22, some (17, true), .bin .eql (.t 19) (.t 21)⟩, ⟨some 23, none, .pick (.t 17) (.t 22) (.c (.bool false))⟩, ⟨some 24, none, .mov (.t 23)⟩, ⟨some 25, some (24, true), .faddr 3 (.t 2)⟩, ⟨some 26, some (24, true), .load none (.t 25)⟩, ⟨some 27, some (24, true), .faddr 3 (.t 3)⟩, ⟨some 28, some (24, true), .load none (.t 27)⟩, ⟨some 29, some (24, true), .eqB false (.t 26) (.t 28)⟩, ⟨some 30, none, .pick (.t 24) (.t 29) (.c (.bool false))⟩, ⟨some 4, none, .mov (.t 30)⟩] none)
 .ret))
theorem f104 : FnIs Tryz.prog 104 31 c104 [.tmp 4] := ⟨_, Tryz.func104, rfl, by kernel_rfl, rfl⟩
def c105 : AC := (.seq (.reg [⟨some 2, none, .box (.t 0)⟩, ⟨some 3, none, .box (.t 1)⟩, ⟨some 4, none, .mov (.c (.bool false))⟩] none)
 (.seq (.seq (.reg [⟨some 6, none, .faddr 0 (.t 2)⟩, ⟨some 7, none, .load none (.t 6)⟩, ⟨some 8, none, .len false (.t 7)⟩, ⟨some 9, none, .faddr 0 (.t 3)⟩, ⟨some 10, none, .load none (.t 9)⟩, ⟨some 11, none, .len false (.t 10)⟩, ⟨some 12, none, .bin .neq (.t 8) (.t 11)⟩, ⟨some 13, none, .mov (.t 12)⟩, ⟨some 14, some (13, false), .faddr 1 (.t 2)⟩, ⟨some 15, some (13, false), .load none (.t 14)⟩, ⟨some 16, some (13, false), .faddr 1 (.t 3)⟩, ⟨some 17, some (13, false), .load none (.t 16)⟩, ⟨some 18, some (13, false), .bin .neq (.t 15) (.t 17)⟩, ⟨some 19, none, .pick (.t 13) (.c (.bool true)) (.t 18)⟩, ⟨some 20, none, .mov (.t 19)⟩, ⟨some 21, some (20, false), .faddr 2 (.t 2)⟩, ⟨some 22, some (20, false), .load none (.t 21)⟩, ⟨some 23, some (20, false), .faddr 2 (.t 3)⟩, ⟨some 24, some (20, false), .load none (.t 23)⟩, ⟨some 25, some (20, false), .bin .neq (.t 22) (.t 24)⟩, ⟨some 26, none, .pick (.t 20) (.c (.bool true)) (.t 25)⟩, ⟨some 27, none, .mov (.t 26)⟩, ⟨some 28, some (27, false), .faddr 3 (.t 2)⟩, ⟨some 29, some (27, false), .load none (.t 28)⟩, ⟨some 30, some (27, false), .faddr 3 (.t 3)⟩, ⟨some 31, some (27, false), .load none (.t 30)⟩, ⟨some 32, some (27, false), .eqB true (.t 29) (.t 31)⟩, ⟨some 33, none, .pick (.t 27) (.c (.bool true)) (.t 32)⟩] none)
 (.cond (.t 33) (.seq (.reg [⟨some 4, none, .mov (.c (.bool false))⟩] none)
 .ret) .skip))
 (.seq (.seq (.reg [⟨some 5, none, .mov (.c (.int .i64 0))⟩] none)
 (.block 0 (.loop (.seq (.seq (.reg [⟨some 34, none, .mov (.t 5)⟩, ⟨some 35, none, .faddr 0 (.t 2)⟩, ⟨some 36, none, .load none (.t 35)⟩, ⟨some 37, none, .len false (.t 36)⟩, ⟨some 38, none, .bin .lss (.t 34) (.t 37)⟩] none)
 (.cond (.t 38) .skip (.exit 0)))
 (.seq (.block 1 (.seq (.reg [⟨some 41, none, .faddr 0 (.t 2)⟩, ⟨some 42, none, .load none (.t 41)⟩, ⟨some 43, none, .mov (.t 5)⟩, ⟨some 44, none, .iaddr 8 (.t 42) (.t 43)⟩, ⟨some 45, none, .load (some 8) (.t 44)⟩, ⟨some 46, none, .faddr 0 (.t 3)⟩, ⟨some 47, none, .load none (.t 46)⟩, ⟨some 48, none, .mov (.t 5)⟩, ⟨some 49, none, .iaddr 8 (.t 47) (.t 48)⟩, ⟨some 50, none, .load (some 8) (.t 49)⟩, ⟨some 51, none, .eqA true [.str, .int, .bool, .int, .int, .int, .bool, .bool] (.t 45) (.t 50)⟩] (some [(1, 6), (4, 6), (1, 9), (4, 9)]))
 (.cond (.t 51) (.seq (.reg [⟨some 4, none, .mov (.c (.bool false))⟩] none)
 .ret) .skip)))
 (.reg [⟨some 39, none, .mov (.t 5)⟩, ⟨some 40, none, .bin .add (.t 39) (.c (.int .i64 1))⟩, ⟨some 5, none, .mov (.t 40)⟩] none))))))
 (.seq (.reg [⟨some 4, none, .mov (.c (.bool true))⟩] none)
 .ret))))
theorem f105 : FnIs Tryz.prog 105 52 c105 [.tmp 4] := ⟨_, Tryz.func105, rfl, by kernel_rfl, rfl⟩
def c106 : AC := (.seq (.reg [⟨some 4, none, .mov (.c (.bool false))⟩] none)
 (.seq (.seq (.reg [⟨some 6, none, .mov (.t 0)⟩, ⟨some 7, none, .len false (.t 6)⟩, ⟨some 8, none, .mov (.t 1)⟩, ⟨some 9, none, .len false (.t 8)⟩, ⟨some 10, none, .bin .neq (.t 7) (.t 9)⟩] none)
 (.cond (.t 10) (.seq (.reg [⟨some 4, none, .mov (.c (.bool false))⟩] none)
 .ret) .skip))
 (.seq (.seq (.reg [⟨some 5, none, .mov (.c (.int .i64 0))⟩] none)
 (.block 0 (.loop (.seq (.seq (.reg [⟨some 11, none, .mov (.t 5)⟩, ⟨some 12, none, .mov (.t 0)⟩, ⟨some 13, none, .len false (.t 12)⟩, ⟨some 14, none, .bin .lss (.t 11) (.t 13)⟩] none)
 (.cond (.t 14) .skip (.exit 0)))
 (.seq (.block 1 (.seq (.reg [⟨some 17, none, .mov (.t 0)⟩, ⟨some 18, none, .mov (.t 5)⟩, ⟨some 19, none, .iaddr 2 (.t 17) (.t 18)⟩, ⟨some 20, none, .load (some 2) (.t 19)⟩, ⟨some 21, none, .mov (.t 1)⟩, ⟨some 22, none, .mov (.t 5)⟩, ⟨some 23, none, .iaddr 2 (.t 21) (.t 22)⟩, ⟨some 24, none, .load (some 2) (.t 23)⟩, ⟨some 25, none, .eqA true [.str, .int] (.t 20) (.t 24)⟩] (some [(3, 7)]))
 (.cond (.t 25) (.seq (.reg [⟨some 4, none, .mov (.c (.bool false))⟩] none)
 .ret) .skip)))
 (.reg [⟨some 15, none, .mov (.t 5)⟩, ⟨some 16, none, .bin .add (.t 15) (.c (.int .i64 1))⟩, ⟨some 5, none, .mov (.t 16)⟩] none))))))
 (.seq (.reg [⟨some 4, none, .mov (.c (.bool true))⟩] none)
 .ret))))
theorem f106 : FnIs Tryz.prog 106 26 c106 [.tmp 4] := ⟨_, Tryz.func106, rfl, by kernel_rfl, rfl⟩
def c107 : AC := (.seq (.reg [⟨some 4, none, .mov (.c (.bool false))⟩] none)
 (.seq (.seq (.reg [⟨some 6, none, .mov (.t 0)⟩, ⟨some 7, none, .len false (.t 6)⟩, ⟨some 8, none, .mov (.t 1)⟩, ⟨some 9, none, .len false (.t 8)⟩, ⟨some 10, none, .bin .neq (.t 7) (.t 9)⟩] none)
 (.cond (.t 10) (.seq (.reg [⟨some 4, none, .mov (.c (.bool false))⟩] none)
 .ret) .skip))
 (.seq (.seq (.reg [⟨some 5, none, .mov (.c (.int .i64 0))⟩] none)
 (.block 0 (.loop (.seq (.seq (.reg [⟨some 11, none, .mov (.t 5)⟩, ⟨some 12, none, .mov (.t 0)⟩, ⟨some 13, none, .len false (.t 12)⟩, ⟨some 14, none, .bin .lss (.t 11) (.t 13)⟩] none)
 (.cond (.t 14) .skip (.exit 0)))
 (.seq (.block 1 (.seq (.reg [⟨some 17, none, .mov (.t 0)⟩, ⟨some 18, none, .mov (.t 5)⟩, ⟨some 19, none, .iaddr 6 (.t 17) (.t 18)⟩, ⟨some 20, none, .load (some 6) (.t 19)⟩, ⟨some 21, none, .mov (.t 1)⟩, ⟨some 22, none, .mov (.t 5)⟩, ⟨some 23, none, .iaddr 6 (.t 21) (.t 22)⟩, ⟨some 24, none, .load (some 6) (.t 23)⟩, ⟨some 25, none, .eqA true [.int, .int, .int, .int, .bool, .bool] (.t 20) (.t 24)⟩] (some [(3, 7)]))
 (.cond (.t 25) (.seq (.reg [⟨some 4, none, .mov (.c (.bool false))⟩] none)
 .ret) .skip)))
 (.reg [⟨some 15, none, .mov (.t 5)⟩, ⟨some 16, none, .bin .add (.t 15) (.c (.int .i64 1))⟩, ⟨some 5, none, .mov (.t 16)⟩] none))))))
 (.seq (.reg [⟨some 4, none, .mov (.c (.bool true))⟩] none)
 .ret))))
theorem f107 : FnIs Tryz.prog 107 26 c107 [.tmp 4] := ⟨_, Tryz.func107, rfl, by kernel_rfl, rfl⟩
def c108 : AC := (.seq (.reg [⟨some 4, none, .mov (.c (.sc (.complex .f64 0 0)))⟩] none)
 (.seq (.reg [⟨some 7, none, .mov (.t 0)⟩, ⟨some 8, none, .raw (.cpart true) [(.t 7)]⟩, ⟨some 9, none, .mov (.t 1)⟩, ⟨some 10, none, .raw (.cpart true) [(.t 9)]⟩, ⟨some 11, none, .bin .mul (.t 8) (.t 10)⟩, ⟨some 12, none, .mov (.t 0)⟩, ⟨some 13, none, .raw (.cpart false) [(.t 12)]⟩, ⟨some 14, none, .mov (.t 1)⟩, ⟨some 15, none, .raw (.cpart false) [(.t 14)]⟩, ⟨some 16, none, .bin .mul (.t 13) (.t 15)⟩, ⟨some 17, none, .bin .sub (.t 11) (.t 16)⟩, ⟨some 5, none, .mov (.t 17)⟩] none)
 (.seq (.reg [⟨some 18, none, .mov (.t 0)⟩, ⟨some 19, none, .raw (.cpart true) [(.t 18)]⟩, ⟨some 20, none, .mov (.t 1)⟩, ⟨some 21, none, .raw (.cpart false) [(.t 20)]⟩, ⟨some 22, none, .bin .mul (.t 19) (.t 21)⟩, ⟨some 23, none, .mov (.t 0)⟩, ⟨some 24, none, .raw (.cpart false) [(.t 23)]⟩, ⟨some 25, none, .mov (.t 1)⟩, ⟨some 26, none, .raw (.cpart true) [(.t 25)]⟩, ⟨some 27, none, .bin .mul (.t 24) (.t 26)⟩, ⟨some 28, none, .bin .add (.t 22) (.t 27)⟩, ⟨some 6, none, .mov (.t 28)⟩] none)
 (.seq (.reg [⟨some 29, none, .mov (.t 5)⟩, ⟨some 30, none, .mov (.t 6)⟩, ⟨some 31, none, .raw .cplx [(.t 29), (.t 30)]⟩, ⟨some 32, none, .call 109 [(.t 31)]⟩, ⟨some 4, none, .mov (.t 32)⟩] none)
 .ret))))
theorem f108 : FnIs Tryz.prog 108 33 c108 [.tmp 4] := ⟨_, Tryz.func108, rfl, by kernel_rfl, rfl⟩
def c109 : AC := (.seq (.reg [⟨some 2, none, .mov (.c (.sc (.complex .f64 0 0)))⟩] none)
 (.seq (.reg [⟨some 3, none, .mov (.t 0)⟩, ⟨some 4, none, .raw (.cpart true) [(.t 3)]⟩, ⟨some 5, none, .call 146 [(.t 4)]⟩, ⟨some 6, none, .mov (.t 0)⟩, ⟨some 7, none, .raw (.cpart false) [(.t 6)]⟩, ⟨some 8, none, .call 146 [(.t 7)]⟩, ⟨some 9, none, .raw .cplx [(.t 5), (.t 8)]⟩, ⟨some 2, none, .mov (.t 9)⟩] none)
 .ret))
theorem f109 : FnIs Tryz.prog 109 10 c109 [.tmp 2] := ⟨_, Tryz.func109, rfl, by kernel_rfl, rfl⟩
def c110 : AC := (.seq (.reg [⟨some 2, none, .alloc [.int .i64 0, .int .i64 0]⟩] none)
 (.seq (.reg [⟨some 3, none, .mov (.t 0)⟩, ⟨some 4, none, .raw (.cpart true) [(.t 3)]⟩, ⟨some 5, none, .raw (.f2i .i64) [(.t 4)]⟩, ⟨some 6, none, .mov (.t 0)⟩, ⟨some 7, none, .raw (.cpart false) [(.t 6)]⟩, ⟨some 8, none, .raw (.f2i .i64) [(.t 7)]⟩, ⟨some 9, none, .build [.int .i64 0, .int .i64 0] [(0, 1, (.t 5)), (1, 1, (.t 8))]⟩, ⟨none, none, .store 2 (.t 2) (.t 9)⟩] none)
 .ret))
theorem f110 : FnIs Tryz.prog 110 10 c110 [.cell 2 (some 2)] := ⟨_, Tryz.func110, rfl, by kernel_rfl, rfl⟩
def c111 : AC := (.seq (.reg [⟨some 4, none, .mov (.c (.int .i64 0))⟩] none)
 (.seq (.block 0 (.seq (.reg [⟨some 6, none, .mov (.t 0)⟩, ⟨some 7, none, .call 147 [(.t 6)]⟩, ⟨some 8, none, .un .not (.t 7)⟩, ⟨some 5, none, .mov (.t 8)⟩] none)
 (.cond (.t 5) (.seq (.reg [⟨some 4, none, .mov (.c (.int .i64 1))⟩] none)
 .ret) (.seq (.reg [⟨some 10, none, .mov (.t 1)⟩, ⟨some 11, none, .mov (.t 0)⟩, ⟨some 12, none, .nilck (.t 11)⟩, ⟨some 13, none, .faddr 3 (.t 12)⟩, ⟨some 14, none, .load none (.t 13)⟩, ⟨some 15, none, .bin .lss (.t 10) (.t 14)⟩, ⟨some 9, none, .mov (.t 15)⟩] none)
 (.cond (.t 9) (.seq (.reg [⟨some 4, none, .mov (.c (.int .i64 12))⟩] none)
 .ret) (.seq (.reg [⟨some 17, none, .mov (.t 1)⟩, ⟨some 18, none, .mov (.t 0)⟩, ⟨some 19, none, .nilck (.t 18)⟩, ⟨some 20, none, .faddr 2 (.t 19)⟩, ⟨some 21, none, .load none (.t 20)⟩, ⟨some 22, none, .bin .gtr (.t 17) (.t 21)⟩, ⟨some 16, none, .mov (.t 22)⟩] none)
 (.cond (.t 16) (.seq (.reg [⟨some 4, none, .mov (.c (.int .i64 13))⟩] none)
 .ret) .skip)))))))
 (.seq (.reg [⟨some 4, none, .mov (.c (.int .i64 0))⟩] none)
 .ret)))
theorem f111 : FnIs Tryz.prog 111 23 c111 [.tmp 4] := ⟨_, Tryz.func111, rfl, by kernel_rfl, rfl⟩
def c112 : AC := (.seq (.reg [⟨some 4, none, .mov (.c (.str []))⟩, ⟨some 5, none, .mov (.c (.bool false))⟩] none)
 (.seq (.seq (.reg [⟨some 7, none, .mov (.t 0)⟩, ⟨some 8, none, .call 148 [(.t 7)]⟩, ⟨some 9, none, .bin .neq (.t 8) (.c (.int .i64 0))⟩] none)
 (.cond (.t 9) (.seq (.reg [⟨some 4, none, .mov (.c (.str []))⟩, ⟨some 5, none, .mov (.c (.bool false))⟩] none)
 .ret) .skip))
 (.seq (.reg [⟨some 10, none, .mov (.t 0)⟩, ⟨some 11, none, .mov (.t 1)⟩, ⟨some 12, none, .call 149 [(.t 10), (.t 11)]⟩, ⟨some 6, none, .mov (.t 12)⟩] none)
 (.seq (.seq (.reg [⟨some 13, none, .mov (.t 6)⟩, ⟨some 14, none, .mov (.t 0)⟩, ⟨some 15, none, .len false (.t 14)⟩, ⟨some 16, none, .bin .eql (.t 13) (.t 15)⟩] none)
 (.cond (.t 16) (.seq (.reg [⟨some 4, none, .mov (.c (.str []))⟩, ⟨some 5, none, .mov (.c (.bool false))⟩] none)
 .ret) .skip))
 (.seq (.reg [⟨some 17, none, .mov (.t 0)⟩, ⟨some 18, none, .mov (.t 6)⟩, ⟨some 19, none, .iaddr 3 (.t 17) (.t 18)⟩, ⟨some 20, none, .faddr 1 (.t 19)⟩, ⟨some 21, none, .load none (.t 20)⟩, ⟨some 22, none, .mov (.t 0)⟩, ⟨some 23, none, .mov (.t 6)⟩, ⟨some 24, none, .iaddr 3 (.t 22) (.t 23)⟩, ⟨some 25, none, .faddr 2 (.t 24)⟩, ⟨some 26, none, .load none (.t 25)⟩, ⟨some 27, none, .un .not (.t 26)⟩, ⟨some 4, none, .mov (.t 21)⟩, ⟨some 5, none, .mov (.t 27)⟩] (some [(4, 9)]))
 .ret)))))
theorem f112 : FnIs Tryz.prog 112 28 c112 [.tmp 4, .tmp 5] := ⟨_, Tryz.func112, rfl, by kernel_rfl, rfl⟩
def c113 : AC := (.seq (.reg [⟨some 2, none, .mov (.c (.bool false))⟩] none)
 (.seq (.reg [⟨some 3, none, .mov (.t 0)⟩, ⟨some 4, none, .eqP true (.t 3) (.c (.sc (.pointer none)))⟩, ⟨some 5, none, .mov (.t 4)⟩, ⟨some 6, some (5, true), .mov (.t 0)⟩, ⟨some 7, some (5, true), .nilck (.t 6)⟩, ⟨some 8, some (5, true), .faddr 0 (.t 7)⟩, ⟨some 9, some (5, true), .load none (.t 8)⟩, ⟨some 10, some (5, true), .eqP true (.t 9) (.c (.sc (.pointer none)))⟩, ⟨some 11, none, .pick (.t 5) (.t 10) (.c (.bool false))⟩, ⟨some 2, none, .mov (.t 11)⟩] none)
 .ret))
theorem f113 : FnIs Tryz.prog 113 12 c113 [.tmp 2] := ⟨_, Tryz.func113, rfl, by kernel_rfl, rfl⟩
def c114 : AC := (.seq (.reg [⟨some 1, none, .box (.t 0)⟩, ⟨some 2, none, .mov (.c (.bool false))⟩] none)
 (.seq (.seq (.reg [⟨some 5, none, .faddr 3 (.t 1)⟩, ⟨some 6, none, .load none (.t 5)⟩, ⟨some 7, none, .len false (.t 6)⟩, ⟨some 8, none, .mov (.c (.int .i64 0))⟩] none)
 (.block 0 (.loop (.seq (.reg [⟨some 9, none, .bin .lss (.t 8) (.t 7)⟩] none)
 (.seq (.cond (.t 9) .skip (.exit 0))
 (.seq (.block 1 (.seq (.reg [⟨some 10, none, .iaddr 1 (.t 6) (.t 8)⟩, ⟨some 11, none, .load none (.t 10)⟩, ⟨some 4, none, .mov (.t 11)⟩] none)
 (.seq (.reg [⟨some 12, none, .mov (.t 4)⟩, ⟨some 13, none, .bin .lss (.t 12) (.c (.int .i64 0))⟩] none)
 (.cond (.t 13) (.seq (.reg [⟨some 2, none, .mov (.c (.bool false))⟩] none)
 .ret) .skip))))
 (.reg [⟨some 14, none, .bin .add (.t 8) (.c (.int .i64 1))⟩, ⟨some 8, none, .mov (.t 14)⟩] none)))))))
 (.seq (.reg [⟨some 15, none, .faddr 0 (.t 1)⟩, ⟨some 16, none, .load none (.t 15)⟩, ⟨some 17, none, .call 138 [(.t 16)]⟩, ⟨some 18, none, .faddr 3 (.t 1)⟩, ⟨some 19, none, .load none (.t 18)⟩, ⟨some 20, none, .len false (.t 19)⟩, ⟨some 21, none, .bin .geq (.t 17) (.t 20)⟩, ⟨some 22, none, .mov (.t 21)⟩, ⟨some 23, some (22, true), .faddr 0 (.t 1)⟩, ⟨some 24, some (22, true), .load none (.t 23)⟩, ⟨some 25, some (22, true), .bin .neq (.t 24) (.c (.int .i64 1))⟩, ⟨some 26, some (22, true), .mov (.t 25)⟩, ⟨some 27, some (26, false), .faddr 2 (.t 1)⟩, ⟨some 28, some (26, false), .load none (.t 27)⟩, ⟨some 29, some (26, false), .bin .eql (.t 28) (.c (.str []))⟩, ⟨some 30, some (22, true), .pick (.t 26) (.c (.bool true)) (.t 29)⟩, ⟨some 31, none, .pick (.t 22) (.t 30) (.c (.bool false))⟩, ⟨some 2, none, .mov (.t 31)⟩] (some [(1, 4), (2, 4)]))
 .ret)))
theorem f114 : FnIs Tryz.prog 114 32 c114 [.tmp 2] := ⟨_, Tryz.func114, rfl, by kernel_rfl, rfl⟩
def c115 : AC := (.seq (.reg [⟨some 2, none, .box (.t 0)⟩, ⟨some 4, none, .mov (.c (.str []))⟩] none)
 (.seq (.reg [⟨some 12, none, .faddr 0 (.t 2)⟩, ⟨some 13, none, .load none (.t 12)⟩, ⟨some 14, none, .bin .sub (.t 13) (.c (.int .i64 1))⟩, ⟨some 15, none, .faddr 0 (.t 2)⟩, ⟨some 16, none, .load none (.t 15)⟩, ⟨some 17, none, .slc true 0 (.c (.str [98, 111, 99, 117, 112, 113])) (some (.t 14)) (some (.t 16)) none⟩, ⟨some 18, none, .call 150 [(.t 17)]⟩, ⟨some 19, none, .buildSl 3 [(.t 18)]⟩, ⟨some 5, none, .mov (.t 19)⟩] none)
 (.seq (.seq (.reg [⟨some 20, none, .mov (.t 1)⟩, ⟨some 21, none, .len false (.t 20)⟩, ⟨some 22, none, .mov (.c (.int .i64 0))⟩] none)
 (.block 0 (.loop (.seq (.reg [⟨some 23, none, .bin .lss (.t 22) (.t 21)⟩] none)
 (.seq (.cond (.t 23) .skip (.exit 0))
 (.seq (.block 1 (.seq (.reg [⟨some 24, none, .iaddr 1 (.t 20) (.t 22)⟩, ⟨some 25, none, .load none (.t 24)⟩, ⟨some 7, none, .mov (.t 25)⟩] none)
 (.seq (.reg [⟨some 26, none, .mov (.t 7)⟩, ⟨some 27, none, .bin .neq (.t 26) (.c (.str []))⟩] none)
 (.cond (.t 27) (.reg [⟨some 28, none, .mov (.t 5)⟩, ⟨some 29, none, .mov (.t 7)⟩, ⟨some 30, none, .call 150 [(.t 29)]⟩, ⟨some 31, none, .buildSl 3 [(.t 30)]⟩, ⟨some 32, none, .app false 3 32 (.t 28) (.t 31)⟩, ⟨some 5, none, .mov (.t 32)⟩] none) .skip))))
 (.reg [⟨some 33, none, .bin .add (.t 22) (.c (.int .i64 1))⟩, ⟨some 22, none, .mov (.t 33)⟩] none)))))))
 (.seq (.seq (.reg [⟨some 34, none, .faddr 3 (.t 2)⟩, ⟨some 35, none, .load none (.t 34)⟩, ⟨some 36, none, .len false (.t 35)⟩, ⟨some 37, none, .mov (.c (.int .i64 0))⟩] none)
 (.block 2 (.loop (.seq (.reg [⟨some 38, none, .bin .lss (.t 37) (.t 36)⟩] none)
 (.seq (.cond (.t 38) .skip (.exit 2))
 (.seq (.block 3 (.seq (.reg [⟨some 39, none, .iaddr 1 (.t 35) (.t 37)⟩, ⟨some 40, none, .load none (.t 39)⟩, ⟨some 9, none, .mov (.t 40)⟩] none)
 (.reg [⟨some 41, none, .mov (.t 5)⟩, ⟨some 42, none, .faddr 0 (.t 2)⟩, ⟨some 43, none, .load none (.t 42)⟩, ⟨some 44, none, .mov (.t 9)⟩, ⟨some 45, none, .call 151 [(.t 43), (.t 44)]⟩, ⟨some 46, none, .buildSl 3 [(.t 45)]⟩, ⟨some 47, none, .app false 3 32 (.t 41) (.t 46)⟩, ⟨some 5, none, .mov (.t 47)⟩] none)))
 (.reg [⟨some 48, none, .bin .add (.t 37) (.c (.int .i64 1))⟩, ⟨some 37, none, .mov (.t 48)⟩] none)))))))
 (.seq (.reg [⟨some 50, none, .mov (.t 5)⟩, ⟨some 51, none, .call 152 [(.t 50)]⟩, ⟨some 49, none, .mov (.t 51)⟩, ⟨some 52, none, .ext (.t 49) 0⟩, ⟨some 53, none, .ext (.t 49) 1⟩, ⟨some 10, none, .mov (.t 52)⟩, ⟨some 11, none, .mov (.t 53)⟩] none)
 (.seq (.reg [⟨some 54, none, .mov (.t 10)⟩, ⟨some 4, none, .mov (.t 54)⟩] none)
 .ret))))))
theorem f115 : FnIs Tryz.prog 115 55 c115 [.tmp 4] := ⟨_, Tryz.func115, rfl, by kernel_rfl, rfl⟩
def c116 : AC := (.seq (.reg [⟨some 2, none, .mov (.c (.str []))⟩] none)
 (.seq (.reg [⟨some 3, none, .mov (.t 0)⟩, ⟨some 4, none, .bin .add (.t 3) (.c (.str [255]))⟩, ⟨some 2, none, .mov (.t 4)⟩] none)
 .ret))
theorem f116 : FnIs Tryz.prog 116 5 c116 [.tmp 2] := ⟨_, Tryz.func116, rfl, by kernel_rfl, rfl⟩
def c117 : AC := (.seq (.reg [⟨some 4, none, .mov (.c (.sl 2 [] (.exact 0)))⟩, ⟨some 5, none, .mov (.c (.int .i64 0))⟩] none)
 (.seq (.reg [⟨some 6, none, .mov (.c (.sl 2 [] (.exact 0)))⟩] none)
 (.seq (.seq (.reg [⟨some 10, none, .mov (.t 0)⟩, ⟨some 11, none, .call 51 [(.t 10)]⟩, ⟨some 7, none, .mov (.t 11)⟩] none)
 (.seq (.reg [⟨some 12, none, .mov (.t 7)⟩, ⟨some 13, none, .bin .neq (.t 12) (.c (.int .i64 0))⟩] none)
 (.cond (.t 13) (.seq (.reg [⟨some 14, none, .mov (.t 6)⟩, ⟨some 15, none, .mov (.t 7)⟩, ⟨some 4, none, .mov (.t 14)⟩, ⟨some 5, none, .mov (.t 15)⟩] none)
 .ret) .skip)))
 (.seq (.reg [⟨some 17, none, .mov (.t 1)⟩, ⟨some 18, none, .callv (.t 17) []⟩, ⟨some 16, none, .mov (.t 18)⟩, ⟨some 19, none, .ext (.t 16) 0⟩, ⟨some 20, none, .ext (.t 16) 1⟩, ⟨some 8, none, .mov (.t 19)⟩, ⟨some 9, none, .mov (.t 20)⟩] none)
 (.seq (.seq (.reg [⟨some 21, none, .mov (.t 9)⟩, ⟨some 22, none, .bin .neq (.t 21) (.c (.int .i64 0))⟩] none)
 (.cond (.t 22) (.seq (.reg [⟨some 23, none, .mov (.t 6)⟩, ⟨some 24, none, .mov (.t 9)⟩, ⟨some 4, none, .mov (.t 23)⟩, ⟨some 5, none, .mov (.t 24)⟩] none)
 .ret) .skip))
 (.seq (.reg [⟨some 25, none, .mov (.t 8)⟩, ⟨some 4, none, .mov (.t 25)⟩, ⟨some 5, none, .mov (.c (.int .i64 0))⟩] none)
 .ret))))))
theorem f117 : FnIs Tryz.prog 117 26 c117 [.tmp 4, .tmp 5] := ⟨_, Tryz.func117, rfl, by kernel_rfl, rfl⟩
def c118 : AC := (.seq (.reg [⟨some 4, none, .mov (.c (.sl 2 [] (.exact 0)))⟩, ⟨some 5, none, .mov (.c (.int .i64 0))⟩] none)
 (.seq (.reg [⟨some 10, none, .load none (.t 0)⟩, ⟨some 11, none, .nilck (.t 10)⟩, ⟨some 12, none, .faddr 0 (.t 11)⟩, ⟨some 13, none, .load none (.t 12)⟩, ⟨some 14, none, .load none (.t 1)⟩, ⟨some 15, none, .load none (.t 2)⟩, ⟨some 16, none, .load none (.t 0)⟩, ⟨some 17, none, .nilck (.t 16)⟩, ⟨some 18, none, .faddr 1 (.t 17)⟩, ⟨some 19, none, .load none (.t 18)⟩, ⟨some 20, none, .call 119 [(.t 13), (.t 14), (.t 15), (.t 19), (.c (.int .i64 (-1)))]⟩, ⟨some 9, none, .mov (.t 20)⟩, ⟨some 21, none, .ext (.t 9) 0⟩, ⟨some 22, none, .ext (.t 9) 1⟩, ⟨some 6, none, .mov (.t 21)⟩, ⟨some 7, none, .mov (.t 22)⟩] (some [(0, 4), (3, 4), (0, 5), (3, 5), (4, 5), (0, 6), (3, 6), (4, 6), (5, 6), (0, 9), (3, 9), (4, 9), (5, 9)]))
 (.seq (.seq (.reg [⟨some 23, none, .mov (.t 7)⟩, ⟨some 24, none, .bin .neq (.t 23) (.c (.int .i64 0))⟩, ⟨some 25, none, .mov (.t 24)⟩, ⟨some 26, some (25, false), .load none (.t 3)⟩, ⟨some 27, some (25, false), .bin .eql (.t 26) (.c (.int .i64 0))⟩, ⟨some 28, none, .pick (.t 25) (.c (.bool true)) (.t 27)⟩] none)
 (.cond (.t 28) (.seq (.reg [⟨some 29, none, .mov (.t 7)⟩, ⟨some 4, none, .mov (.c (.sl 2 [] (.exact 0)))⟩, ⟨some 5, none, .mov (.t 29)⟩] none)
 .ret) .skip))
 (.seq (.seq (.reg [⟨some 30, none, .load none (.t 2)⟩, ⟨some 31, none, .bin .eql (.t 30) (.c (.str []))⟩, ⟨some 32, none, .mov (.t 31)⟩, ⟨some 33, some (32, false), .load none (.t 1)⟩, ⟨some 34, some (32, false), .load none (.t 2)⟩, ⟨some 35, some (32, false), .bin .lss (.t 33) (.t 34)⟩, ⟨some 36, none, .pick (.t 32) (.c (.bool true)) (.t 35)⟩] none)
 (.cond (.t 36) (.reg [⟨some 37, none, .load none (.t 0)⟩, ⟨some 38, none, .mov (.t 6)⟩, ⟨some 39, none, .load none (.t 1)⟩, ⟨some 40, none, .load none (.t 2)⟩, ⟨some 41, none, .call 120 [(.t 37), (.t 38), (.t 39), (.t 40)]⟩, ⟨some 6, none, .mov (.t 41)⟩] none) .skip))
 (.seq (.seq (.reg [⟨some 42, none, .load none (.t 3)⟩, ⟨some 43, none, .bin .gtr (.t 42) (.c (.int .i64 0))⟩, ⟨some 44, none, .mov (.t 43)⟩, ⟨some 45, some (44, true), .mov (.t 6)⟩, ⟨some 46, some (44, true), .len false (.t 45)⟩, ⟨some 47, some (44, true), .load none (.t 3)⟩, ⟨some 48, some (44, true), .bin .geq (.t 46) (.t 47)⟩, ⟨some 49, none, .pick (.t 44) (.t 48) (.c (.bool false))⟩] none)
 (.cond (.t 49) (.seq (.reg [⟨some 50, none, .mov (.t 6)⟩, ⟨some 51, none, .load none (.t 3)⟩, ⟨some 52, none, .slc false 2 (.t 50) none (some (.t 51)) none⟩, ⟨some 6, none, .mov (.t 52)⟩] none)
 (.reg [⟨some 53, none, .mov (.t 6)⟩, ⟨some 54, none, .load none (.t 3)⟩, ⟨some 55, none, .bin .sub (.t 54) (.c (.int .i64 1))⟩, ⟨some 56, none, .iaddr 2 (.t 53) (.t 55)⟩, ⟨some 57, none, .faddr 0 (.t 56)⟩, ⟨some 58, none, .load none (.t 57)⟩, ⟨some 59, none, .bin .add (.t 58) (.c (.str [0]))⟩, ⟨none, none, .store 1 (.t 2) (.t 59)⟩] none)) .skip))
 (.seq (.reg [⟨some 61, none, .load none (.t 0)⟩, ⟨some 62, none, .nilck (.t 61)⟩, ⟨some 63, none, .faddr 4 (.t 62)⟩, ⟨some 64, none, .load (some 2) (.t 63)⟩, ⟨some 65, none, .load none (.t 1)⟩, ⟨some 66, none, .load none (.t 2)⟩, ⟨some 67, none, .call 121 [(.t 64), (.t 65), (.t 66)]⟩, ⟨some 60, none, .mov (.t 67)⟩, ⟨some 68, none, .ext (.t 60) 0⟩, ⟨some 69, none, .ext (.t 60) 1⟩, ⟨some 8, none, .alloc [.sl 1 [] (.exact 0), .sl 2 [] (.exact 0)]⟩, ⟨none, none, .store 2 (.t 8) (.t 68)⟩, ⟨some 7, none, .mov (.t 69)⟩] (some [(0, 4), (3, 4), (0, 5), (3, 5), (4, 5), (0, 10), (3, 10), (4, 10), (5, 10), (6, 10)]))
 (.seq (.seq (.reg [⟨some 70, none, .mov (.t 7)⟩, ⟨some 71, none, .bin .neq (.t 70) (.c (.int .i64 0))⟩] none)
 (.cond (.t 71) (.seq (.reg [⟨some 72, none, .mov (.t 7)⟩, ⟨some 4, none, .mov (.c (.sl 2 [] (.exact 0)))⟩, ⟨some 5, none, .mov (.t 72)⟩] none)
 .ret) .skip))
 (.seq (.reg [⟨some 73, none, .load none (.t 0)⟩, ⟨some 74, none, .load (some 2) (.t 8)⟩, ⟨some 75, none, .nilck (.t 73)⟩, ⟨some 76, none, .faddr 4 (.t 75)⟩, ⟨none, none, .store 2 (.t 76) (.t 74)⟩] none)
 (.seq (.reg [⟨some 77, none, .mov (.t 6)⟩, ⟨some 4, none, .mov (.t 77)⟩, ⟨some 5, none, .mov (.c (.int .i64 0))⟩] none)
 .ret)))))))))
theorem f118 : FnIs Tryz.prog 118 78 c118 [.tmp 4, .tmp 5] := ⟨_, Tryz.func118, rfl, by kernel_rfl, rfl⟩
def c119 : AC := (.seq (.reg [⟨some 5, none, .box (.t 0)⟩, ⟨some 8, none, .box (.t 3)⟩, ⟨some 9, none, .box (.t 4)⟩, ⟨some 10, none, .mov (.c (.sl 2 [] (.exact 0)))⟩, ⟨some 11, none, .mov (.c (.int .i64 0))⟩] none)
 (.seq (.seq (.reg [⟨some 17, none, .load none (.t 5)⟩, ⟨some 18, none, .load none (.t 8)⟩, ⟨some 19, none, .call 111 [(.t 17), (.t 18)]⟩, ⟨some 12, none, .mov (.t 19)⟩] none)
 (.seq (.reg [⟨some 20, none, .mov (.t 12)⟩, ⟨some 21, none, .bin .neq (.t 20) (.c (.int .i64 0))⟩] none)
 (.cond (.t 21) (.seq (.reg [⟨some 22, none, .mov (.t 12)⟩, ⟨some 10, none, .mov (.c (.sl 2 [] (.exact 0)))⟩, ⟨some 11, none, .mov (.t 22)⟩] none)
 .ret) .skip)))
 (.seq (.reg [⟨some 13, none, .alloc [.sl 2 [] (.exact 0)]⟩] none)
 (.seq (.seq (.reg [⟨some 23, none, .load none (.t 5)⟩, ⟨some 24, none, .mov (.t 1)⟩, ⟨some 25, none, .mov (.t 2)⟩, ⟨some 26, none, .call 153 [(.t 23), (.t 24), (.t 25)]⟩] none)
 (.block 0 (.rfun (.t 26) [27] (.reg [⟨some 14, none, .mov (.t 27)⟩] none)
 (.block 1 (.seq (.seq (.reg [⟨some 28, none, .load none (.t 9)⟩, ⟨some 29, none, .bin .geq (.t 28) (.c (.int .i64 0))⟩, ⟨some 30, none, .mov (.t 29)⟩, ⟨some 31, some (30, true), .load none (.t 13)⟩, ⟨some 32, some (30, true), .len false (.t 31)⟩, ⟨some 33, some (30, true), .load none (.t 9)⟩, ⟨some 34, some (30, true), .bin .geq (.t 32) (.t 33)⟩, ⟨some 35, none, .pick (.t 30) (.t 34) (.c (.bool false))⟩] none)
 (.cond (.t 35) (.exit 0) .skip))
 (.seq (.reg [⟨some 37, none, .load none (.t 5)⟩, ⟨some 38, none, .nilck (.t 37)⟩, ⟨some 39, none, .faddr 1 (.t 38)⟩, ⟨some 40, none, .load none (.t 39)⟩, ⟨some 41, none, .mov (.t 14)⟩, ⟨some 42, none, .mlook (.sl 3 [] (.exact 0)) false (.t 40) (.t 41)⟩, ⟨some 43, none, .load none (.t 8)⟩, ⟨some 44, none, .call 112 [(.t 42), (.t 43)]⟩, ⟨some 36, none, .mov (.t 44)⟩, ⟨some 45, none, .ext (.t 36) 0⟩, ⟨some 46, none, .ext (.t 36) 1⟩, ⟨some 15, none, .mov (.t 45)⟩, ⟨some 16, none, .mov (.t 46)⟩] (some [(0, 6), (3, 6), (5, 6)]))
 (.seq (.reg [⟨some 47, none, .mov (.t 16)⟩] none)
 (.cond (.t 47) (.reg [⟨some 48, none, .load none (.t 13)⟩, ⟨some 49, none, .mov (.t 14)⟩, ⟨some 50, none, .mov (.t 15)⟩, ⟨some 51, none, .build [.str [], .str []] [(0, 1, (.t 49)), (1, 1, (.t 50))]⟩, ⟨some 52, none, .buildSl 2 [(.t 51)]⟩, ⟨some 53, none, .app false 2 32 (.t 48) (.t 52)⟩, ⟨none, none, .store 1 (.t 13) (.t 53)⟩] none) .skip))))))))
 (.seq (.reg [⟨some 54, none, .load none (.t 13)⟩, ⟨some 10, none, .mov (.t 54)⟩, ⟨some 11, none, .mov (.c (.int .i64 0))⟩] none)
 .ret)))))
theorem f119 : FnIs Tryz.prog 119 55 c119 [.tmp 10, .tmp 11] := ⟨_, Tryz.func119, rfl, by kernel_rfl, rfl⟩
def c120 : AC := (.seq (.reg [⟨some 4, none, .box (.t 0)⟩, ⟨some 8, none, .mov (.c (.sl 2 [] (.exact 0)))⟩] none)
 (.seq (.reg [⟨some 9, none, .alloc [.sl 2 [] (.exact 0)]⟩] none)
 (.seq (.reg [⟨some 22, none, .mkfn (.func 154) [] [(.t 4), (.t 9)]⟩, ⟨some 10, none, .mov (.t 22)⟩] none)
 (.seq (.reg [⟨some 24, none, .load none (.t 4)⟩, ⟨some 25, none, .nilck (.t 24)⟩, ⟨some 26, none, .faddr 3 (.t 25)⟩, ⟨some 27, none, .load none (.t 26)⟩, ⟨some 28, none, .mov (.t 2)⟩, ⟨some 29, none, .call 155 [(.t 27), (.t 28)]⟩, ⟨some 23, none, .mov (.t 29)⟩, ⟨some 30, none, .ext (.t 23) 0⟩, ⟨some 31, none, .ext (.t 23) 1⟩, ⟨some 11, none, .mov (.t 30)⟩, ⟨some 12, none, .mov (.t 31)⟩] none)
 (.seq (.reg [⟨some 32, none, .load none (.t 4)⟩, ⟨some 33, none, .nilck (.t 32)⟩, ⟨some 34, none, .faddr 3 (.t 33)⟩, ⟨some 35, none, .load none (.t 34)⟩, ⟨some 36, none, .mov (.t 11)⟩, ⟨some 37, none, .slc false 1 (.t 35) (some (.t 36)) none none⟩, ⟨some 13, none, .mov (.t 37)⟩] none)
 (.seq (.seq (.reg [⟨some 38, none, .mov (.t 3)⟩, ⟨some 39, none, .bin .neq (.t 38) (.c (.str []))⟩] none)
 (.cond (.t 39) (.seq (.reg [⟨some 41, none, .mov (.t 13)⟩, ⟨some 42, none, .mov (.t 3)⟩, ⟨some 43, none, .call 155 [(.t 41), (.t 42)]⟩, ⟨some 40, none, .mov (.t 43)⟩, ⟨some 44, none, .ext (.t 40) 0⟩, ⟨some 45, none, .ext (.t 40) 1⟩, ⟨some 14, none, .mov (.t 44)⟩, ⟨some 15, none, .mov (.t 45)⟩] none)
 (.reg [⟨some 46, none, .mov (.t 13)⟩, ⟨some 47, none, .mov (.t 14)⟩, ⟨some 48, none, .slc false 1 (.t 46) none (some (.t 47)) none⟩, ⟨some 13, none, .mov (.t 48)⟩] none)) .skip))
 (.seq (.seq (.reg [⟨some 49, none, .mov (.t 1)⟩, ⟨some 50, none, .len false (.t 49)⟩, ⟨some 51, none, .mov (.c (.int .i64 0))⟩] none)
 (.block 0 (.loop (.seq (.reg [⟨some 52, none, .bin .lss (.t 51) (.t 50)⟩] none)
 (.seq (.cond (.t 52) .skip (.exit 0))
 (.seq (.block 1 (.seq (.reg [⟨some 53, none, .iaddr 2 (.t 49) (.t 51)⟩, ⟨some 54, none, .load (some 2) (.t 53)⟩, ⟨some 17, none, .alloc [.str [], .str []]⟩, ⟨none, none, .store 2 (.t 17) (.t 54)⟩] none)
 (.seq (.block 2 (.loop (.seq (.seq (.reg [⟨some 55, none, .mov (.t 13)⟩, ⟨some 56, none, .len false (.t 55)⟩, ⟨some 57, none, .bin .gtr (.t 56) (.c (.int .i64 0))⟩, ⟨some 58, none, .mov (.t 57)⟩, ⟨some 59, some (58, true), .mov (.t 13)⟩, ⟨some 60, some (58, true), .iaddr 1 (.t 59) (.c (.int .i64 0))⟩, ⟨some 61, some (58, true), .load none (.t 60)⟩, ⟨some 62, some (58, true), .faddr 0 (.t 17)⟩, ⟨some 63, some (58, true), .load none (.t 62)⟩, ⟨some 64, some (58, true), .bin .lss (.t 61) (.t 63)⟩, ⟨some 65, none, .pick (.t 58) (.t 64) (.c (.bool false))⟩] (some [(6, 8)]))
 (.cond (.t 65) .skip (.exit 2)))
 (.block 3 (.seq (.reg [⟨some 66, none, .mov (.t 10)⟩, ⟨some 67, none, .mov (.t 13)⟩, ⟨some 68, none, .iaddr 1 (.t 67) (.c (.int .i64 0))⟩, ⟨some 69, none, .load none (.t 68)⟩, ⟨some 70, none, .callv (.t 66) [(.t 69)]⟩] none)
 (.reg [⟨some 71, none, .mov (.t 13)⟩, ⟨some 72, none, .slc false 1 (.t 71) (some (.c (.int .i64 1))) none none⟩, ⟨some 13, none, .mov (.t 72)⟩] none))))))
 (.seq (.reg [⟨some 74, none, .load none (.t 4)⟩, ⟨some 75, none, .nilck (.t 74)⟩, ⟨some 76, none, .faddr 2 (.t 75)⟩, ⟨some 77, none, .load none (.t 76)⟩, ⟨some 78, none, .faddr 0 (.t 17)⟩, ⟨some 79, none, .load none (.t 78)⟩, ⟨some 80, none, .mlook (.agg [.str [], .str [], .bool false]) true (.t 77) (.t 79)⟩, ⟨some 73, none, .mov (.t 80)⟩, ⟨some 81, none, .ext (.t 73) 0⟩, ⟨some 82, none, .ext (.t 73) 1⟩, ⟨some 18, none, .alloc [.str [], .str [], .bool false]⟩, ⟨none, none, .store 3 (.t 18) (.t 81)⟩, ⟨some 19, none, .mov (.t 82)⟩] (some [(0, 5), (3, 5), (0, 10), (3, 10), (5, 10), (6, 10)]))
 (.seq (.reg [⟨some 83, none, .mov (.t 19)⟩, ⟨some 84, none, .un .not (.t 83)⟩] none)
 (.cond (.t 84) (.reg [⟨some 85, none, .load none (.t 9)⟩, ⟨some 86, none, .load (some 2) (.t 17)⟩, ⟨some 87, none, .buildSl 2 [(.t 86)]⟩, ⟨some 88, none, .app false 2 32 (.t 85) (.t 87)⟩, ⟨none, none, .store 1 (.t 9) (.t 88)⟩] none) .skip))))))
 (.reg [⟨some 89, none, .bin .add (.t 51) (.c (.int .i64 1))⟩, ⟨some 51, none, .mov (.t 89)⟩] none)))))))
 (.seq (.seq (.reg [⟨some 90, none, .mov (.t 13)⟩, ⟨some 91, none, .len false (.t 90)⟩, ⟨some 92, none, .mov (.c (.int .i64 0))⟩] none)
 (.block 4 (.loop (.seq (.reg [⟨some 93, none, .bin .lss (.t 92) (.t 91)⟩] none)
 (.seq (.cond (.t 93) .skip (.exit 4))
 (.seq (.block 5 (.seq (.reg [⟨some 94, none, .iaddr 1 (.t 90) (.t 92)⟩, ⟨some 95, none, .load none (.t 94)⟩, ⟨some 21, none, .mov (.t 95)⟩] none)
 (.reg [⟨some 96, none, .mov (.t 10)⟩, ⟨some 97, none, .mov (.t 21)⟩, ⟨some 98, none, .callv (.t 96) [(.t 97)]⟩] none)))
 (.reg [⟨some 99, none, .bin .add (.t 92) (.c (.int .i64 1))⟩, ⟨some 92, none, .mov (.t 99)⟩] none)))))))
 (.seq (.reg [⟨some 100, none, .load none (.t 9)⟩, ⟨some 8, none, .mov (.t 100)⟩] none)
 .ret)))))))))
theorem f120 : FnIs Tryz.prog 120 101 c120 [.tmp 8] := ⟨_, Tryz.func120, rfl, by kernel_rfl, rfl⟩
def c121 : AC := (.seq (.reg [⟨some 3, none, .box (.t 0)⟩, ⟨some 6, none, .alloc [.sl 1 [] (.exact 0), .sl 2 [] (.exact 0)]⟩, ⟨some 7, none, .mov (.c (.int .i64 0))⟩] none)
 (.scope (.seq (.seq (.reg [⟨some 15, none, .load (some 2) (.t 3)⟩, ⟨some 16, none, .call 156 [(.t 15)]⟩, ⟨some 8, none, .mov (.t 16)⟩] none)
 (.seq (.reg [⟨some 17, none, .mov (.t 8)⟩, ⟨some 18, none, .bin .neq (.t 17) (.c (.int .i64 0))⟩] none)
 (.cond (.t 18) (.seq (.reg [⟨some 19, none, .build [.sl 1 [] (.exact 0), .sl 2 [] (.exact 0)] []⟩, ⟨some 20, none, .mov (.t 8)⟩, ⟨none, none, .store 2 (.t 6) (.t 19)⟩, ⟨some 7, none, .mov (.t 20)⟩] none)
 .ret) .skip)))
 (.seq (.reg [⟨some 21, none, .mov (.t 1)⟩, ⟨some 22, none, .mov (.t 2)⟩, ⟨some 23, none, .build [.str [], .str []] [(0, 1, (.t 21)), (1, 1, (.t 22))]⟩, ⟨some 9, none, .alloc [.str [], .str []]⟩, ⟨none, none, .store 2 (.t 9) (.t 23)⟩] none)
 (.seq (.reg [⟨some 24, none, .faddr 1 (.t 3)⟩, ⟨some 25, none, .load none (.t 24)⟩, ⟨some 26, none, .call 157 [(.t 25)]⟩, ⟨some 10, none, .mov (.t 26)⟩] none)
 (.seq (.seq (.reg [⟨some 27, none, .load (some 2) (.t 9)⟩, ⟨some 28, none, .call 158 [(.t 27)]⟩, ⟨some 29, none, .un .not (.t 28)⟩] none)
 (.cond (.t 29) (.seq (.reg [⟨some 30, none, .faddr 0 (.t 3)⟩, ⟨some 31, none, .load none (.t 30)⟩, ⟨some 32, none, .call 160 [(.t 31)]⟩, ⟨some 33, none, .mov (.t 10)⟩, ⟨some 34, none, .call 159 [(.t 32), (.t 33)]⟩, ⟨some 35, none, .ext (.t 34) 0⟩, ⟨some 36, none, .ext (.t 34) 1⟩, ⟨none, none, .store 2 (.t 6) (.t 35)⟩, ⟨some 7, none, .mov (.t 36)⟩] none)
 .ret) .skip))
 (.seq (.reg [⟨some 11, none, .mov (.c (.sl 2 [] (.exact 0)))⟩] none)
 (.seq (.reg [⟨some 12, none, .mov (.c (.bool false))⟩] none)
 (.seq (.label 0)
 (.seq (.seq (.reg [⟨some 37, none, .mov (.t 10)⟩, ⟨some 38, none, .len false (.t 37)⟩, ⟨some 39, none, .mov (.c (.int .i64 0))⟩] none)
 (.block 0 (.loop (.seq (.reg [⟨some 40, none, .bin .lss (.t 39) (.t 38)⟩] none)
 (.seq (.cond (.t 40) .skip (.exit 0))
 (.seq (.block 1 (.seq (.reg [⟨some 41, none, .iaddr 2 (.t 37) (.t 39)⟩, ⟨some 42, none, .load (some 2) (.t 41)⟩, ⟨some 14, none, .alloc [.str [], .str []]⟩, ⟨none, none, .store 2 (.t 14) (.t 42)⟩] none)
 (.seq (.block 2 (.seq (.reg [⟨some 44, none, .load (some 2) (.t 14)⟩, ⟨some 45, none, .load (some 2) (.t 9)⟩, ⟨some 46, none, .call 161 [(.t 44), (.t 45)]⟩, ⟨some 43, none, .mov (.t 46)⟩] none)
 (.cond (.t 43) (.seq (.reg [⟨some 47, none, .mov (.t 11)⟩, ⟨some 48, none, .load (some 2) (.t 14)⟩, ⟨some 49, none, .buildSl 2 [(.t 48)]⟩, ⟨some 50, none, .app false 2 32 (.t 47) (.t 49)⟩, ⟨some 11, none, .mov (.t 50)⟩] none)
 (.exit 1)) (.seq (.reg [⟨some 52, none, .load (some 2) (.t 9)⟩, ⟨some 53, none, .load (some 2) (.t 14)⟩, ⟨some 54, none, .call 161 [(.t 52), (.t 53)]⟩, ⟨some 55, none, .un .not (.t 54)⟩, ⟨some 51, none, .mov (.t 55)⟩] none)
 (.cond (.t 51) (.seq (.reg [⟨some 56, none, .load (some 2) (.t 9)⟩, ⟨some 57, none, .load (some 2) (.t 14)⟩, ⟨some 58, none, .call 162 [(.t 56), (.t 57)]⟩, ⟨none, none, .store 2 (.t 9) (.t 58)⟩] none)
 (.exit 1)) (.seq (.reg [⟨some 60, none, .mov (.t 12)⟩, ⟨some 61, none, .un .not (.t 60)⟩, ⟨some 59, none, .mov (.t 61)⟩] none)
 (.cond (.t 59) (.seq (.reg [⟨some 62, none, .mov (.t 11)⟩, ⟨some 63, none, .load (some 2) (.t 9)⟩, ⟨some 64, none, .buildSl 2 [(.t 63)]⟩, ⟨some 65, none, .app false 2 32 (.t 62) (.t 64)⟩, ⟨some 11, none, .mov (.t 65)⟩] none)
 (.reg [⟨some 12, none, .mov (.c (.bool true))⟩] none)) .skip)))))))
 (.reg [⟨some 66, none, .mov (.t 11)⟩, ⟨some 67, none, .load (some 2) (.t 14)⟩, ⟨some 68, none, .buildSl 2 [(.t 67)]⟩, ⟨some 69, none, .app false 2 32 (.t 66) (.t 68)⟩, ⟨some 11, none, .mov (.t 69)⟩] none))))
 (.reg [⟨some 70, none, .bin .add (.t 39) (.c (.int .i64 1))⟩, ⟨some 39, none, .mov (.t 70)⟩] none)))))))
 (.seq (.seq (.reg [⟨some 71, none, .mov (.t 12)⟩, ⟨some 72, none, .un .not (.t 71)⟩] none)
 (.cond (.t 72) (.reg [⟨some 73, none, .mov (.t 11)⟩, ⟨some 74, none, .load (some 2) (.t 9)⟩, ⟨some 75, none, .buildSl 2 [(.t 74)]⟩, ⟨some 76, none, .app false 2 32 (.t 73) (.t 75)⟩, ⟨some 11, none, .mov (.t 76)⟩] none) .skip))
 (.seq (.reg [⟨some 77, none, .faddr 0 (.t 3)⟩, ⟨some 78, none, .load none (.t 77)⟩, ⟨some 79, none, .call 160 [(.t 78)]⟩, ⟨some 80, none, .mov (.t 11)⟩, ⟨some 81, none, .call 159 [(.t 79), (.t 80)]⟩, ⟨some 82, none, .ext (.t 81) 0⟩, ⟨some 83, none, .ext (.t 81) 1⟩, ⟨none, none, .store 2 (.t 6) (.t 82)⟩, ⟨some 7, none, .mov (.t 83)⟩] none)
 .ret))))))))))))
theorem f121 : FnIs Tryz.prog 121 84 c121 [.cell 6 (some 2), .tmp 7] := ⟨_, Tryz.func121, rfl, by kernel_rfl, rfl⟩
def c124 : AC := (.seq (.reg [⟨some 2, none, .box (.t 0)⟩, ⟨some 3, none, .box (.t 1)⟩, ⟨some 4, none, .mov (.c (.int .i64 0))⟩] none)
 (.seq (.reg [⟨some 8, none, .load none (.t 2)⟩, ⟨some 9, none, .mkfn (.func 166) [] [(.t 3), (.t 2)]⟩, ⟨some 10, none, .call 165 [(.t 8), (.t 9)]⟩, ⟨some 7, none, .mov (.t 10)⟩, ⟨some 11, none, .ext (.t 7) 0⟩, ⟨some 12, none, .ext (.t 7) 1⟩, ⟨some 5, none, .mov (.t 11)⟩, ⟨some 6, none, .mov (.t 12)⟩] none)
 (.seq (.reg [⟨some 13, none, .mov (.t 6)⟩, ⟨some 4, none, .mov (.t 13)⟩] none)
 .ret)))
theorem f124 : FnIs Tryz.prog 124 14 c124 [.tmp 4] := ⟨_, Tryz.func124, rfl, by kernel_rfl, rfl⟩
def c125 : AC := (.seq (.reg [⟨some 2, none, .box (.t 0)⟩, ⟨some 3, none, .box (.t 1)⟩, ⟨some 4, none, .mov (.c (.str []))⟩, ⟨some 5, none, .mov (.c (.int .i64 0))⟩] none)
 (.seq (.reg [⟨some 6, none, .load none (.t 2)⟩, ⟨some 7, none, .mkfn (.func 168) [] [(.t 2), (.t 3)]⟩, ⟨some 8, none, .call 167 [(.t 6), (.t 7)]⟩, ⟨some 9, none, .ext (.t 8) 0⟩, ⟨some 10, none, .ext (.t 8) 1⟩, ⟨some 4, none, .mov (.t 9)⟩, ⟨some 5, none, .mov (.t 10)⟩] none)
 .ret))
theorem f125 : FnIs Tryz.prog 125 11 c125 [.tmp 4, .tmp 5] := ⟨_, Tryz.func125, rfl, by kernel_rfl, rfl⟩
def c126 : AC := (.seq (.reg [⟨some 2, none, .mov (.c (.int .i64 0))⟩, ⟨some 3, none, .mov (.c (.int .i64 0))⟩] none)
 (.seq (.seq (.reg [⟨some 4, none, .mov (.t 0)⟩, ⟨some 5, none, .len true (.t 4)⟩, ⟨some 6, none, .bin .neq (.t 5) (.c (.int .i64 1))⟩, ⟨some 7, none, .mov (.t 6)⟩, ⟨some 8, some (7, false), .mov (.t 0)⟩, ⟨some 9, some (7, false), .idx (.t 8) (.c (.int .i64 0))⟩, ⟨some 10, some (7, false), .bin .lss (.t 9) (.c (.int .u8 48))⟩, ⟨some 11, none, .pick (.t 7) (.c (.bool true)) (.t 10)⟩, ⟨some 12, none, .mov (.t 11)⟩, ⟨some 13, some (12, false), .mov (.t 0)⟩, ⟨some 14, some (12, false), .idx (.t 13) (.c (.int .i64 0))⟩, ⟨some 15, some (12, false), .bin .gtr (.t 14) (.c (.int .u8 50))⟩, ⟨some 16, none, .pick (.t 12) (.c (.bool true)) (.t 15)⟩] none)
 (.cond (.t 16) (.seq (.reg [⟨some 2, none, .mov (.c (.int .i64 0))⟩, ⟨some 3, none, .mov (.c (.int .i64 4))⟩] none)
 .ret) .skip))
 (.seq (.reg [⟨some 17, none, .mov (.t 0)⟩, ⟨some 18, none, .idx (.t 17) (.c (.int .i64 0))⟩, ⟨some 19, none, .bin .sub (.t 18) (.c (.int .u8 48))⟩, ⟨some 20, none, .conv (.toInt .i64) (.t 19)⟩, ⟨some 2, none, .mov (.t 20)⟩, ⟨some 3, none, .mov (.c (.int .i64 0))⟩] none)
 .ret)))
theorem f126 : FnIs Tryz.prog 126 21 c126 [.tmp 2, .tmp 3] := ⟨_, Tryz.func126, rfl, by kernel_rfl, rfl⟩
def c128 : AC := (.seq (.reg [⟨some 4, none, .mov (.c (.int .i64 0))⟩] none)
 (.seq (.seq (.reg [⟨some 6, none, .faddr 1 (.t 0)⟩, ⟨some 7, none, .faddr 4 (.t 6)⟩, ⟨some 8, none, .load none (.t 7)⟩] none)
 (.cond (.t 8) (.seq (.reg [⟨some 9, none, .load (some 3) (.t 1)⟩, ⟨some 10, none, .load none (.t 2)⟩, ⟨some 11, none, .call 73 [(.t 9), (.t 10)]⟩, ⟨some 5, none, .mov (.t 11)⟩] none)
 (.seq (.reg [⟨some 12, none, .mov (.t 5)⟩, ⟨some 13, none, .bin .neq (.t 12) (.c (.int .i64 0))⟩] none)
 (.cond (.t 13) (.seq (.reg [⟨some 14, none, .mov (.t 5)⟩, ⟨some 4, none, .mov (.t 14)⟩] none)
 .ret) .skip))) .skip))
 (.seq (.reg [⟨some 15, none, .load (some 3) (.t 1)⟩, ⟨some 16, none, .load (some 6) (.t 0)⟩, ⟨some 17, none, .load none (.t 3)⟩, ⟨some 18, none, .call 129 [(.t 15), (.t 16), (.t 17)]⟩, ⟨some 4, none, .mov (.t 18)⟩] none)
 .ret)))
theorem f128 : FnIs Tryz.prog 128 19 c128 [.tmp 4] := ⟨_, Tryz.func128, rfl, by kernel_rfl, rfl⟩
def c129 : AC := (.seq (.reg [⟨some 3, none, .box (.t 0)⟩, ⟨some 4, none, .box (.t 1)⟩, ⟨some 6, none, .mov (.c (.int .i64 0))⟩] none)
 (.seq (.reg [⟨some 13, none, .faddr 1 (.t 4)⟩, ⟨some 14, none, .load (some 5) (.t 13)⟩, ⟨some 15, none, .call 141 [(.t 14)]⟩, ⟨some 12, none, .mov (.t 15)⟩, ⟨some 16, none, .ext (.t 12) 0⟩, ⟨some 17, none, .ext (.t 12) 1⟩, ⟨some 7, none, .mov (.t 16)⟩, ⟨some 8, none, .mov (.t 17)⟩] none)
 (.seq (.seq (.reg [⟨some 18, none, .mov (.t 8)⟩, ⟨some 19, none, .bin .neq (.t 18) (.c (.int .i64 0))⟩] none)
 (.cond (.t 19) (.seq (.reg [⟨some 20, none, .mov (.t 8)⟩, ⟨some 6, none, .mov (.t 20)⟩] none)
 .ret) .skip))
 (.seq (.reg [⟨some 22, none, .mov (.t 2)⟩, ⟨some 23, none, .call 142 [(.t 22)]⟩, ⟨some 21, none, .mov (.t 23)⟩, ⟨some 24, none, .ext (.t 21) 0⟩, ⟨some 25, none, .ext (.t 21) 1⟩, ⟨some 9, none, .mov (.t 24)⟩, ⟨some 8, none, .mov (.t 25)⟩] none)
 (.seq (.seq (.reg [⟨some 26, none, .mov (.t 8)⟩, ⟨some 27, none, .bin .eql (.t 26) (.c (.int .i64 0))⟩] none)
 (.cond (.t 27) (.reg [⟨some 28, none, .faddr 0 (.t 3)⟩, ⟨some 29, none, .load none (.t 28)⟩, ⟨some 30, none, .load (some 3) (.t 3)⟩, ⟨some 31, none, .faddr 0 (.t 4)⟩, ⟨some 32, none, .load none (.t 31)⟩, ⟨some 33, none, .buildSl 1 [(.t 32)]⟩, ⟨some 34, none, .call 134 [(.t 30), (.c (.int .i64 2)), (.t 33)]⟩, ⟨some 35, none, .mov (.t 7)⟩, ⟨some 36, none, .call 84 [(.t 29), (.t 34), (.t 35)]⟩, ⟨some 8, none, .mov (.t 36)⟩] (some [(1, 2), (1, 4), (2, 4), (1, 5), (2, 5), (1, 6)])) .skip))
 (.seq (.seq (.reg [⟨some 37, none, .mov (.t 9)⟩, ⟨some 38, none, .len false (.t 37)⟩, ⟨some 39, none, .mov (.c (.int .i64 0))⟩] none)
 (.block 0 (.loop (.seq (.reg [⟨some 40, none, .bin .lss (.t 39) (.t 38)⟩] none)
 (.seq (.cond (.t 40) .skip (.exit 0))
 (.seq (.block 1 (.seq (.reg [⟨some 41, none, .mov (.t 39)⟩, ⟨some 42, none, .iaddr 1 (.t 37) (.t 39)⟩, ⟨some 43, none, .load none (.t 42)⟩, ⟨some 10, none, .mov (.t 41)⟩, ⟨some 11, none, .mov (.t 43)⟩] none)
 (.seq (.reg [⟨some 44, none, .mov (.t 8)⟩, ⟨some 45, none, .bin .eql (.t 44) (.c (.int .i64 0))⟩] none)
 (.cond (.t 45) (.reg [⟨some 46, none, .faddr 0 (.t 3)⟩, ⟨some 47, none, .load none (.t 46)⟩, ⟨some 48, none, .load (some 3) (.t 3)⟩, ⟨some 49, none, .faddr 0 (.t 4)⟩, ⟨some 50, none, .load none (.t 49)⟩, ⟨some 51, none, .mov (.t 10)⟩, ⟨some 52, none, .buildSl 1 [(.t 50), (.t 51)]⟩, ⟨some 53, none, .call 134 [(.t 48), (.c (.int .i64 3)), (.t 52)]⟩, ⟨some 54, none, .mov (.t 11)⟩, ⟨some 55, none, .call 84 [(.t 47), (.t 53), (.t 54)]⟩, ⟨some 8, none, .mov (.t 55)⟩] (some [(1, 2), (1, 4), (2, 4), (1, 6), (2, 6), (1, 7)])) .skip))))
 (.reg [⟨some 56, none, .bin .add (.t 39) (.c (.int .i64 1))⟩, ⟨some 39, none, .mov (.t 56)⟩] none)))))))
 (.seq (.reg [⟨some 57, none, .mov (.t 8)⟩, ⟨some 6, none, .mov (.t 57)⟩] none)
 .ret)))))))
theorem f129 : FnIs Tryz.prog 129 58 c129 [.tmp 6] := ⟨_, Tryz.func129, rfl, by kernel_rfl, rfl⟩
def c130 : AC := (.seq (.reg [⟨some 4, none, .mov (.c (.str []))⟩] none)
 (.seq (.block 0 (.seq (.reg [⟨some 6, none, .mov (.t 1)⟩, ⟨some 5, none, .mov (.t 6)⟩] none)
 (.cond (.t 5) (.seq (.reg [⟨some 4, none, .mov (.c (.str [110, 117, 108, 108]))⟩] none)
 .ret) (.seq (.reg [⟨some 8, none, .mov (.t 0)⟩, ⟨some 9, none, .bin .lss (.t 8) (.c (.int .i64 0))⟩, ⟨some 7, none, .mov (.t 9)⟩] none)
 (.cond (.t 7) (.seq (.reg [⟨some 4, none, .mov (.c (.str []))⟩] none)
 .ret) .skip)))))
 (.seq (.reg [⟨some 10, none, .mov (.t 0)⟩, ⟨some 11, none, .call 175 [(.t 10)]⟩, ⟨some 4, none, .mov (.t 11)⟩] none)
 .ret)))
theorem f130 : FnIs Tryz.prog 130 12 c130 [.tmp 4] := ⟨_, Tryz.func130, rfl, by kernel_rfl, rfl⟩
def c134 : AC := (.seq (.reg [⟨some 3, none, .box (.t 0)⟩, ⟨some 6, none, .mov (.c (.str []))⟩] none)
 (.seq (.reg [⟨some 10, none, .mov (.t 1)⟩, ⟨some 11, none, .faddr 1 (.t 3)⟩, ⟨some 12, none, .load none (.t 11)⟩, ⟨some 13, none, .faddr 2 (.t 3)⟩, ⟨some 14, none, .load none (.t 13)⟩, ⟨some 15, none, .mov (.t 2)⟩, ⟨some 16, none, .build [.int .i64 0, .str [], .str [], .sl 1 [] (.exact 0)] [(0, 1, (.t 10)), (1, 1, (.t 12)), (2, 1, (.t 14)), (3, 1, (.t 15))]⟩, ⟨some 17, none, .call 79 [(.t 16)]⟩, ⟨some 9, none, .mov (.t 17)⟩, ⟨some 18, none, .ext (.t 9) 0⟩, ⟨some 19, none, .ext (.t 9) 1⟩, ⟨some 7, none, .mov (.t 18)⟩, ⟨some 8, none, .mov (.t 19)⟩] none)
 (.seq (.reg [⟨some 20, none, .mov (.t 7)⟩, ⟨some 6, none, .mov (.t 20)⟩] none)
 .ret)))
theorem f134 : FnIs Tryz.prog 134 21 c134 [.tmp 6] := ⟨_, Tryz.func134, rfl, by kernel_rfl, rfl⟩
def c137 : AC := (.seq (.reg [⟨some 2, none, .mov (.c (.str []))⟩, ⟨some 3, none, .mov (.c (.int .i64 0))⟩] none)
 (.seq (.seq (.reg [⟨some 4, none, .mov (.t 0)⟩, ⟨some 5, none, .bin .lss (.t 4) (.c (.int .i64 0))⟩, ⟨some 6, none, .mov (.t 5)⟩, ⟨some 7, some (6, false), .mov (.t 0)⟩, ⟨some 8, some (6, false), .bin .gtr (.t 7) (.c (.int .i64 2))⟩, ⟨some 9, none, .pick (.t 6) (.c (.bool true)) (.t 8)⟩] none)
 (.cond (.t 9) (.seq (.reg [⟨some 2, none, .mov (.c (.str []))⟩, ⟨some 3, none, .mov (.c (.int .i64 2))⟩] none)
 .ret) .skip))
 (.seq (.reg [⟨some 10, none, .mov (.t 0)⟩, ⟨some 11, none, .conv (.toInt .u8) (.t 10)⟩, ⟨some 12, none, .bin .add (.c (.int .u8 48)) (.t 11)⟩, ⟨some 13, none, .buildSl 1 [(.t 12)]⟩, ⟨some 14, none, .conv .b2s (.t 13)⟩, ⟨some 2, none, .mov (.t 14)⟩, ⟨some 3, none, .mov (.c (.int .i64 0))⟩] none)
 .ret)))
theorem f137 : FnIs Tryz.prog 137 15 c137 [.tmp 2, .tmp 3] := ⟨_, Tryz.func137, rfl, by kernel_rfl, rfl⟩
def c138 : AC := (.seq (.reg [⟨some 2, none, .mov (.c (.int .i64 0))⟩] none)
 (.seq (.reg [⟨some 3, none, .mov (.c (.int .i64 0))⟩] none)
 (.seq (.seq (.reg [⟨some 4, none, .mov (.t 0)⟩] none)
 (.block 0 (.seq (.block 4 (.seq (.block 3 (.seq (.block 2 (.seq (.block 1 (.seq (.seq (.seq (.reg [⟨some 6, none, .bin .eql (.t 4) (.c (.int .i64 6))⟩, ⟨some 5, none, .mov (.t 6)⟩] none)
 (.cond (.t 5) (.exit 1) .skip))
 (.seq (.seq (.seq (.reg [⟨some 8, none, .bin .eql (.t 4) (.c (.int .i64 5))⟩, ⟨some 7, none, .mov (.t 8)⟩] none)
 (.cond (.t 7) .skip (.reg [⟨some 9, none, .bin .eql (.t 4) (.c (.int .i64 3))⟩, ⟨some 7, none, .mov (.t 9)⟩] none)))
 (.cond (.t 7) (.exit 2) .skip))
 (.seq (.seq (.seq (.reg [⟨some 11, none, .bin .eql (.t 4) (.c (.int .i64 4))⟩, ⟨some 10, none, .mov (.t 11)⟩] none)
 (.cond (.t 10) .skip (.reg [⟨some 12, none, .bin .eql (.t 4) (.c (.int .i64 2))⟩, ⟨some 10, none, .mov (.t 12)⟩] none)))
 (.cond (.t 10) (.exit 3) .skip))
 (.seq (.reg [⟨some 14, none, .bin .eql (.t 4) (.c (.int .i64 1))⟩, ⟨some 13, none, .mov (.t 14)⟩] none)
 (.cond (.t 13) (.exit 4) .skip)))))
 (.exit 0)))
 (.reg [⟨some 15, none, .mov (.t 3)⟩, ⟨some 16, none, .bin .add (.t 15) (.c (.int .i64 1))⟩, ⟨some 3, none, .mov (.t 16)⟩] none)))
 (.reg [⟨some 17, none, .mov (.t 3)⟩, ⟨some 18, none, .bin .add (.t 17) (.c (.int .i64 1))⟩, ⟨some 3, none, .mov (.t 18)⟩] none)))
 (.reg [⟨some 19, none, .mov (.t 3)⟩, ⟨some 20, none, .bin .add (.t 19) (.c (.int .i64 1))⟩, ⟨some 3, none, .mov (.t 20)⟩] none)))
 (.seq (.seq (.reg [⟨some 21, none, .mov (.t 3)⟩, ⟨some 2, none, .mov (.t 21)⟩] none)
 .ret)
 (.exit 0)))))
 (.seq (.reg [⟨some 2, none, .mov (.c (.int .i64 (-1)))⟩] none)
 .ret))))
theorem f138 : FnIs Tryz.prog 138 22 c138 [.tmp 2] := ⟨_, Tryz.func138, rfl, by kernel_rfl, rfl⟩
def c139 : AC := (.seq (.reg [⟨some 2, none, .box (.t 0)⟩, ⟨some 3, none, .box (.t 1)⟩, ⟨some 4, none, .mov (.c (.int .i64 0))⟩] none)
 (.seq (.reg [⟨some 8, none, .load none (.t 2)⟩, ⟨some 9, none, .mkfn (.func 182) [] [(.t 3), (.t 2)]⟩, ⟨some 10, none, .call 165 [(.t 8), (.t 9)]⟩, ⟨some 7, none, .mov (.t 10)⟩, ⟨some 11, none, .ext (.t 7) 0⟩, ⟨some 12, none, .ext (.t 7) 1⟩, ⟨some 5, none, .mov (.t 11)⟩, ⟨some 6, none, .mov (.t 12)⟩] none)
 (.seq (.reg [⟨some 13, none, .mov (.t 6)⟩, ⟨some 4, none, .mov (.t 13)⟩] none)
 .ret)))
theorem f139 : FnIs Tryz.prog 139 14 c139 [.tmp 4] := ⟨_, Tryz.func139, rfl, by kernel_rfl, rfl⟩
def c141 : AC := (.seq (.reg [⟨some 1, none, .box (.t 0)⟩, ⟨some 2, none, .mov (.c (.str []))⟩, ⟨some 3, none, .mov (.c (.int .i64 0))⟩] none)
 (.seq (.seq (.reg [⟨some 6, none, .faddr 0 (.t 1)⟩, ⟨some 7, none, .load none (.t 6)⟩, ⟨some 8, none, .bin .lss (.t 7) (.c (.int .i64 0))⟩, ⟨some 9, none, .mov (.t 8)⟩, ⟨some 10, some (9, false), .faddr 0 (.t 1)⟩, ⟨some 11, some (9, false), .load none (.t 10)⟩, ⟨some 12, some (9, false), .bin .gtr (.t 11) (.c (.int .i64 2560))⟩, ⟨some 13, none, .pick (.t 9) (.c (.bool true)) (.t 12)⟩, ⟨some 14, none, .mov (.t 13)⟩, ⟨some 15, some (14, false), .faddr 1 (.t 1)⟩, ⟨some 16, some (14, false), .load (some 2) (.t 15)⟩, ⟨some 17, some (14, false), .call 184 [(.t 16)]⟩, ⟨some 18, some (14, false), .bin .neq (.t 17) (.c (.int .i64 0))⟩, ⟨some 19, none, .pick (.t 14) (.c (.bool true)) (.t 18)⟩, ⟨some 20, none, .mov (.t 19)⟩, ⟨some 21, some (20, false), .faddr 3 (.t 1)⟩, ⟨some 22, some (20, false), .load none (.t 21)⟩, ⟨some 23, some (20, false), .mov (.t 22)⟩, ⟨some 24, some (23, true), .faddr 0 (.t 1)⟩, ⟨some 25, some (23, true), .load none (.t 24)⟩, ⟨some 26, some (23, true), .bin .gtr (.t 25) (.c (.int .i64 0))⟩, ⟨some 27, some (23, true), .mov (.t 26)⟩, ⟨some 28, some (27, false), .faddr 1 (.t 1)⟩, ⟨some 29, some (27, false), .load (some 2) (.t 28)⟩, ⟨some 30, some (27, false), .build [.int .i64 0, .int .i64 0] []⟩, ⟨some 31, some (27, false), .eqA true [.int, .int] (.t 29) (.t 30)⟩, ⟨some 32, some (23, true), .pick (.t 27) (.c (.bool true)) (.t 31)⟩, ⟨some 33, some (20, false), .pick (.t 23) (.t 32) (.c (.bool false))⟩, ⟨some 34, none, .pick (.t 20) (.c (.bool true)) (.t 33)⟩] none)
 (.cond (.t 34) (.seq (.reg [⟨some 2, none, .mov (.c (.str []))⟩, ⟨some 3, none, .mov (.c (.int .i64 2))⟩] none)
 .ret) .skip))
 (.seq (.reg [⟨some 4, none, .mov (.c (.int .i64 0))⟩] none)
 (.seq (.seq (.reg [⟨some 35, none, .faddr 3 (.t 1)⟩, ⟨some 36, none, .load none (.t 35)⟩] none)
 (.cond (.t 36) (.reg [⟨some 37, none, .mov (.t 4)⟩, ⟨some 38, none, .bin .or (.t 37) (.c (.int .i64 1))⟩, ⟨some 4, none, .mov (.t 38)⟩] none) .skip))
 (.seq (.seq (.reg [⟨some 39, none, .faddr 4 (.t 1)⟩, ⟨some 40, none, .load none (.t 39)⟩] none)
 (.cond (.t 40) (.reg [⟨some 41, none, .mov (.t 4)⟩, ⟨some 42, none, .bin .or (.t 41) (.c (.int .i64 2))⟩, ⟨some 4, none, .mov (.t 42)⟩] none) .skip))
 (.seq (.reg [⟨some 43, none, .mov (.t 4)⟩, ⟨some 44, none, .call 186 [(.c (.sl 1 [] (.exact 0))), (.t 43)]⟩, ⟨some 45, none, .faddr 0 (.t 1)⟩, ⟨some 46, none, .load none (.t 45)⟩, ⟨some 47, none, .call 185 [(.t 44), (.t 46)]⟩, ⟨some 5, none, .mov (.t 47)⟩] (some [(1, 3)]))
 (.seq (.reg [⟨some 48, none, .mov (.t 5)⟩, ⟨some 49, none, .faddr 1 (.t 1)⟩, ⟨some 50, none, .faddr 0 (.t 49)⟩, ⟨some 51, none, .load none (.t 50)⟩, ⟨some 52, none, .call 187 [(.t 48), (.t 51)]⟩, ⟨some 53, none, .faddr 1 (.t 1)⟩, ⟨some 54, none, .faddr 1 (.t 53)⟩, ⟨some 55, none, .load none (.t 54)⟩, ⟨some 56, none, .call 187 [(.t 52), (.t 55)]⟩, ⟨some 57, none, .conv .b2s (.t 56)⟩, ⟨some 2, none, .mov (.t 57)⟩, ⟨some 3, none, .mov (.c (.int .i64 0))⟩] (some [(3, 7), (4, 7)]))
 .ret)))))))
theorem f141 : FnIs Tryz.prog 141 58 c141 [.tmp 2, .tmp 3] := ⟨_, Tryz.func141, rfl, by kernel_rfl, rfl⟩
def c142 : AC := (.seq (.reg [⟨some 2, none, .mov (.c (.sl 1 [] (.exact 0)))⟩, ⟨some 3, none, .mov (.c (.int .i64 0))⟩] none)
 (.seq (.seq (.reg [⟨some 6, none, .mov (.t 0)⟩, ⟨some 7, none, .len true (.t 6)⟩, ⟨some 8, none, .bin .gtr (.t 7) (.c (.int .i64 2560))⟩] none)
 (.cond (.t 8) (.seq (.reg [⟨some 2, none, .mov (.c (.sl 1 [] (.exact 0)))⟩, ⟨some 3, none, .mov (.c (.int .i64 5))⟩] none)
 .ret) .skip))
 (.seq (.reg [⟨some 4, none, .mov (.c (.sl 1 [] (.exact 0)))⟩] none)
 (.seq (.seq (.reg [⟨some 9, none, .mov (.t 0)⟩, ⟨some 10, none, .len true (.t 9)⟩, ⟨some 11, none, .bin .add (.t 10) (.c (.int .i64 160))⟩, ⟨some 12, none, .bin .sub (.t 11) (.c (.int .i64 1))⟩, ⟨some 13, none, .bin .quo (.t 12) (.c (.int .i64 160))⟩, ⟨some 14, none, .mov (.c (.int .i64 0))⟩] none)
 (.block 0 (.loop (.seq (.reg [⟨some 15, none, .bin .lss (.t 14) (.t 13)⟩] none)
 (.seq (.cond (.t 15) .skip (.exit 0))
 (.seq (.block 1 (.seq (.reg [⟨some 16, none, .mov (.t 0)⟩, ⟨some 17, none, .len true (.t 16)⟩, ⟨some 18, none, .mm false (.c (.int .i64 160)) (.t 17)⟩, ⟨some 5, none, .mov (.t 18)⟩] none)
 (.seq (.reg [⟨some 19, none, .mov (.t 4)⟩, ⟨some 20, none, .mov (.t 0)⟩, ⟨some 21, none, .mov (.t 5)⟩, ⟨some 22, none, .slc true 0 (.t 20) none (some (.t 21)) none⟩, ⟨some 23, none, .buildSl 1 [(.t 22)]⟩, ⟨some 24, none, .app false 1 16 (.t 19) (.t 23)⟩, ⟨some 4, none, .mov (.t 24)⟩] none)
 (.reg [⟨some 25, none, .mov (.t 0)⟩, ⟨some 26, none, .mov (.t 5)⟩, ⟨some 27, none, .slc true 0 (.t 25) (some (.t 26)) none none⟩, ⟨some 0, none, .mov (.t 27)⟩] none))))
 (.reg [⟨some 28, none, .bin .add (.t 14) (.c (.int .i64 1))⟩, ⟨some 14, none, .mov (.t 28)⟩] none)))))))
 (.seq (.reg [⟨some 29, none, .mov (.t 4)⟩, ⟨some 2, none, .mov (.t 29)⟩, ⟨some 3, none, .mov (.c (.int .i64 0))⟩] none)
 .ret)))))
theorem f142 : FnIs Tryz.prog 142 30 c142 [.tmp 2, .tmp 3] := ⟨_, Tryz.func142, rfl, by kernel_rfl, rfl⟩
def c145 : AC := (.seq (.reg [⟨some 2, none, .mov (.c (.int .i64 0))⟩] none)
 (.seq (.reg [⟨some 3, none, .mov (.t 0)⟩, ⟨some 4, none, .call 82 [(.t 3)]⟩, ⟨some 5, none, .bin .add (.t 4) (.c (.int .i64 1))⟩, ⟨some 6, none, .bin .mul (.t 5) (.c (.int .i64 64))⟩, ⟨some 7, none, .mov (.t 0)⟩, ⟨some 8, none, .call 83 [(.t 7)]⟩, ⟨some 9, none, .len false (.t 8)⟩, ⟨some 10, none, .bin .add (.t 6) (.t 9)⟩, ⟨some 2, none, .mov (.t 10)⟩] none)
 .ret))
theorem f145 : FnIs Tryz.prog 145 11 c145 [.tmp 2] := ⟨_, Tryz.func145, rfl, by kernel_rfl, rfl⟩
def c146 : AC := (.seq (.reg [⟨some 2, none, .mov (.c (.sc (.float .f64 0)))⟩] none)
 (.seq (.reg [⟨some 3, none, .mov (.t 0)⟩, ⟨some 4, none, .call 190 [(.t 3), (.c (.sc (.float .f64 4697254385577623552)))]⟩, ⟨some 0, none, .mov (.t 4)⟩] none)
 (.seq (.seq (.reg [⟨some 5, none, .mov (.t 0)⟩, ⟨some 6, none, .bin .lss (.t 5) (.c (.sc (.float .f64 0)))⟩] none)
 (.cond (.t 6) (.reg [⟨some 7, none, .mov (.t 0)⟩, ⟨some 8, none, .bin .add (.t 7) (.c (.sc (.float .f64 4697254385577623552)))⟩, ⟨some 0, none, .mov (.t 8)⟩] none) .skip))
 (.seq (.reg [⟨some 9, none, .mov (.t 0)⟩, ⟨some 2, none, .mov (.t 9)⟩] none)
 .ret))))
theorem f146 : FnIs Tryz.prog 146 10 c146 [.tmp 2] := ⟨_, Tryz.func146, rfl, by kernel_rfl, rfl⟩
def c147 : AC := (.seq (.reg [⟨some 2, none, .mov (.c (.bool false))⟩] none)
 (.seq (.reg [⟨some 3, none, .mov (.t 0)⟩, ⟨some 4, none, .eqP true (.t 3) (.c (.sc (.pointer none)))⟩, ⟨some 5, none, .mov (.t 4)⟩, ⟨some 6, some (5, true), .mov (.t 0)⟩, ⟨some 7, some (5, true), .nilck (.t 6)⟩, ⟨some 8, some (5, true), .faddr 1 (.t 7)⟩, ⟨some 9, some (5, true), .load none (.t 8)⟩, ⟨some 10, some (5, true), .eqM true (.t 9)⟩, ⟨some 11, none, .pick (.t 5) (.t 10) (.c (.bool false))⟩, ⟨some 2, none, .mov (.t 11)⟩] none)
 .ret))
theorem f147 : FnIs Tryz.prog 147 12 c147 [.tmp 2] := ⟨_, Tryz.func147, rfl, by kernel_rfl, rfl⟩
def c148 : AC := (.seq (.reg [⟨some 2, none, .mov (.c (.int .i64 0))⟩] none)
 (.seq (.seq (.reg [⟨some 5, none, .mov (.t 0)⟩, ⟨some 6, none, .len false (.t 5)⟩, ⟨some 7, none, .mov (.c (.int .i64 0))⟩] none)
 (.block 0 (.loop (.seq (.reg [⟨some 8, none, .bin .lss (.t 7) (.t 6)⟩] none)
 (.seq (.cond (.t 8) .skip (.exit 0))
 (.seq (.block 1 (.seq (.reg [⟨some 9, none, .mov (.t 7)⟩, ⟨some 10, none, .iaddr 3 (.t 5) (.t 7)⟩, ⟨some 11, none, .load (some 3) (.t 10)⟩, ⟨some 4, none, .alloc [.int .i64 0, .str [], .bool false]⟩, ⟨some 3, none, .mov (.t 9)⟩, ⟨none, none, .store 3 (.t 4) (.t 11)⟩] none)
 (.seq (.reg [⟨some 12, none, .load (some 3) (.t 4)⟩, ⟨some 13, none, .call 191 [(.t 12)]⟩, ⟨some 14, none, .un .not (.t 13)⟩, ⟨some 15, none, .mov (.t 14)⟩, ⟨some 16, some (15, false), .mov (.t 3)⟩, ⟨some 17, some (15, false), .bin .gtr (.t 16) (.c (.int .i64 0))⟩, ⟨some 18, some (15, false), .mov (.t 17)⟩, ⟨some 19, some (18, true), .faddr 0 (.t 4)⟩, ⟨some 20, some (18, true), .load none (.t 19)⟩, ⟨some 21, some (18, true), .mov (.t 0)⟩, ⟨some 22, some (18, true), .mov (.t 3)⟩, ⟨some 23, some (18, true), .bin .sub (.t 22) (.c (.int .i64 1))⟩, ⟨some 24, some (18, true), .iaddr 3 (.t 21) (.t 23)⟩, ⟨some 25, some (18, true), .faddr 0 (.t 24)⟩, ⟨some 26, some (18, true), .load none (.t 25)⟩, ⟨some 27, some (18, true), .bin .geq (.t 20) (.t 26)⟩, ⟨some 28, some (15, false), .pick (.t 18) (.t 27) (.c (.bool false))⟩, ⟨some 29, none, .pick (.t 15) (.c (.bool true)) (.t 28)⟩] (some [(8, 14)]))
 (.cond (.t 29) (.seq (.reg [⟨some 2, none, .mov (.c (.int .i64 4))⟩] none)
 .ret) .skip))))
 (.reg [⟨some 30, none, .bin .add (.t 7) (.c (.int .i64 1))⟩, ⟨some 7, none, .mov (.t 30)⟩] none)))))))
 (.seq (.reg [⟨some 2, none, .mov (.c (.int .i64 0))⟩] none)
 .ret)))
theorem f148 : FnIs Tryz.prog 148 31 c148 [.tmp 2] := ⟨_, Tryz.func148, rfl, by kernel_rfl, rfl⟩
def c149 : AC := (.seq (.reg [⟨some 2, none, .box (.t 0)⟩, ⟨some 3, none, .box (.t 1)⟩, ⟨some 4, none, .mov (.c (.int .i64 0))⟩] none)
 (.seq (.reg [⟨some 5, none, .load none (.t 2)⟩, ⟨some 6, none, .len false (.t 5)⟩, ⟨some 7, none, .mkfn (.func 193) [] [(.t 2), (.t 3)]⟩, ⟨some 8, none, .call 192 [(.t 6), (.t 7)]⟩, ⟨some 4, none, .mov (.t 8)⟩] none)
 .ret))
theorem f149 : FnIs Tryz.prog 149 9 c149 [.tmp 4] := ⟨_, Tryz.func149, rfl, by kernel_rfl, rfl⟩
def c150 : AC := (.seq (.reg [⟨some 2, none, .alloc [.int .i64 0, .int .i64 0, .str []]⟩] none)
 (.seq (.reg [⟨some 3, none, .mov (.t 0)⟩, ⟨some 4, none, .build [.int .i64 0, .int .i64 0, .str []] [(0, 1, (.c (.int .i64 1))), (2, 1, (.t 3))]⟩, ⟨none, none, .store 3 (.t 2) (.t 4)⟩] none)
 .ret))
theorem f150 : FnIs Tryz.prog 150 5 c150 [.cell 2 (some 3)] := ⟨_, Tryz.func150, rfl, by kernel_rfl, rfl⟩
def c151 : AC := (.seq (.reg [⟨some 4, none, .alloc [.int .i64 0, .int .i64 0, .str []]⟩] none)
 (.seq (.seq (.reg [⟨some 5, none, .mov (.t 0)⟩, ⟨some 6, none, .bin .eql (.t 5) (.c (.int .i64 2))⟩] none)
 (.cond (.t 6) (.seq (.reg [⟨some 7, none, .mov (.t 1)⟩, ⟨some 8, none, .build [.int .i64 0, .int .i64 0, .str []] [(0, 1, (.c (.int .i64 3))), (1, 1, (.t 7))]⟩, ⟨none, none, .store 3 (.t 4) (.t 8)⟩] none)
 .ret) .skip))
 (.seq (.reg [⟨some 9, none, .mov (.t 1)⟩, ⟨some 10, none, .build [.int .i64 0, .int .i64 0, .str []] [(0, 1, (.c (.int .i64 2))), (1, 1, (.t 9))]⟩, ⟨none, none, .store 3 (.t 4) (.t 10)⟩] none)
 .ret)))
theorem f151 : FnIs Tryz.prog 151 11 c151 [.cell 4 (some 3)] := ⟨_, Tryz.func151, rfl, by kernel_rfl, rfl⟩
def c152 : AC := (.seq (.reg [⟨some 2, none, .mov (.c (.str []))⟩, ⟨some 3, none, .mov (.c (.int .i64 0))⟩] none)
 (.seq (.seq (.reg [⟨some 9, none, .mov (.t 0)⟩, ⟨some 10, none, .len false (.t 9)⟩, ⟨some 11, none, .mov (.c (.int .i64 0))⟩] none)
 (.block 0 (.loop (.seq (.reg [⟨some 12, none, .bin .lss (.t 11) (.t 10)⟩] none)
 (.seq (.cond (.t 12) .skip (.exit 0))
 (.seq (.block 1 (.seq (.reg [⟨some 13, none, .iaddr 3 (.t 9) (.t 11)⟩, ⟨some 14, none, .load (some 3) (.t 13)⟩, ⟨some 5, none, .alloc [.int .i64 0, .int .i64 0, .str []]⟩, ⟨none, none, .store 3 (.t 5) (.t 14)⟩] none)
 (.seq (.reg [⟨some 15, none, .load (some 3) (.t 5)⟩, ⟨some 16, none, .call 194 [(.t 15)]⟩, ⟨some 17, none, .un .not (.t 16)⟩] none)
 (.cond (.t 17) (.seq (.reg [⟨some 2, none, .mov (.c (.str []))⟩, ⟨some 3, none, .mov (.c (.int .i64 2))⟩] none)
 .ret) .skip))))
 (.reg [⟨some 18, none, .bin .add (.t 11) (.c (.int .i64 1))⟩, ⟨some 11, none, .mov (.t 18)⟩] none)))))))
 (.seq (.reg [⟨some 6, none, .mov (.c (.sl 1 [] (.exact 0)))⟩] none)
 (.seq (.seq (.reg [⟨some 19, none, .mov (.t 0)⟩, ⟨some 20, none, .len false (.t 19)⟩, ⟨some 21, none, .mov (.c (.int .i64 0))⟩] none)
 (.block 2 (.loop (.seq (.reg [⟨some 22, none, .bin .lss (.t 21) (.t 20)⟩] none)
 (.seq (.cond (.t 22) .skip (.exit 2))
 (.seq (.block 3 (.seq (.reg [⟨some 23, none, .iaddr 3 (.t 19) (.t 21)⟩, ⟨some 24, none, .load (some 3) (.t 23)⟩, ⟨some 8, none, .alloc [.int .i64 0, .int .i64 0, .str []]⟩, ⟨none, none, .store 3 (.t 8) (.t 24)⟩] none)
 (.seq (.seq (.reg [⟨some 25, none, .faddr 2 (.t 8)⟩, ⟨some 26, none, .load none (.t 25)⟩, ⟨some 27, none, .len true (.t 26)⟩, ⟨some 28, none, .bin .gtr (.t 27) (.c (.int .i64 128))⟩] none)
 (.cond (.t 28) (.seq (.reg [⟨some 2, none, .mov (.c (.str []))⟩, ⟨some 3, none, .mov (.c (.int .i64 5))⟩] none)
 .ret) .skip))
 (.seq (.reg [⟨some 29, none, .mov (.t 6)⟩, ⟨some 30, none, .load (some 3) (.t 8)⟩, ⟨some 31, none, .call 195 [(.t 29), (.t 30)]⟩, ⟨some 6, none, .mov (.t 31)⟩] none)
 (.seq (.reg [⟨some 32, none, .mov (.t 6)⟩, ⟨some 33, none, .len false (.t 32)⟩, ⟨some 34, none, .bin .gtr (.t 33) (.c (.int .i64 128))⟩] none)
 (.cond (.t 34) (.seq (.reg [⟨some 2, none, .mov (.c (.str []))⟩, ⟨some 3, none, .mov (.c (.int .i64 5))⟩] none)
 .ret) .skip))))))
 (.reg [⟨some 35, none, .bin .add (.t 21) (.c (.int .i64 1))⟩, ⟨some 21, none, .mov (.t 35)⟩] none)))))))
 (.seq (.reg [⟨some 36, none, .mov (.t 6)⟩, ⟨some 37, none, .conv .b2s (.t 36)⟩, ⟨some 2, none, .mov (.t 37)⟩, ⟨some 3, none, .mov (.c (.int .i64 0))⟩] none)
 .ret)))))
theorem f152 : FnIs Tryz.prog 152 38 c152 [.tmp 2, .tmp 3] := ⟨_, Tryz.func152, rfl, by kernel_rfl, rfl⟩
def c153 : AC := (.seq (.reg [⟨some 3, none, .box (.t 0)⟩, ⟨some 4, none, .box (.t 1)⟩, ⟨some 5, none, .box (.t 2)⟩, ⟨some 6, none, .mov (.c (.sc .nilFunc))⟩] none)
 (.seq (.reg [⟨some 7, none, .mkfn (.func 196) [] [(.t 3), (.t 4), (.t 5)]⟩, ⟨some 6, none, .mov (.t 7)⟩] none)
 .ret))
theorem f153 : FnIs Tryz.prog 153 8 c153 [.tmp 6] := ⟨_, Tryz.func153, rfl, by kernel_rfl, rfl⟩
def c154 : AC := (.seq (.reg [⟨some 5, none, .load none (.t 1)⟩, ⟨some 6, none, .nilck (.t 5)⟩, ⟨some 7, none, .faddr 2 (.t 6)⟩, ⟨some 8, none, .load none (.t 7)⟩, ⟨some 9, none, .mov (.t 0)⟩, ⟨some 10, none, .mlook (.agg [.str [], .str [], .bool false]) false (.t 8) (.t 9)⟩, ⟨some 4, none, .alloc [.str [], .str [], .bool false]⟩, ⟨none, none, .store 3 (.t 4) (.t 10)⟩] none)
 (.seq (.reg [⟨some 11, none, .faddr 2 (.t 4)⟩, ⟨some 12, none, .load none (.t 11)⟩, ⟨some 13, none, .un .not (.t 12)⟩] none)
 (.cond (.t 13) (.reg [⟨some 14, none, .load none (.t 2)⟩, ⟨some 15, none, .mov (.t 0)⟩, ⟨some 16, none, .faddr 1 (.t 4)⟩, ⟨some 17, none, .load none (.t 16)⟩, ⟨some 18, none, .build [.str [], .str []] [(0, 1, (.t 15)), (1, 1, (.t 17))]⟩, ⟨some 19, none, .buildSl 2 [(.t 18)]⟩, ⟨some 20, none, .app false 2 32 (.t 14) (.t 19)⟩, ⟨none, none, .store 1 (.t 2) (.t 20)⟩] none) .skip)))
theorem f154 : FnIs Tryz.prog 154 21 c154 [] := ⟨_, Tryz.func154, rfl, by kernel_rfl, rfl⟩
def c155 : AC := (.seq (.reg [⟨some 4, none, .mov (.c (.int .i64 0))⟩, ⟨some 5, none, .mov (.c (.bool false))⟩] none)
 (.seq (.reg [⟨some 10, none, .mov (.t 0)⟩, ⟨some 11, none, .len false (.t 10)⟩, ⟨some 6, none, .mov (.t 11)⟩] none)
 (.seq (.reg [⟨some 12, none, .mov (.t 6)⟩, ⟨some 7, none, .mov (.c (.int .i64 0))⟩, ⟨some 8, none, .mov (.t 12)⟩] none)
 (.seq (.block 0 (.loop (.seq (.seq (.reg [⟨some 13, none, .mov (.t 7)⟩, ⟨some 14, none, .mov (.t 8)⟩, ⟨some 15, none, .bin .lss (.t 13) (.t 14)⟩] none)
 (.cond (.t 15) .skip (.exit 0)))
 (.block 1 (.seq (.reg [⟨some 16, none, .mov (.t 7)⟩, ⟨some 17, none, .mov (.t 8)⟩, ⟨some 18, none, .bin .add (.t 16) (.t 17)⟩, ⟨some 19, none, .conv (.toInt .u64) (.t 18)⟩, ⟨some 20, none, .bin .shr (.t 19) (.c (.int .u64 1))⟩, ⟨some 21, none, .conv (.toInt .i64) (.t 20)⟩, ⟨some 9, none, .mov (.t 21)⟩] none)
 (.seq (.reg [⟨some 22, none, .mov (.t 0)⟩, ⟨some 23, none, .mov (.t 9)⟩, ⟨some 24, none, .iaddr 1 (.t 22) (.t 23)⟩, ⟨some 25, none, .load none (.t 24)⟩, ⟨some 26, none, .mov (.t 1)⟩, ⟨some 27, none, .call 197 [(.t 25), (.t 26)]⟩] none)
 (.cond (.t 27) (.reg [⟨some 28, none, .mov (.t 9)⟩, ⟨some 29, none, .bin .add (.t 28) (.c (.int .i64 1))⟩, ⟨some 7, none, .mov (.t 29)⟩] none) (.reg [⟨some 30, none, .mov (.t 9)⟩, ⟨some 8, none, .mov (.t 30)⟩] none))))))))
 (.seq (.reg [⟨some 31, none, .mov (.t 7)⟩, ⟨some 32, none, .mov (.t 7)⟩, ⟨some 33, none, .mov (.t 6)⟩, ⟨some 34, none, .bin .lss (.t 32) (.t 33)⟩, ⟨some 35, none, .mov (.t 34)⟩, ⟨some 36, some (35, true), .mov (.t 0)⟩, ⟨some 37, some (35, true), .mov (.t 7)⟩, ⟨some 38, some (35, true), .iaddr 1 (.t 36) (.t 37)⟩, ⟨some 39, some (35, true), .load none (.t 38)⟩, ⟨some 40, some (35, true), .mov (.t 1)⟩, ⟨some 41, some (35, true), .bin .eql (.t 39) (.t 40)⟩, ⟨some 42, some (35, true), .mov (.t 41)⟩, ⟨some 43, some (42, false), .mov (.t 0)⟩, ⟨some 44, some (42, false), .mov (.t 7)⟩, ⟨some 45, some (42, false), .iaddr 1 (.t 43) (.t 44)⟩, ⟨some 46, some (42, false), .load none (.t 45)⟩, ⟨some 47, some (42, false), .call 198 [(.t 46)]⟩, ⟨some 48, some (42, false), .mov (.t 47)⟩, ⟨some 49, some (48, true), .mov (.t 1)⟩, ⟨some 50, some (48, true), .call 198 [(.t 49)]⟩, ⟨some 51, some (42, false), .pick (.t 48) (.t 50) (.c (.bool false))⟩, ⟨some 52, some (35, true), .pick (.t 42) (.c (.bool true)) (.t 51)⟩, ⟨some 53, none, .pick (.t 35) (.t 52) (.c (.bool false))⟩, ⟨some 4, none, .mov (.t 31)⟩, ⟨some 5, none, .mov (.t 53)⟩] none)
 .ret)))))
theorem f155 : FnIs Tryz.prog 155 54 c155 [.tmp 4, .tmp 5] := ⟨_, Tryz.func155, rfl, by kernel_rfl, rfl⟩
def c156 : AC := (.seq (.reg [⟨some 1, none, .box (.t 0)⟩, ⟨some 2, none, .mov (.c (.int .i64 0))⟩] none)
 (.seq (.seq (.reg [⟨some 7, none, .faddr 0 (.t 1)⟩, ⟨some 8, none, .load none (.t 7)⟩, ⟨some 9, none, .len false (.t 8)⟩, ⟨some 10, none, .bin .gtr (.t 9) (.c (.int .i64 64))⟩, ⟨some 11, none, .mov (.t 10)⟩, ⟨some 12, some (11, false), .faddr 1 (.t 1)⟩, ⟨some 13, some (11, false), .load none (.t 12)⟩, ⟨some 14, some (11, false), .len false (.t 13)⟩, ⟨some 15, some (11, false), .bin .gtr (.t 14) (.c (.int .i64 64))⟩, ⟨some 16, none, .pick (.t 11) (.c (.bool true)) (.t 15)⟩] none)
 (.cond (.t 16) (.seq (.reg [⟨some 2, none, .mov (.c (.int .i64 4))⟩] none)
 .ret) .skip))
 (.seq (.seq (.reg [⟨some 17, none, .faddr 1 (.t 1)⟩, ⟨some 18, none, .load none (.t 17)⟩, ⟨some 19, none, .len false (.t 18)⟩, ⟨some 20, none, .mov (.c (.int .i64 0))⟩] none)
 (.block 0 (.loop (.seq (.reg [⟨some 21, none, .bin .lss (.t 20) (.t 19)⟩] none)
 (.seq (.cond (.t 21) .skip (.exit 0))
 (.seq (.block 1 (.seq (.reg [⟨some 22, none, .mov (.t 20)⟩, ⟨some 23, none, .iaddr 2 (.t 18) (.t 20)⟩, ⟨some 24, none, .load (some 2) (.t 23)⟩, ⟨some 4, none, .alloc [.str [], .str []]⟩, ⟨some 3, none, .mov (.t 22)⟩, ⟨none, none, .store 2 (.t 4) (.t 24)⟩] none)
 (.seq (.reg [⟨some 25, none, .load (some 2) (.t 4)⟩, ⟨some 26, none, .call 158 [(.t 25)]⟩, ⟨some 27, none, .un .not (.t 26)⟩, ⟨some 28, none, .mov (.t 27)⟩, ⟨some 29, some (28, false), .mov (.t 3)⟩, ⟨some 30, some (28, false), .bin .gtr (.t 29) (.c (.int .i64 0))⟩, ⟨some 31, some (28, false), .mov (.t 30)⟩, ⟨some 32, some (31, true), .faddr 1 (.t 1)⟩, ⟨some 33, some (31, true), .load none (.t 32)⟩, ⟨some 34, some (31, true), .mov (.t 3)⟩, ⟨some 35, some (31, true), .bin .sub (.t 34) (.c (.int .i64 1))⟩, ⟨some 36, some (31, true), .iaddr 2 (.t 33) (.t 35)⟩, ⟨some 37, some (31, true), .load (some 2) (.t 36)⟩, ⟨some 38, some (31, true), .load (some 2) (.t 4)⟩, ⟨some 39, some (31, true), .call 161 [(.t 37), (.t 38)]⟩, ⟨some 40, some (31, true), .un .not (.t 39)⟩, ⟨some 41, some (28, false), .pick (.t 31) (.t 40) (.c (.bool false))⟩, ⟨some 42, none, .pick (.t 28) (.c (.bool true)) (.t 41)⟩] (some [(8, 13), (12, 13)]))
 (.cond (.t 42) (.seq (.reg [⟨some 2, none, .mov (.c (.int .i64 4))⟩] none)
 .ret) .skip))))
 (.reg [⟨some 43, none, .bin .add (.t 20) (.c (.int .i64 1))⟩, ⟨some 20, none, .mov (.t 43)⟩] none)))))))
 (.seq (.seq (.reg [⟨some 44, none, .faddr 0 (.t 1)⟩, ⟨some 45, none, .load none (.t 44)⟩, ⟨some 46, none, .len false (.t 45)⟩, ⟨some 47, none, .mov (.c (.int .i64 0))⟩] none)
 (.block 2 (.loop (.seq (.reg [⟨some 48, none, .bin .lss (.t 47) (.t 46)⟩] none)
 (.seq (.cond (.t 48) .skip (.exit 2))
 (.seq (.block 3 (.seq (.reg [⟨some 49, none, .mov (.t 47)⟩, ⟨some 50, none, .iaddr 1 (.t 45) (.t 47)⟩, ⟨some 51, none, .load none (.t 50)⟩, ⟨some 5, none, .mov (.t 49)⟩, ⟨some 6, none, .mov (.t 51)⟩] none)
 (.seq (.reg [⟨some 52, none, .mov (.t 5)⟩, ⟨some 53, none, .bin .gtr (.t 52) (.c (.int .i64 0))⟩, ⟨some 54, none, .mov (.t 53)⟩, ⟨some 55, some (54, true), .faddr 0 (.t 1)⟩, ⟨some 56, some (54, true), .load none (.t 55)⟩, ⟨some 57, some (54, true), .mov (.t 5)⟩, ⟨some 58, some (54, true), .bin .sub (.t 57) (.c (.int .i64 1))⟩, ⟨some 59, some (54, true), .iaddr 1 (.t 56) (.t 58)⟩, ⟨some 60, some (54, true), .load none (.t 59)⟩, ⟨some 61, some (54, true), .mov (.t 6)⟩, ⟨some 62, some (54, true), .bin .geq (.t 60) (.t 61)⟩, ⟨some 63, none, .pick (.t 54) (.t 62) (.c (.bool false))⟩, ⟨some 64, none, .mov (.t 63)⟩, ⟨some 65, some (64, false), .faddr 1 (.t 1)⟩, ⟨some 66, some (64, false), .load none (.t 65)⟩, ⟨some 67, some (64, false), .mov (.t 6)⟩, ⟨some 68, some (64, false), .call 199 [(.t 66), (.t 67)]⟩, ⟨some 69, none, .pick (.t 64) (.c (.bool true)) (.t 68)⟩] none)
 (.cond (.t 69) (.seq (.reg [⟨some 2, none, .mov (.c (.int .i64 4))⟩] none)
 .ret) .skip))))
 (.reg [⟨some 70, none, .bin .add (.t 47) (.c (.int .i64 1))⟩, ⟨some 47, none, .mov (.t 70)⟩] none)))))))
 (.seq (.reg [⟨some 2, none, .mov (.c (.int .i64 0))⟩] none)
 .ret)))))
theorem f156 : FnIs Tryz.prog 156 71 c156 [.tmp 2] := ⟨_, Tryz.func156, rfl, by kernel_rfl, rfl⟩
def c157 : AC := (.seq (.reg [⟨some 2, none, .mov (.c (.sl 2 [] (.exact 0)))⟩] none)
 (.seq (.seq (.reg [⟨some 3, none, .mov (.t 0)⟩, ⟨some 4, none, .eqN false (.t 3)⟩] none)
 (.cond (.t 4) (.seq (.reg [⟨some 2, none, .mov (.c (.sl 2 [] (.exact 0)))⟩] none)
 .ret) .skip))
 (.seq (.reg [⟨some 5, none, .buildSl 2 []⟩, ⟨some 6, none, .mov (.t 0)⟩, ⟨some 7, none, .app false 2 32 (.t 5) (.t 6)⟩, ⟨some 2, none, .mov (.t 7)⟩] none)
 .ret)))
theorem f157 : FnIs Tryz.prog 157 8 c157 [.tmp 2] := ⟨_, Tryz.func157, rfl, by kernel_rfl, rfl⟩
def c158 : AC := (.seq (.reg [⟨some 1, none, .box (.t 0)⟩, ⟨some 2, none, .mov (.c (.bool false))⟩] none)
 (.seq (.reg [⟨some 3, none, .faddr 1 (.t 1)⟩, ⟨some 4, none, .load none (.t 3)⟩, ⟨some 5, none, .bin .eql (.t 4) (.c (.str []))⟩, ⟨some 6, none, .mov (.t 5)⟩, ⟨some 7, some (6, false), .faddr 0 (.t 1)⟩, ⟨some 8, some (6, false), .load none (.t 7)⟩, ⟨some 9, some (6, false), .faddr 1 (.t 1)⟩, ⟨some 10, some (6, false), .load none (.t 9)⟩, ⟨some 11, some (6, false), .bin .lss (.t 8) (.t 10)⟩, ⟨some 12, none, .pick (.t 6) (.c (.bool true)) (.t 11)⟩, ⟨some 2, none, .mov (.t 12)⟩] none)
 .ret))
theorem f158 : FnIs Tryz.prog 158 13 c158 [.tmp 2] := ⟨_, Tryz.func158, rfl, by kernel_rfl, rfl⟩
def c159 : AC := (.seq (.reg [⟨some 3, none, .box (.t 1)⟩, ⟨some 4, none, .alloc [.sl 1 [] (.exact 0), .sl 2 [] (.exact 0)]⟩, ⟨some 5, none, .mov (.c (.int .i64 0))⟩] none)
 (.seq (.reg [⟨some 6, none, .mov (.t 0)⟩, ⟨some 7, none, .mkfn (.func 201) [] [(.t 3)]⟩, ⟨some 8, none, .call 200 [(.t 6), (.t 7)]⟩, ⟨some 0, none, .mov (.t 8)⟩] none)
 (.seq (.seq (.reg [⟨some 9, none, .mov (.t 0)⟩, ⟨some 10, none, .len false (.t 9)⟩, ⟨some 11, none, .bin .gtr (.t 10) (.c (.int .i64 64))⟩, ⟨some 12, none, .mov (.t 11)⟩, ⟨some 13, some (12, false), .load none (.t 3)⟩, ⟨some 14, some (12, false), .len false (.t 13)⟩, ⟨some 15, some (12, false), .bin .gtr (.t 14) (.c (.int .i64 64))⟩, ⟨some 16, none, .pick (.t 12) (.c (.bool true)) (.t 15)⟩] none)
 (.cond (.t 16) (.seq (.reg [⟨some 17, none, .build [.sl 1 [] (.exact 0), .sl 2 [] (.exact 0)] []⟩, ⟨none, none, .store 2 (.t 4) (.t 17)⟩, ⟨some 5, none, .mov (.c (.int .i64 9))⟩] none)
 .ret) .skip))
 (.seq (.reg [⟨some 18, none, .mov (.t 0)⟩, ⟨some 19, none, .load none (.t 3)⟩, ⟨some 20, none, .build [.sl 1 [] (.exact 0), .sl 2 [] (.exact 0)] [(0, 1, (.t 18)), (1, 1, (.t 19))]⟩, ⟨none, none, .store 2 (.t 4) (.t 20)⟩, ⟨some 5, none, .mov (.c (.int .i64 0))⟩] none)
 .ret))))
theorem f159 : FnIs Tryz.prog 159 21 c159 [.cell 4 (some 2), .tmp 5] := ⟨_, Tryz.func159, rfl, by kernel_rfl, rfl⟩
def c160 : AC := (.seq (.reg [⟨some 2, none, .mov (.c (.sl 1 [] (.exact 0)))⟩] none)
 (.seq (.seq (.reg [⟨some 3, none, .mov (.t 0)⟩, ⟨some 4, none, .eqN false (.t 3)⟩] none)
 (.cond (.t 4) (.seq (.reg [⟨some 2, none, .mov (.c (.sl 1 [] (.exact 0)))⟩] none)
 .ret) .skip))
 (.seq (.reg [⟨some 5, none, .buildSl 1 []⟩, ⟨some 6, none, .mov (.t 0)⟩, ⟨some 7, none, .app false 1 16 (.t 5) (.t 6)⟩, ⟨some 2, none, .mov (.t 7)⟩] none)
 .ret)))
theorem f160 : FnIs Tryz.prog 160 8 c160 [.tmp 2] := ⟨_, Tryz.func160, rfl, by kernel_rfl, rfl⟩
def c161 : AC := (.seq (.reg [⟨some 2, none, .box (.t 0)⟩, ⟨some 3, none, .box (.t 1)⟩, ⟨some 4, none, .mov (.c (.bool false))⟩] none)
 (.seq (.reg [⟨some 5, none, .faddr 1 (.t 2)⟩, ⟨some 6, none, .load none (.t 5)⟩, ⟨some 7, none, .bin .neq (.t 6) (.c (.str []))⟩, ⟨some 8, none, .mov (.t 7)⟩, ⟨some 9, some (8, true), .faddr 1 (.t 2)⟩, ⟨some 10, some (8, true), .load none (.t 9)⟩, ⟨some 11, some (8, true), .faddr 0 (.t 3)⟩, ⟨some 12, some (8, true), .load none (.t 11)⟩, ⟨some 13, some (8, true), .bin .lss (.t 10) (.t 12)⟩, ⟨some 14, none, .pick (.t 8) (.t 13) (.c (.bool false))⟩, ⟨some 4, none, .mov (.t 14)⟩] none)
 .ret))
theorem f161 : FnIs Tryz.prog 161 15 c161 [.tmp 4] := ⟨_, Tryz.func161, rfl, by kernel_rfl, rfl⟩
def c162 : AC := (.seq (.reg [⟨some 2, none, .box (.t 0)⟩, ⟨some 3, none, .box (.t 1)⟩, ⟨some 4, none, .alloc [.str [], .str []]⟩] none)
 (.seq (.reg [⟨some 6, none, .faddr 0 (.t 2)⟩, ⟨some 7, none, .load none (.t 6)⟩, ⟨some 8, none, .faddr 0 (.t 3)⟩, ⟨some 9, none, .load none (.t 8)⟩, ⟨some 10, none, .mm false (.t 7) (.t 9)⟩, ⟨some 11, none, .faddr 1 (.t 2)⟩, ⟨some 12, none, .load none (.t 11)⟩, ⟨some 13, none, .faddr 1 (.t 3)⟩, ⟨some 14, none, .load none (.t 13)⟩, ⟨some 15, none, .mm true (.t 12) (.t 14)⟩, ⟨some 16, none, .build [.str [], .str []] [(0, 1, (.t 10)), (1, 1, (.t 15))]⟩, ⟨some 5, none, .alloc [.str [], .str []]⟩, ⟨none, none, .store 2 (.t 5) (.t 16)⟩] none)
 (.seq (.seq (.reg [⟨some 17, none, .faddr 1 (.t 2)⟩, ⟨some 18, none, .load none (.t 17)⟩, ⟨some 19, none, .bin .eql (.t 18) (.c (.str []))⟩, ⟨some 20, none, .mov (.t 19)⟩, ⟨some 21, some (20, false), .faddr 1 (.t 3)⟩, ⟨some 22, some (20, false), .load none (.t 21)⟩, ⟨some 23, some (20, false), .bin .eql (.t 22) (.c (.str []))⟩, ⟨some 24, none, .pick (.t 20) (.c (.bool true)) (.t 23)⟩] none)
 (.cond (.t 24) (.reg [⟨some 25, none, .faddr 1 (.t 5)⟩, ⟨none, none, .store 1 (.t 25) (.c (.str []))⟩] none) .skip))
 (.seq (.reg [⟨some 26, none, .load (some 2) (.t 5)⟩, ⟨none, none, .store 2 (.t 4) (.t 26)⟩] none)
 .ret))))
theorem f162 : FnIs Tryz.prog 162 27 c162 [.cell 4 (some 2)] := ⟨_, Tryz.func162, rfl, by kernel_rfl, rfl⟩
def c165 : AC := (.seq (.reg [⟨some 4, none, .mov (.c (.bool false))⟩, ⟨some 5, none, .mov (.c (.int .i64 0))⟩] none)
 (.seq (.reg [⟨some 6, none, .mov (.c (.bool false))⟩] none)
 (.seq (.seq (.reg [⟨some 10, none, .mov (.t 0)⟩, ⟨some 11, none, .call 51 [(.t 10)]⟩, ⟨some 7, none, .mov (.t 11)⟩] none)
 (.seq (.reg [⟨some 12, none, .mov (.t 7)⟩, ⟨some 13, none, .bin .neq (.t 12) (.c (.int .i64 0))⟩] none)
 (.cond (.t 13) (.seq (.reg [⟨some 14, none, .mov (.t 6)⟩, ⟨some 15, none, .mov (.t 7)⟩, ⟨some 4, none, .mov (.t 14)⟩, ⟨some 5, none, .mov (.t 15)⟩] none)
 .ret) .skip)))
 (.seq (.reg [⟨some 17, none, .mov (.t 1)⟩, ⟨some 18, none, .callv (.t 17) []⟩, ⟨some 16, none, .mov (.t 18)⟩, ⟨some 19, none, .ext (.t 16) 0⟩, ⟨some 20, none, .ext (.t 16) 1⟩, ⟨some 8, none, .mov (.t 19)⟩, ⟨some 9, none, .mov (.t 20)⟩] none)
 (.seq (.seq (.reg [⟨some 21, none, .mov (.t 9)⟩, ⟨some 22, none, .bin .neq (.t 21) (.c (.int .i64 0))⟩] none)
 (.cond (.t 22) (.seq (.reg [⟨some 23, none, .mov (.t 6)⟩, ⟨some 24, none, .mov (.t 9)⟩, ⟨some 4, none, .mov (.t 23)⟩, ⟨some 5, none, .mov (.t 24)⟩] none)
 .ret) .skip))
 (.seq (.reg [⟨some 25, none, .mov (.t 8)⟩, ⟨some 4, none, .mov (.t 25)⟩, ⟨some 5, none, .mov (.c (.int .i64 0))⟩] none)
 .ret))))))
theorem f165 : FnIs Tryz.prog 165 26 c165 [.tmp 4, .tmp 5] := ⟨_, Tryz.func165, rfl, by kernel_rfl, rfl⟩
def c166 : AC := (.seq (.reg [⟨some 2, none, .mov (.c (.bool false))⟩, ⟨some 3, none, .mov (.c (.int .i64 0))⟩] none)
 (.seq (.reg [⟨some 8, none, .mkmap⟩, ⟨some 4, none, .mov (.t 8)⟩] none)
 (.seq (.reg [⟨some 5, none, .mov (.c (.sl 1 [] (.exact 0)))⟩] none)
 (.seq (.seq (.reg [⟨some 9, none, .load none (.t 0)⟩, ⟨some 10, none, .len false (.t 9)⟩, ⟨some 11, none, .mov (.c (.int .i64 0))⟩] none)
 (.block 0 (.loop (.seq (.reg [⟨some 12, none, .bin .lss (.t 11) (.t 10)⟩] none)
 (.seq (.cond (.t 12) .skip (.exit 0))
 (.seq (.block 1 (.seq (.reg [⟨some 13, none, .mov (.t 11)⟩, ⟨some 14, none, .iaddr 3 (.t 9) (.t 11)⟩, ⟨some 15, none, .load (some 3) (.t 14)⟩, ⟨some 7, none, .alloc [.str [], .str [], .bool false]⟩, ⟨some 6, none, .mov (.t 13)⟩, ⟨none, none, .store 3 (.t 7) (.t 15)⟩] none)
 (.seq (.seq (.reg [⟨some 16, none, .faddr 0 (.t 7)⟩, ⟨some 17, none, .load none (.t 16)⟩, ⟨some 18, none, .len true (.t 17)⟩, ⟨some 19, none, .bin .gtr (.t 18) (.c (.int .i64 120))⟩, ⟨some 20, none, .mov (.t 19)⟩, ⟨some 21, some (20, false), .faddr 1 (.t 7)⟩, ⟨some 22, some (20, false), .load none (.t 21)⟩, ⟨some 23, some (20, false), .len true (.t 22)⟩, ⟨some 24, some (20, false), .bin .gtr (.t 23) (.c (.int .i64 199))⟩, ⟨some 25, none, .pick (.t 20) (.c (.bool true)) (.t 24)⟩, ⟨some 26, none, .mov (.t 25)⟩, ⟨some 27, some (26, false), .faddr 2 (.t 7)⟩, ⟨some 28, some (26, false), .load none (.t 27)⟩, ⟨some 29, some (26, false), .mov (.t 28)⟩, ⟨some 30, some (29, true), .faddr 1 (.t 7)⟩, ⟨some 31, some (29, true), .load none (.t 30)⟩, ⟨some 32, some (29, true), .bin .neq (.t 31) (.c (.str []))⟩, ⟨some 33, some (26, false), .pick (.t 29) (.t 32) (.c (.bool false))⟩, ⟨some 34, none, .pick (.t 26) (.c (.bool true)) (.t 33)⟩, ⟨some 35, none, .mov (.t 34)⟩, ⟨some 36, some (35, false), .mov (.t 6)⟩, ⟨some 37, some (35, false), .bin .geq (.t 36) (.c (.int .i64 64))⟩, ⟨some 38, none, .pick (.t 35) (.c (.bool true)) (.t 37)⟩, ⟨some 39, none, .mov (.t 38)⟩, ⟨some 40, some (39, false), .mov (.t 6)⟩, ⟨some 41, some (39, false), .bin .gtr (.t 40) (.c (.int .i64 0))⟩, ⟨some 42, some (39, false), .mov (.t 41)⟩, ⟨some 43, some (42, true), .load none (.t 0)⟩, ⟨some 44, some (42, true), .mov (.t 6)⟩, ⟨some 45, some (42, true), .bin .sub (.t 44) (.c (.int .i64 1))⟩, ⟨some 46, some (42, true), .iaddr 3 (.t 43) (.t 45)⟩, ⟨some 47, some (42, true), .faddr 0 (.t 46)⟩, ⟨some 48, some (42, true), .load none (.t 47)⟩, ⟨some 49, some (42, true), .faddr 0 (.t 7)⟩, ⟨some 50, some (42, true), .load none (.t 49)⟩, ⟨some 51, some (42, true), .bin .geq (.t 48) (.t 50)⟩, ⟨some 52, some (39, false), .pick (.t 42) (.t 51) (.c (.bool false))⟩, ⟨some 53, none, .pick (.t 39) (.c (.bool true)) (.t 52)⟩] (some [(27, 34), (32, 34)]))
 (.cond (.t 53) (.seq (.reg [⟨some 2, none, .mov (.c (.bool false))⟩, ⟨some 3, none, .mov (.c (.int .i64 2))⟩] none)
 .ret) .skip))
 (.seq (.reg [⟨some 54, none, .mov (.t 4)⟩, ⟨some 55, none, .faddr 0 (.t 7)⟩, ⟨some 56, none, .load none (.t 55)⟩, ⟨some 57, none, .load (some 3) (.t 7)⟩, ⟨none, none, .mput (.t 54) (.t 56) (.t 57)⟩] none)
 (.reg [⟨some 58, none, .mov (.t 5)⟩, ⟨some 59, none, .faddr 0 (.t 7)⟩, ⟨some 60, none, .load none (.t 59)⟩, ⟨some 61, none, .buildSl 1 [(.t 60)]⟩, ⟨some 62, none, .app false 1 16 (.t 58) (.t 61)⟩, ⟨some 5, none, .mov (.t 62)⟩] none)))))
 (.reg [⟨some 63, none, .bin .add (.t 11) (.c (.int .i64 1))⟩, ⟨some 11, none, .mov (.t 63)⟩] none)))))))
 (.seq (.reg [⟨some 64, none, .load none (.t 1)⟩, ⟨some 65, none, .load none (.t 1)⟩, ⟨some 66, none, .mov (.t 4)⟩, ⟨some 67, none, .mov (.t 5)⟩, ⟨some 68, none, .nilck (.t 64)⟩, ⟨some 69, none, .faddr 2 (.t 68)⟩, ⟨none, none, .store 1 (.t 69) (.t 66)⟩, ⟨some 70, none, .nilck (.t 65)⟩, ⟨some 71, none, .faddr 3 (.t 70)⟩, ⟨none, none, .store 1 (.t 71) (.t 67)⟩] (some [(0, 1), (1, 6)]))
 (.seq (.reg [⟨some 2, none, .mov (.c (.bool true))⟩, ⟨some 3, none, .mov (.c (.int .i64 0))⟩] none)
 .ret))))))
theorem f166 : FnIs Tryz.prog 166 72 c166 [.tmp 2, .tmp 3] := ⟨_, Tryz.func166, rfl, by kernel_rfl, rfl⟩
def c167 : AC := (.seq (.reg [⟨some 4, none, .mov (.c (.str []))⟩, ⟨some 5, none, .mov (.c (.int .i64 0))⟩] none)
 (.seq (.reg [⟨some 6, none, .mov (.c (.str []))⟩] none)
 (.seq (.seq (.reg [⟨some 10, none, .mov (.t 0)⟩, ⟨some 11, none, .call 51 [(.t 10)]⟩, ⟨some 7, none, .mov (.t 11)⟩] none)
 (.seq (.reg [⟨some 12, none, .mov (.t 7)⟩, ⟨some 13, none, .bin .neq (.t 12) (.c (.int .i64 0))⟩] none)
 (.cond (.t 13) (.seq (.reg [⟨some 14, none, .mov (.t 6)⟩, ⟨some 15, none, .mov (.t 7)⟩, ⟨some 4, none, .mov (.t 14)⟩, ⟨some 5, none, .mov (.t 15)⟩] none)
 .ret) .skip)))
 (.seq (.reg [⟨some 17, none, .mov (.t 1)⟩, ⟨some 18, none, .callv (.t 17) []⟩, ⟨some 16, none, .mov (.t 18)⟩, ⟨some 19, none, .ext (.t 16) 0⟩, ⟨some 20, none, .ext (.t 16) 1⟩, ⟨some 8, none, .mov (.t 19)⟩, ⟨some 9, none, .mov (.t 20)⟩] none)
 (.seq (.seq (.reg [⟨some 21, none, .mov (.t 9)⟩, ⟨some 22, none, .bin .neq (.t 21) (.c (.int .i64 0))⟩] none)
 (.cond (.t 22) (.seq (.reg [⟨some 23, none, .mov (.t 6)⟩, ⟨some 24, none, .mov (.t 9)⟩, ⟨some 4, none, .mov (.t 23)⟩, ⟨some 5, none, .mov (.t 24)⟩] none)
 .ret) .skip))
 (.seq (.reg [⟨some 25, none, .mov (.t 8)⟩, ⟨some 4, none, .mov (.t 25)⟩, ⟨some 5, none, .mov (.c (.int .i64 0))⟩] none)
 .ret))))))
theorem f167 : FnIs Tryz.prog 167 26 c167 [.tmp 4, .tmp 5] := ⟨_, Tryz.func167, rfl, by kernel_rfl, rfl⟩
def c168 : AC := (.seq (.reg [⟨some 2, none, .mov (.c (.str []))⟩, ⟨some 3, none, .mov (.c (.int .i64 0))⟩] none)
 (.seq (.seq (.reg [⟨some 11, none, .load none (.t 0)⟩, ⟨some 12, none, .nilck (.t 11)⟩, ⟨some 13, none, .faddr 2 (.t 12)⟩, ⟨some 14, none, .load none (.t 13)⟩, ⟨some 15, none, .load none (.t 1)⟩, ⟨some 16, none, .mlook (.agg [.str [], .str [], .bool false]) true (.t 14) (.t 15)⟩, ⟨some 10, none, .mov (.t 16)⟩, ⟨some 17, none, .ext (.t 10) 0⟩, ⟨some 18, none, .ext (.t 10) 1⟩, ⟨some 4, none, .alloc [.str [], .str [], .bool false]⟩, ⟨none, none, .store 3 (.t 4) (.t 17)⟩, ⟨some 5, none, .mov (.t 18)⟩] (some [(0, 4), (3, 4), (0, 9), (3, 9), (4, 9), (5, 9)]))
 (.seq (.reg [⟨some 19, none, .mov (.t 5)⟩] none)
 (.cond (.t 19) (.seq (.seq (.reg [⟨some 20, none, .faddr 2 (.t 4)⟩, ⟨some 21, none, .load none (.t 20)⟩] none)
 (.cond (.t 21) (.seq (.reg [⟨some 2, none, .mov (.c (.str []))⟩, ⟨some 3, none, .mov (.c (.int .i64 7))⟩] none)
 .ret) .skip))
 (.seq (.reg [⟨some 22, none, .faddr 1 (.t 4)⟩, ⟨some 23, none, .load none (.t 22)⟩, ⟨some 2, none, .mov (.t 23)⟩, ⟨some 3, none, .mov (.c (.int .i64 0))⟩] none)
 .ret)) .skip)))
 (.seq (.reg [⟨some 25, none, .load none (.t 0)⟩, ⟨some 26, none, .nilck (.t 25)⟩, ⟨some 27, none, .faddr 0 (.t 26)⟩, ⟨some 28, none, .load none (.t 27)⟩, ⟨some 29, none, .load none (.t 1)⟩, ⟨some 30, none, .load none (.t 0)⟩, ⟨some 31, none, .nilck (.t 30)⟩, ⟨some 32, none, .faddr 1 (.t 31)⟩, ⟨some 33, none, .load none (.t 32)⟩, ⟨some 34, none, .call 50 [(.t 28), (.t 29), (.t 33)]⟩, ⟨some 24, none, .mov (.t 34)⟩, ⟨some 35, none, .ext (.t 24) 0⟩, ⟨some 36, none, .ext (.t 24) 1⟩, ⟨some 6, none, .mov (.t 35)⟩, ⟨some 7, none, .mov (.t 36)⟩] (some [(0, 4), (3, 4), (0, 5), (3, 5), (4, 5), (0, 8), (3, 8), (4, 8)]))
 (.seq (.seq (.reg [⟨some 37, none, .mov (.t 7)⟩, ⟨some 38, none, .bin .eql (.t 37) (.c (.int .i64 12))⟩] none)
 (.cond (.t 38) (.seq (.reg [⟨some 39, none, .mov (.t 7)⟩, ⟨some 2, none, .mov (.c (.str []))⟩, ⟨some 3, none, .mov (.t 39)⟩] none)
 .ret) .skip))
 (.seq (.reg [⟨some 41, none, .load none (.t 0)⟩, ⟨some 42, none, .nilck (.t 41)⟩, ⟨some 43, none, .faddr 4 (.t 42)⟩, ⟨some 44, none, .load (some 2) (.t 43)⟩, ⟨some 45, none, .load none (.t 1)⟩, ⟨some 46, none, .call 169 [(.t 44), (.t 45)]⟩, ⟨some 40, none, .mov (.t 46)⟩, ⟨some 47, none, .ext (.t 40) 0⟩, ⟨some 48, none, .ext (.t 40) 1⟩, ⟨some 8, none, .alloc [.sl 1 [] (.exact 0), .sl 2 [] (.exact 0)]⟩, ⟨none, none, .store 2 (.t 8) (.t 47)⟩, ⟨some 9, none, .mov (.t 48)⟩] (some [(0, 4), (3, 4), (0, 9), (3, 9), (4, 9), (5, 9)]))
 (.seq (.seq (.reg [⟨some 49, none, .mov (.t 9)⟩, ⟨some 50, none, .bin .neq (.t 49) (.c (.int .i64 0))⟩] none)
 (.cond (.t 50) (.seq (.reg [⟨some 51, none, .mov (.t 9)⟩, ⟨some 2, none, .mov (.c (.str []))⟩, ⟨some 3, none, .mov (.t 51)⟩] none)
 .ret) .skip))
 (.seq (.reg [⟨some 52, none, .load none (.t 0)⟩, ⟨some 53, none, .load (some 2) (.t 8)⟩, ⟨some 54, none, .nilck (.t 52)⟩, ⟨some 55, none, .faddr 4 (.t 54)⟩, ⟨none, none, .store 2 (.t 55) (.t 53)⟩] none)
 (.seq (.reg [⟨some 56, none, .mov (.t 6)⟩, ⟨some 57, none, .mov (.t 7)⟩, ⟨some 2, none, .mov (.t 56)⟩, ⟨some 3, none, .mov (.t 57)⟩] none)
 .ret))))))))
theorem f168 : FnIs Tryz.prog 168 58 c168 [.tmp 2, .tmp 3] := ⟨_, Tryz.func168, rfl, by kernel_rfl, rfl⟩
def c169 : AC := (.seq (.reg [⟨some 2, none, .box (.t 0)⟩, ⟨some 4, none, .alloc [.sl 1 [] (.exact 0), .sl 2 [] (.exact 0)]⟩, ⟨some 5, none, .mov (.c (.int .i64 0))⟩] none)
 (.seq (.seq (.reg [⟨some 10, none, .load (some 2) (.t 2)⟩, ⟨some 11, none, .call 156 [(.t 10)]⟩, ⟨some 6, none, .mov (.t 11)⟩] none)
 (.seq (.reg [⟨some 12, none, .mov (.t 6)⟩, ⟨some 13, none, .bin .neq (.t 12) (.c (.int .i64 0))⟩] none)
 (.cond (.t 13) (.seq (.reg [⟨some 14, none, .build [.sl 1 [] (.exact 0), .sl 2 [] (.exact 0)] []⟩, ⟨some 15, none, .mov (.t 6)⟩, ⟨none, none, .store 2 (.t 4) (.t 14)⟩, ⟨some 5, none, .mov (.t 15)⟩] none)
 .ret) .skip)))
 (.seq (.reg [⟨some 16, none, .faddr 0 (.t 2)⟩, ⟨some 17, none, .load none (.t 16)⟩, ⟨some 18, none, .call 160 [(.t 17)]⟩, ⟨some 7, none, .mov (.t 18)⟩] none)
 (.seq (.seq (.reg [⟨some 20, none, .mov (.t 7)⟩, ⟨some 21, none, .mov (.t 1)⟩, ⟨some 22, none, .call 155 [(.t 20), (.t 21)]⟩, ⟨some 19, none, .mov (.t 22)⟩, ⟨some 23, none, .ext (.t 19) 0⟩, ⟨some 24, none, .ext (.t 19) 1⟩, ⟨some 8, none, .mov (.t 23)⟩, ⟨some 9, none, .mov (.t 24)⟩] none)
 (.seq (.reg [⟨some 25, none, .mov (.t 9)⟩, ⟨some 26, none, .un .not (.t 25)⟩] none)
 (.cond (.t 26) (.reg [⟨some 27, none, .mov (.t 7)⟩, ⟨some 28, none, .mov (.t 8)⟩, ⟨some 29, none, .mov (.t 1)⟩, ⟨some 30, none, .buildSl 1 [(.t 29)]⟩, ⟨some 31, none, .call 183 [(.t 27), (.t 28), (.t 30)]⟩, ⟨some 7, none, .mov (.t 31)⟩] none) .skip)))
 (.seq (.reg [⟨some 32, none, .mov (.t 7)⟩, ⟨some 33, none, .faddr 1 (.t 2)⟩, ⟨some 34, none, .load none (.t 33)⟩, ⟨some 35, none, .call 157 [(.t 34)]⟩, ⟨some 36, none, .call 159 [(.t 32), (.t 35)]⟩, ⟨some 37, none, .ext (.t 36) 0⟩, ⟨some 38, none, .ext (.t 36) 1⟩, ⟨none, none, .store 2 (.t 4) (.t 37)⟩, ⟨some 5, none, .mov (.t 38)⟩] none)
 .ret)))))
theorem f169 : FnIs Tryz.prog 169 39 c169 [.cell 4 (some 2), .tmp 5] := ⟨_, Tryz.func169, rfl, by kernel_rfl, rfl⟩
def c182 : AC := (.seq (.reg [⟨some 2, none, .mov (.c (.bool false))⟩, ⟨some 3, none, .mov (.c (.int .i64 0))⟩] none)
 (.seq (.seq (.reg [⟨some 6, none, .faddr 0 (.t 0)⟩, ⟨some 7, none, .load none (.t 6)⟩, ⟨some 8, none, .len true (.t 7)⟩, ⟨some 9, none, .bin .gtr (.t 8) (.c (.int .i64 120))⟩, ⟨some 10, none, .mov (.t 9)⟩, ⟨some 11, some (10, false), .faddr 1 (.t 0)⟩, ⟨some 12, some (10, false), .load none (.t 11)⟩, ⟨some 13, some (10, false), .len true (.t 12)⟩, ⟨some 14, some (10, false), .bin .gtr (.t 13) (.c (.int .i64 199))⟩, ⟨some 15, none, .pick (.t 10) (.c (.bool true)) (.t 14)⟩] none)
 (.cond (.t 15) (.seq (.reg [⟨some 2, none, .mov (.c (.bool false))⟩, ⟨some 3, none, .mov (.c (.int .i64 2))⟩] none)
 .ret) .skip))
 (.seq (.seq (.reg [⟨some 17, none, .load none (.t 1)⟩, ⟨some 18, none, .nilck (.t 17)⟩, ⟨some 19, none, .faddr 3 (.t 18)⟩, ⟨some 20, none, .load none (.t 19)⟩, ⟨some 21, none, .faddr 0 (.t 0)⟩, ⟨some 22, none, .load none (.t 21)⟩, ⟨some 23, none, .call 155 [(.t 20), (.t 22)]⟩, ⟨some 16, none, .mov (.t 23)⟩, ⟨some 24, none, .ext (.t 16) 0⟩, ⟨some 25, none, .ext (.t 16) 1⟩, ⟨some 4, none, .mov (.t 24)⟩, ⟨some 5, none, .mov (.t 25)⟩] (some [(0, 5), (3, 5)]))
 (.seq (.reg [⟨some 26, none, .mov (.t 5)⟩, ⟨some 27, none, .un .not (.t 26)⟩] none)
 (.cond (.t 27) (.seq (.seq (.reg [⟨some 28, none, .load none (.t 1)⟩, ⟨some 29, none, .nilck (.t 28)⟩, ⟨some 30, none, .faddr 3 (.t 29)⟩, ⟨some 31, none, .load none (.t 30)⟩, ⟨some 32, none, .len false (.t 31)⟩, ⟨some 33, none, .bin .geq (.t 32) (.c (.int .i64 64))⟩] none)
 (.cond (.t 33) (.seq (.reg [⟨some 2, none, .mov (.c (.bool false))⟩, ⟨some 3, none, .mov (.c (.int .i64 9))⟩] none)
 .ret) .skip))
 (.reg [⟨some 34, none, .load none (.t 1)⟩, ⟨some 35, none, .load none (.t 1)⟩, ⟨some 36, none, .nilck (.t 35)⟩, ⟨some 37, none, .faddr 3 (.t 36)⟩, ⟨some 38, none, .load none (.t 37)⟩, ⟨some 39, none, .mov (.t 4)⟩, ⟨some 40, none, .faddr 0 (.t 0)⟩, ⟨some 41, none, .load none (.t 40)⟩, ⟨some 42, none, .buildSl 1 [(.t 41)]⟩, ⟨some 43, none, .call 183 [(.t 38), (.t 39), (.t 42)]⟩, ⟨some 44, none, .nilck (.t 34)⟩, ⟨some 45, none, .faddr 3 (.t 44)⟩, ⟨none, none, .store 1 (.t 45) (.t 43)⟩] (some [(0, 1), (0, 4), (0, 7), (1, 7), (4, 7), (0, 8), (1, 8), (4, 8), (0, 9)]))) .skip)))
 (.seq (.reg [⟨some 46, none, .load none (.t 1)⟩, ⟨some 47, none, .nilck (.t 46)⟩, ⟨some 48, none, .faddr 2 (.t 47)⟩, ⟨some 49, none, .load none (.t 48)⟩, ⟨some 50, none, .faddr 0 (.t 0)⟩, ⟨some 51, none, .load none (.t 50)⟩, ⟨some 52, none, .load (some 3) (.t 0)⟩, ⟨none, none, .mput (.t 49) (.t 51) (.t 52)⟩] (some [(0, 5), (3, 5), (0, 6), (3, 6), (5, 6)]))
 (.seq (.reg [⟨some 2, none, .mov (.c (.bool true))⟩, ⟨some 3, none, .mov (.c (.int .i64 0))⟩] none)
 .ret)))))
theorem f182 : FnIs Tryz.prog 182 53 c182 [.tmp 2, .tmp 3] := ⟨_, Tryz.func182, rfl, by kernel_rfl, rfl⟩
def c184 : AC := (.seq (.reg [⟨some 1, none, .box (.t 0)⟩, ⟨some 2, none, .mov (.c (.int .i64 0))⟩] none)
 (.seq (.seq (.reg [⟨some 5, none, .faddr 0 (.t 1)⟩, ⟨some 6, none, .load none (.t 5)⟩, ⟨some 7, none, .faddr 1 (.t 1)⟩, ⟨some 8, none, .load none (.t 7)⟩, ⟨some 9, none, .raw (.abuild [.int .i64 0, .int .i64 0] [(0, 1), (1, 1)]) [(.t 6), (.t 8)]⟩, ⟨some 10, none, .mov (.c (.int .i64 0))⟩] none)
 (.block 0 (.loop (.seq (.reg [⟨some 11, none, .bin .lss (.t 10) (.c (.int .i64 2))⟩] none)
 (.seq (.cond (.t 11) .skip (.exit 0))
 (.seq (.block 1 (.seq (.reg [⟨some 12, none, .raw (.aidx 1 none 2) [(.t 9), (.t 10)]⟩, ⟨some 4, none, .mov (.t 12)⟩] none)
 (.seq (.reg [⟨some 13, none, .mov (.t 4)⟩, ⟨some 14, none, .bin .lss (.t 13) (.c (.int .i64 0))⟩, ⟨some 15, none, .mov (.t 14)⟩, ⟨some 16, some (15, false), .mov (.t 4)⟩, ⟨some 17, some (15, false), .bin .geq (.t 16) (.c (.int .i64 1048573))⟩, ⟨some 18, none, .pick (.t 15) (.c (.bool true)) (.t 17)⟩] none)
 (.cond (.t 18) (.seq (.reg [⟨some 2, none, .mov (.c (.int .i64 2))⟩] none)
 .ret) .skip))))
 (.reg [⟨some 19, none, .bin .add (.t 10) (.c (.int .i64 1))⟩, ⟨some 10, none, .mov (.t 19)⟩] none)))))))
 (.seq (.reg [⟨some 2, none, .mov (.c (.int .i64 0))⟩] none)
 .ret)))
theorem f184 : FnIs Tryz.prog 184 20 c184 [.tmp 2] := ⟨_, Tryz.func184, rfl, by kernel_rfl, rfl⟩
def c185 : AC := (.seq (.reg [⟨some 4, none, .mov (.c (.sl 1 [] (.exact 0)))⟩] none)
 (.seq (.reg [⟨some 5, none, .mov (.t 0)⟩, ⟨some 6, none, .mov (.t 1)⟩, ⟨some 7, none, .conv (.toInt .u16) (.t 6)⟩, ⟨some 8, none, .call 215 [(.t 5), (.t 7), (.c (.int .i64 2))]⟩, ⟨some 4, none, .mov (.t 8)⟩] none)
 .ret))
theorem f185 : FnIs Tryz.prog 185 9 c185 [.tmp 4] := ⟨_, Tryz.func185, rfl, by kernel_rfl, rfl⟩
def c186 : AC := (.seq (.reg [⟨some 4, none, .mov (.c (.sl 1 [] (.exact 0)))⟩] none)
 (.seq (.reg [⟨some 5, none, .mov (.t 0)⟩, ⟨some 6, none, .mov (.t 1)⟩, ⟨some 7, none, .conv (.toInt .u8) (.t 6)⟩, ⟨some 8, none, .call 216 [(.t 5), (.t 7), (.c (.int .i64 1))]⟩, ⟨some 4, none, .mov (.t 8)⟩] none)
 .ret))
theorem f186 : FnIs Tryz.prog 186 9 c186 [.tmp 4] := ⟨_, Tryz.func186, rfl, by kernel_rfl, rfl⟩
def c187 : AC := (.seq (.reg [⟨some 4, none, .mov (.c (.sl 1 [] (.exact 0)))⟩] none)
 (.seq (.reg [⟨some 5, none, .mov (.t 0)⟩, ⟨some 6, none, .mov (.t 1)⟩, ⟨some 7, none, .conv (.toInt .u32) (.t 6)⟩, ⟨some 8, none, .call 217 [(.t 5), (.t 7), (.c (.int .i64 4))]⟩, ⟨some 4, none, .mov (.t 8)⟩] none)
 .ret))
theorem f187 : FnIs Tryz.prog 187 9 c187 [.tmp 4] := ⟨_, Tryz.func187, rfl, by kernel_rfl, rfl⟩
def c190 : AC := (.seq (.reg [⟨some 4, none, .mov (.c (.sc (.float .f64 0)))⟩] none)
 (.seq (.cond (.c (.bool false)) (.seq (.reg [⟨some 5, none, .mov (.t 0)⟩, ⟨some 6, none, .mov (.t 1)⟩, ⟨some 7, none, .call 220 [(.t 5), (.t 6)]⟩, ⟨some 4, none, .mov (.t 7)⟩] none)
 .ret) .skip)
 (.seq (.reg [⟨some 8, none, .mov (.t 0)⟩, ⟨some 9, none, .mov (.t 1)⟩, ⟨some 10, none, .call 221 [(.t 8), (.t 9)]⟩, ⟨some 4, none, .mov (.t 10)⟩] none)
 .ret)))
theorem f190 : FnIs Tryz.prog 190 11 c190 [.tmp 4] := ⟨_, Tryz.func190, rfl, by kernel_rfl, rfl⟩
def c192 : AC := (.seq (.reg [⟨some 4, none, .mov (.c (.int .i64 0))⟩] none)
 (.seq (.reg [⟨some 8, none, .mov (.t 0)⟩, ⟨some 5, none, .mov (.c (.int .i64 0))⟩, ⟨some 6, none, .mov (.t 8)⟩] none)
 (.seq (.block 0 (.loop (.seq (.seq (.reg [⟨some 9, none, .mov (.t 5)⟩, ⟨some 10, none, .mov (.t 6)⟩, ⟨some 11, none, .bin .lss (.t 9) (.t 10)⟩] none)
 (.cond (.t 11) .skip (.exit 0)))
 (.block 1 (.seq (.reg [⟨some 12, none, .mov (.t 5)⟩, ⟨some 13, none, .mov (.t 6)⟩, ⟨some 14, none, .bin .add (.t 12) (.t 13)⟩, ⟨some 15, none, .conv (.toInt .u64) (.t 14)⟩, ⟨some 16, none, .bin .shr (.t 15) (.c (.int .u64 1))⟩, ⟨some 17, none, .conv (.toInt .i64) (.t 16)⟩, ⟨some 7, none, .mov (.t 17)⟩] none)
 (.seq (.reg [⟨some 18, none, .mov (.t 1)⟩, ⟨some 19, none, .mov (.t 7)⟩, ⟨some 20, none, .callv (.t 18) [(.t 19)]⟩, ⟨some 21, none, .un .not (.t 20)⟩] none)
 (.cond (.t 21) (.reg [⟨some 22, none, .mov (.t 7)⟩, ⟨some 23, none, .bin .add (.t 22) (.c (.int .i64 1))⟩, ⟨some 5, none, .mov (.t 23)⟩] none) (.reg [⟨some 24, none, .mov (.t 7)⟩, ⟨some 6, none, .mov (.t 24)⟩] none))))))))
 (.seq (.reg [⟨some 25, none, .mov (.t 5)⟩, ⟨some 4, none, .mov (.t 25)⟩] none)
 .ret))))
theorem f192 : FnIs Tryz.prog 192 26 c192 [.tmp 4] := ⟨_, Tryz.func192, rfl, by kernel_rfl, rfl⟩
def c193 : AC := (.seq (.reg [⟨some 4, none, .mov (.c (.bool false))⟩] none)
 (.seq (.reg [⟨some 5, none, .load none (.t 1)⟩, ⟨some 6, none, .mov (.t 0)⟩, ⟨some 7, none, .iaddr 3 (.t 5) (.t 6)⟩, ⟨some 8, none, .faddr 0 (.t 7)⟩, ⟨some 9, none, .load none (.t 8)⟩, ⟨some 10, none, .load none (.t 2)⟩, ⟨some 11, none, .bin .leq (.t 9) (.t 10)⟩, ⟨some 4, none, .mov (.t 11)⟩] (some [(0, 5), (4, 5)]))
 .ret))
theorem f193 : FnIs Tryz.prog 193 12 c193 [.tmp 4] := ⟨_, Tryz.func193, rfl, by kernel_rfl, rfl⟩
def c194 : AC := (.seq (.reg [⟨some 1, none, .box (.t 0)⟩, ⟨some 2, none, .mov (.c (.bool false))⟩] none)
 (.seq (.seq (.reg [⟨some 3, none, .faddr 0 (.t 1)⟩, ⟨some 4, none, .load none (.t 3)⟩] none)
 (.block 0 (.seq (.reg [⟨some 6, none, .bin .eql (.t 4) (.c (.int .i64 1))⟩, ⟨some 5, none, .mov (.t 6)⟩] none)
 (.cond (.t 5) (.seq (.reg [⟨some 7, none, .faddr 1 (.t 1)⟩, ⟨some 8, none, .load none (.t 7)⟩, ⟨some 9, none, .bin .eql (.t 8) (.c (.int .i64 0))⟩, ⟨some 2, none, .mov (.t 9)⟩] none)
 .ret) (.seq (.seq (.reg [⟨some 11, none, .bin .eql (.t 4) (.c (.int .i64 2))⟩, ⟨some 10, none, .mov (.t 11)⟩] none)
 (.cond (.t 10) .skip (.reg [⟨some 12, none, .bin .eql (.t 4) (.c (.int .i64 3))⟩, ⟨some 10, none, .mov (.t 12)⟩] none)))
 (.cond (.t 10) (.seq (.reg [⟨some 13, none, .faddr 2 (.t 1)⟩, ⟨some 14, none, .load none (.t 13)⟩, ⟨some 15, none, .bin .eql (.t 14) (.c (.str []))⟩, ⟨some 2, none, .mov (.t 15)⟩] none)
 .ret) .skip))))))
 (.seq (.reg [⟨some 2, none, .mov (.c (.bool false))⟩] none)
 .ret)))
theorem f194 : FnIs Tryz.prog 194 16 c194 [.tmp 2] := ⟨_, Tryz.func194, rfl, by kernel_rfl, rfl⟩
def c195 : AC := (.seq (.reg [⟨some 3, none, .box (.t 1)⟩, ⟨some 4, none, .mov (.c (.sl 1 [] (.exact 0)))⟩] none)
 (.seq (.seq (.reg [⟨some 7, none, .faddr 0 (.t 3)⟩, ⟨some 8, none, .load none (.t 7)⟩] none)
 (.block 0 (.seq (.reg [⟨some 10, none, .bin .eql (.t 8) (.c (.int .i64 2))⟩, ⟨some 9, none, .mov (.t 10)⟩] none)
 (.cond (.t 9) (.seq (.reg [⟨some 11, none, .mov (.t 0)⟩, ⟨some 12, none, .buildSl 1 [(.c (.int .u8 3))]⟩, ⟨some 13, none, .app false 1 1 (.t 11) (.t 12)⟩, ⟨some 14, none, .faddr 1 (.t 3)⟩, ⟨some 15, none, .load none (.t 14)⟩, ⟨some 16, none, .call 222 [(.t 13), (.t 15), (.c (.int .u8 0))]⟩, ⟨some 4, none, .mov (.t 16)⟩] (some [(1, 4), (2, 4)]))
 .ret) (.seq (.reg [⟨some 18, none, .bin .eql (.t 8) (.c (.int .i64 3))⟩, ⟨some 17, none, .mov (.t 18)⟩] none)
 (.cond (.t 17) (.seq (.reg [⟨some 19, none, .mov (.t 0)⟩, ⟨some 20, none, .buildSl 1 [(.c (.int .u8 4))]⟩, ⟨some 21, none, .app false 1 1 (.t 19) (.t 20)⟩, ⟨some 22, none, .faddr 1 (.t 3)⟩, ⟨some 23, none, .load none (.t 22)⟩, ⟨some 24, none, .call 222 [(.t 21), (.t 23), (.c (.int .u8 255))]⟩, ⟨some 4, none, .mov (.t 24)⟩] (some [(1, 4), (2, 4)]))
 .ret) .skip))))))
 (.seq (.reg [⟨some 25, none, .mov (.t 0)⟩, ⟨some 26, none, .buildSl 1 [(.c (.int .u8 2))]⟩, ⟨some 27, none, .app false 1 1 (.t 25) (.t 26)⟩, ⟨some 0, none, .mov (.t 27)⟩] none)
 (.seq (.seq (.reg [⟨some 28, none, .faddr 2 (.t 3)⟩, ⟨some 29, none, .load none (.t 28)⟩, ⟨some 30, none, .conv .s2b (.t 29)⟩, ⟨some 31, none, .len false (.t 30)⟩, ⟨some 32, none, .mov (.c (.int .i64 0))⟩] none)
 (.block 1 (.loop (.seq (.reg [⟨some 33, none, .bin .lss (.t 32) (.t 31)⟩] none)
 (.seq (.cond (.t 33) .skip (.exit 1))
 (.seq (.block 2 (.seq (.reg [⟨some 34, none, .iaddr 1 (.t 30) (.t 32)⟩, ⟨some 35, none, .load none (.t 34)⟩, ⟨some 6, none, .mov (.t 35)⟩] none)
 (.seq (.reg [⟨some 36, none, .mov (.t 0)⟩, ⟨some 37, none, .mov (.t 6)⟩, ⟨some 38, none, .buildSl 1 [(.t 37)]⟩, ⟨some 39, none, .app false 1 1 (.t 36) (.t 38)⟩, ⟨some 0, none, .mov (.t 39)⟩] none)
 (.seq (.reg [⟨some 40, none, .mov (.t 6)⟩, ⟨some 41, none, .bin .eql (.t 40) (.c (.int .u8 0))⟩] none)
 (.cond (.t 41) (.reg [⟨some 42, none, .mov (.t 0)⟩, ⟨some 43, none, .buildSl 1 [(.c (.int .u8 255))]⟩, ⟨some 44, none, .app false 1 1 (.t 42) (.t 43)⟩, ⟨some 0, none, .mov (.t 44)⟩] none) .skip)))))
 (.reg [⟨some 45, none, .bin .add (.t 32) (.c (.int .i64 1))⟩, ⟨some 32, none, .mov (.t 45)⟩] none)))))))
 (.seq (.reg [⟨some 46, none, .mov (.t 0)⟩, ⟨some 47, none, .buildSl 1 [(.c (.int .u8 0)), (.c (.int .u8 1))]⟩, ⟨some 48, none, .app false 1 1 (.t 46) (.t 47)⟩, ⟨some 4, none, .mov (.t 48)⟩] none)
 .ret)))))
theorem f195 : FnIs Tryz.prog 195 49 c195 [.tmp 4] := ⟨_, Tryz.func195, rfl, by kernel_rfl, rfl⟩
def c196 : AC := (.seq (.reg [⟨some 10, none, .load none (.t 1)⟩, ⟨some 11, none, .nilck (.t 10)⟩, ⟨some 12, none, .faddr 0 (.t 11)⟩, ⟨some 13, none, .load none (.t 12)⟩, ⟨some 14, none, .load none (.t 2)⟩, ⟨some 15, none, .call 155 [(.t 13), (.t 14)]⟩, ⟨some 9, none, .mov (.t 15)⟩, ⟨some 16, none, .ext (.t 9) 0⟩, ⟨some 17, none, .ext (.t 9) 1⟩, ⟨some 5, none, .mov (.t 16)⟩, ⟨some 6, none, .mov (.t 17)⟩] (some [(0, 4), (3, 4)]))
 (.seq (.reg [⟨some 18, none, .load none (.t 1)⟩, ⟨some 19, none, .nilck (.t 18)⟩, ⟨some 20, none, .faddr 0 (.t 19)⟩, ⟨some 21, none, .load none (.t 20)⟩, ⟨some 22, none, .mov (.t 5)⟩, ⟨some 23, none, .slc false 1 (.t 21) (some (.t 22)) none none⟩, ⟨some 24, none, .len false (.t 23)⟩, ⟨some 25, none, .mov (.c (.int .i64 0))⟩] none)
 (.block 0 (.loop (.seq (.reg [⟨some 26, none, .bin .lss (.t 25) (.t 24)⟩] none)
 (.seq (.cond (.t 26) .skip (.exit 0))
 (.seq (.block 1 (.seq (.reg [⟨some 27, none, .iaddr 1 (.t 23) (.t 25)⟩, ⟨some 28, none, .load none (.t 27)⟩, ⟨some 8, none, .mov (.t 28)⟩] none)
 (.seq (.reg [⟨some 29, none, .load none (.t 3)⟩, ⟨some 30, none, .bin .neq (.t 29) (.c (.str []))⟩, ⟨some 31, none, .mov (.t 30)⟩, ⟨some 32, some (31, true), .mov (.t 8)⟩, ⟨some 33, some (31, true), .load none (.t 3)⟩, ⟨some 34, some (31, true), .bin .geq (.t 32) (.t 33)⟩, ⟨some 35, none, .pick (.t 31) (.t 34) (.c (.bool false))⟩, ⟨some 36, none, .mov (.t 35)⟩, ⟨some 37, some (36, false), .mov (.t 0)⟩, ⟨some 38, some (36, false), .mov (.t 8)⟩, ⟨some 39, some (36, false), .callv (.t 37) [(.t 38)]⟩, ⟨some 40, some (36, false), .un .not (.t 39)⟩, ⟨some 41, none, .pick (.t 36) (.c (.bool true)) (.t 40)⟩] none)
 (.cond (.t 41) .ret .skip))))
 (.reg [⟨some 42, none, .bin .add (.t 25) (.c (.int .i64 1))⟩, ⟨some 25, none, .mov (.t 42)⟩] none))))))))
theorem f196 : FnIs Tryz.prog 196 43 c196 [] := ⟨_, Tryz.func196, rfl, by kernel_rfl, rfl⟩
def c197 : AC := (.seq (.reg [⟨some 4, none, .mov (.c (.bool false))⟩] none)
 (.seq (.reg [⟨some 5, none, .mov (.t 0)⟩, ⟨some 6, none, .call 223 [(.t 5)]⟩, ⟨some 7, none, .mov (.t 6)⟩, ⟨some 8, some (7, true), .mov (.t 1)⟩, ⟨some 9, some (7, true), .call 223 [(.t 8)]⟩, ⟨some 10, some (7, true), .un .not (.t 9)⟩, ⟨some 11, none, .pick (.t 7) (.t 10) (.c (.bool false))⟩, ⟨some 12, none, .mov (.t 11)⟩, ⟨some 13, some (12, false), .mov (.t 0)⟩, ⟨some 14, some (12, false), .mov (.t 1)⟩, ⟨some 15, some (12, false), .bin .lss (.t 13) (.t 14)⟩, ⟨some 16, none, .pick (.t 12) (.c (.bool true)) (.t 15)⟩, ⟨some 4, none, .mov (.t 16)⟩] none)
 .ret))
theorem f197 : FnIs Tryz.prog 197 17 c197 [.tmp 4] := ⟨_, Tryz.func197, rfl, by kernel_rfl, rfl⟩
def c198 : AC := (.seq (.reg [⟨some 2, none, .mov (.c (.bool false))⟩] none)
 (.seq (.reg [⟨some 3, none, .mov (.t 0)⟩, ⟨some 4, none, .mov (.t 0)⟩, ⟨some 5, none, .bin .neq (.t 3) (.t 4)⟩, ⟨some 2, none, .mov (.t 5)⟩] none)
 .ret))
theorem f198 : FnIs Tryz.prog 198 6 c198 [.tmp 2] := ⟨_, Tryz.func198, rfl, by kernel_rfl, rfl⟩
def c199 : AC := (.seq (.reg [⟨some 3, none, .box (.t 1)⟩, ⟨some 4, none, .mov (.c (.bool false))⟩] none)
 (.seq (.reg [⟨some 5, none, .mov (.t 0)⟩, ⟨some 6, none, .mkfn (.func 225) [] [(.t 3)]⟩, ⟨some 7, none, .call 224 [(.t 5), (.t 6)]⟩, ⟨some 4, none, .mov (.t 7)⟩] none)
 .ret))
theorem f199 : FnIs Tryz.prog 199 8 c199 [.tmp 4] := ⟨_, Tryz.func199, rfl, by kernel_rfl, rfl⟩
def c200 : AC := (.seq (.reg [⟨some 4, none, .mov (.c (.sl 1 [] (.exact 0)))⟩] none)
 (.seq (.reg [⟨some 8, none, .mov (.t 0)⟩, ⟨some 9, none, .mov (.t 1)⟩, ⟨some 10, none, .call 227 [(.t 8), (.t 9)]⟩, ⟨some 5, none, .mov (.t 10)⟩] none)
 (.seq (.seq (.reg [⟨some 11, none, .mov (.t 5)⟩, ⟨some 12, none, .bin .eql (.t 11) (.c (.int .i64 (-1)))⟩] none)
 (.cond (.t 12) (.seq (.reg [⟨some 13, none, .mov (.t 0)⟩, ⟨some 4, none, .mov (.t 13)⟩] none)
 .ret) .skip))
 (.seq (.seq (.reg [⟨some 14, none, .mov (.t 5)⟩, ⟨some 15, none, .bin .add (.t 14) (.c (.int .i64 1))⟩, ⟨some 6, none, .mov (.t 15)⟩] none)
 (.block 0 (.loop (.seq (.seq (.reg [⟨some 16, none, .mov (.t 6)⟩, ⟨some 17, none, .mov (.t 0)⟩, ⟨some 18, none, .len false (.t 17)⟩, ⟨some 19, none, .bin .lss (.t 16) (.t 18)⟩] none)
 (.cond (.t 19) .skip (.exit 0)))
 (.seq (.block 1 (.seq (.reg [⟨some 22, none, .mov (.t 0)⟩, ⟨some 23, none, .mov (.t 6)⟩, ⟨some 24, none, .iaddr 1 (.t 22) (.t 23)⟩, ⟨some 25, none, .load none (.t 24)⟩, ⟨some 7, none, .mov (.t 25)⟩] none)
 (.seq (.reg [⟨some 26, none, .mov (.t 1)⟩, ⟨some 27, none, .mov (.t 7)⟩, ⟨some 28, none, .callv (.t 26) [(.t 27)]⟩, ⟨some 29, none, .un .not (.t 28)⟩] none)
 (.cond (.t 29) (.seq (.reg [⟨some 30, none, .mov (.t 0)⟩, ⟨some 31, none, .mov (.t 5)⟩, ⟨some 32, none, .mov (.t 7)⟩, ⟨some 33, none, .iaddr 1 (.t 30) (.t 31)⟩, ⟨none, none, .store 1 (.t 33) (.t 32)⟩] none)
 (.reg [⟨some 34, none, .mov (.t 5)⟩, ⟨some 35, none, .bin .add (.t 34) (.c (.int .i64 1))⟩, ⟨some 5, none, .mov (.t 35)⟩] none)) .skip))))
 (.reg [⟨some 20, none, .mov (.t 6)⟩, ⟨some 21, none, .bin .add (.t 20) (.c (.int .i64 1))⟩, ⟨some 6, none, .mov (.t 21)⟩] none))))))
 (.seq (.reg [⟨some 36, none, .mov (.t 0)⟩, ⟨some 37, none, .mov (.t 5)⟩, ⟨some 38, none, .slc false 1 (.t 36) (some (.t 37)) none none⟩, ⟨none, none, .clr 1 [.str []] (.t 38)⟩] none)
 (.seq (.reg [⟨some 39, none, .mov (.t 0)⟩, ⟨some 40, none, .mov (.t 5)⟩, ⟨some 41, none, .slc false 1 (.t 39) none (some (.t 40)) none⟩, ⟨some 4, none, .mov (.t 41)⟩] none)
 .ret))))))
theorem f200 : FnIs Tryz.prog 200 42 c200 [.tmp 4] := ⟨_, Tryz.func200, rfl, by kernel_rfl, rfl⟩
def c201 : AC := (.seq (.reg [⟨some 3, none, .mov (.c (.bool false))⟩] none)
 (.seq (.reg [⟨some 4, none, .load none (.t 1)⟩, ⟨some 5, none, .mov (.t 0)⟩, ⟨some 6, none, .call 199 [(.t 4), (.t 5)]⟩, ⟨some 3, none, .mov (.t 6)⟩] none)
 .ret))
theorem f201 : FnIs Tryz.prog 201 7 c201 [.tmp 3] := ⟨_, Tryz.func201, rfl, by kernel_rfl, rfl⟩
def c215 : AC := (.seq (.reg [⟨some 6, none, .mov (.c (.sl 1 [] (.exact 0)))⟩] none)
 (.seq (.seq (.reg [⟨some 8, none, .mov (.t 2)⟩, ⟨some 9, none, .bin .sub (.t 8) (.c (.int .i64 1))⟩, ⟨some 7, none, .mov (.t 9)⟩] none)
 (.block 0 (.loop (.seq (.seq (.reg [⟨some 10, none, .mov (.t 7)⟩, ⟨some 11, none, .bin .geq (.t 10) (.c (.int .i64 0))⟩] none)
 (.cond (.t 11) .skip (.exit 0)))
 (.seq (.block 1 (.reg [⟨some 14, none, .mov (.t 0)⟩, ⟨some 15, none, .mov (.t 1)⟩, ⟨some 16, none, .conv (.toInt .u64) (.t 15)⟩, ⟨some 17, none, .mov (.t 7)⟩, ⟨some 18, none, .bin .mul (.c (.int .i64 8)) (.t 17)⟩, ⟨some 19, none, .bin .shr (.t 16) (.t 18)⟩, ⟨some 20, none, .conv (.toInt .u8) (.t 19)⟩, ⟨some 21, none, .buildSl 1 [(.t 20)]⟩, ⟨some 22, none, .app false 1 1 (.t 14) (.t 21)⟩, ⟨some 0, none, .mov (.t 22)⟩] none))
 (.reg [⟨some 12, none, .mov (.t 7)⟩, ⟨some 13, none, .bin .sub (.t 12) (.c (.int .i64 1))⟩, ⟨some 7, none, .mov (.t 13)⟩] none))))))
 (.seq (.reg [⟨some 23, none, .mov (.t 0)⟩, ⟨some 6, none, .mov (.t 23)⟩] none)
 .ret)))
theorem f215 : FnIs Tryz.prog 215 24 c215 [.tmp 6] := ⟨_, Tryz.func215, rfl, by kernel_rfl, rfl⟩
def c216 : AC := (.seq (.reg [⟨some 6, none, .mov (.c (.sl 1 [] (.exact 0)))⟩] none)
 (.seq (.seq (.reg [⟨some 8, none, .mov (.t 2)⟩, ⟨some 9, none, .bin .sub (.t 8) (.c (.int .i64 1))⟩, ⟨some 7, none, .mov (.t 9)⟩] none)
 (.block 0 (.loop (.seq (.seq (.reg [⟨some 10, none, .mov (.t 7)⟩, ⟨some 11, none, .bin .geq (.t 10) (.c (.int .i64 0))⟩] none)
 (.cond (.t 11) .skip (.exit 0)))
 (.seq (.block 1 (.reg [⟨some 14, none, .mov (.t 0)⟩, ⟨some 15, none, .mov (.t 1)⟩, ⟨some 16, none, .conv (.toInt .u64) (.t 15)⟩, ⟨some 17, none, .mov (.t 7)⟩, ⟨some 18, none, .bin .mul (.c (.int .i64 8)) (.t 17)⟩, ⟨some 19, none, .bin .shr (.t 16) (.t 18)⟩, ⟨some 20, none, .conv (.toInt .u8) (.t 19)⟩, ⟨some 21, none, .buildSl 1 [(.t 20)]⟩, ⟨some 22, none, .app false 1 1 (.t 14) (.t 21)⟩, ⟨some 0, none, .mov (.t 22)⟩] none))
 (.reg [⟨some 12, none, .mov (.t 7)⟩, ⟨some 13, none, .bin .sub (.t 12) (.c (.int .i64 1))⟩, ⟨some 7, none, .mov (.t 13)⟩] none))))))
 (.seq (.reg [⟨some 23, none, .mov (.t 0)⟩, ⟨some 6, none, .mov (.t 23)⟩] none)
 .ret)))
theorem f216 : FnIs Tryz.prog 216 24 c216 [.tmp 6] := ⟨_, Tryz.func216, rfl, by kernel_rfl, rfl⟩
def c217 : AC := (.seq (.reg [⟨some 6, none, .mov (.c (.sl 1 [] (.exact 0)))⟩] none)
 (.seq (.seq (.reg [⟨some 8, none, .mov (.t 2)⟩, ⟨some 9, none, .bin .sub (.t 8) (.c (.int .i64 1))⟩, ⟨some 7, none, .mov (.t 9)⟩] none)
 (.block 0 (.loop (.seq (.seq (.reg [⟨some 10, none, .mov (.t 7)⟩, ⟨some 11, none, .bin .geq (.t 10) (.c (.int .i64 0))⟩] none)
 (.cond (.t 11) .skip (.exit 0)))
 (.seq (.block 1 (.reg [⟨some 14, none, .mov (.t 0)⟩, ⟨some 15, none, .mov (.t 1)⟩, ⟨some 16, none, .conv (.toInt .u64) (.t 15)⟩, ⟨some 17, none, .mov (.t 7)⟩, ⟨some 18, none, .bin .mul (.c (.int .i64 8)) (.t 17)⟩, ⟨some 19, none, .bin .shr (.t 16) (.t 18)⟩, ⟨some 20, none, .conv (.toInt .u8) (.t 19)⟩, ⟨some 21, none, .buildSl 1 [(.t 20)]⟩, ⟨some 22, none, .app false 1 1 (.t 14) (.t 21)⟩, ⟨some 0, none, .mov (.t 22)⟩] none))
 (.reg [⟨some 12, none, .mov (.t 7)⟩, ⟨some 13, none, .bin .sub (.t 12) (.c (.int .i64 1))⟩, ⟨some 7, none, .mov (.t 13)⟩] none))))))
 (.seq (.reg [⟨some 23, none, .mov (.t 0)⟩, ⟨some 6, none, .mov (.t 23)⟩] none)
 .ret)))
theorem f217 : FnIs Tryz.prog 217 24 c217 [.tmp 6] := ⟨_, Tryz.func217, rfl, by kernel_rfl, rfl⟩
def c221 : AC := (.seq (.reg [⟨some 4, none, .mov (.c (.sc (.float .f64 0)))⟩] none)
 (.seq (.seq (.reg [⟨some 10, none, .mov (.t 1)⟩, ⟨some 11, none, .bin .eql (.t 10) (.c (.sc (.float .f64 0)))⟩, ⟨some 12, none, .mov (.t 11)⟩, ⟨some 13, some (12, false), .mov (.t 0)⟩, ⟨some 14, some (12, false), .call 236 [(.t 13), (.c (.int .i64 0))]⟩, ⟨some 15, none, .pick (.t 12) (.c (.bool true)) (.t 14)⟩, ⟨some 16, none, .mov (.t 15)⟩, ⟨some 17, some (16, false), .mov (.t 0)⟩, ⟨some 18, some (16, false), .call 237 [(.t 17)]⟩, ⟨some 19, none, .pick (.t 16) (.c (.bool true)) (.t 18)⟩, ⟨some 20, none, .mov (.t 19)⟩, ⟨some 21, some (20, false), .mov (.t 1)⟩, ⟨some 22, some (20, false), .call 237 [(.t 21)]⟩, ⟨some 23, none, .pick (.t 20) (.c (.bool true)) (.t 22)⟩] none)
 (.cond (.t 23) (.seq (.reg [⟨some 24, none, .call 238 []⟩, ⟨some 4, none, .mov (.t 24)⟩] none)
 .ret) .skip))
 (.seq (.reg [⟨some 25, none, .mov (.t 1)⟩, ⟨some 26, none, .call 239 [(.t 25)]⟩, ⟨some 1, none, .mov (.t 26)⟩] none)
 (.seq (.reg [⟨some 28, none, .mov (.t 1)⟩, ⟨some 29, none, .call 240 [(.t 28)]⟩, ⟨some 27, none, .mov (.t 29)⟩, ⟨some 30, none, .ext (.t 27) 0⟩, ⟨some 31, none, .ext (.t 27) 1⟩, ⟨some 5, none, .mov (.t 30)⟩, ⟨some 6, none, .mov (.t 31)⟩] none)
 (.seq (.reg [⟨some 32, none, .mov (.t 0)⟩, ⟨some 7, none, .mov (.t 32)⟩] none)
 (.seq (.seq (.reg [⟨some 33, none, .mov (.t 0)⟩, ⟨some 34, none, .bin .lss (.t 33) (.c (.sc (.float .f64 0)))⟩] none)
 (.cond (.t 34) (.reg [⟨some 35, none, .mov (.t 0)⟩, ⟨some 36, none, .un .neg (.t 35)⟩, ⟨some 7, none, .mov (.t 36)⟩] none) .skip))
 (.seq (.block 0 (.loop (.seq (.seq (.reg [⟨some 37, none, .mov (.t 7)⟩, ⟨some 38, none, .mov (.t 1)⟩, ⟨some 39, none, .bin .geq (.t 37) (.t 38)⟩] none)
 (.cond (.t 39) .skip (.exit 0)))
 (.block 1 (.seq (.reg [⟨some 41, none, .mov (.t 7)⟩, ⟨some 42, none, .call 240 [(.t 41)]⟩, ⟨some 40, none, .mov (.t 42)⟩, ⟨some 43, none, .ext (.t 40) 0⟩, ⟨some 44, none, .ext (.t 40) 1⟩, ⟨some 8, none, .mov (.t 43)⟩, ⟨some 9, none, .mov (.t 44)⟩] none)
 (.seq (.seq (.reg [⟨some 45, none, .mov (.t 8)⟩, ⟨some 46, none, .mov (.t 5)⟩, ⟨some 47, none, .bin .lss (.t 45) (.t 46)⟩] none)
 (.cond (.t 47) (.reg [⟨some 48, none, .mov (.t 9)⟩, ⟨some 49, none, .bin .sub (.t 48) (.c (.int .i64 1))⟩, ⟨some 9, none, .mov (.t 49)⟩] none) .skip))
 (.reg [⟨some 50, none, .mov (.t 7)⟩, ⟨some 51, none, .mov (.t 1)⟩, ⟨some 52, none, .mov (.t 9)⟩, ⟨some 53, none, .mov (.t 6)⟩, ⟨some 54, none, .bin .sub (.t 52) (.t 53)⟩, ⟨some 55, none, .call 241 [(.t 51), (.t 54)]⟩, ⟨some 56, none, .bin .sub (.t 50) (.t 55)⟩, ⟨some 7, none, .mov (.t 56)⟩] none)))))))
 (.seq (.seq (.reg [⟨some 57, none, .mov (.t 0)⟩, ⟨some 58, none, .bin .lss (.t 57) (.c (.sc (.float .f64 0)))⟩] none)
 (.cond (.t 58) (.reg [⟨some 59, none, .mov (.t 7)⟩, ⟨some 60, none, .un .neg (.t 59)⟩, ⟨some 7, none, .mov (.t 60)⟩] none) .skip))
 (.seq (.reg [⟨some 61, none, .mov (.t 7)⟩, ⟨some 4, none, .mov (.t 61)⟩] none)
 .ret)))))))))
theorem f221 : FnIs Tryz.prog 221 62 c221 [.tmp 4] := ⟨_, Tryz.func221, rfl, by kernel_rfl, rfl⟩
def c222 : AC := (.seq (.reg [⟨some 6, none, .mov (.c (.sl 1 [] (.exact 0)))⟩] none)
 (.seq (.reg [⟨some 9, none, .mov (.t 1)⟩, ⟨some 10, none, .conv (.toInt .u64) (.t 9)⟩, ⟨some 11, none, .bin .xor (.t 10) (.c (.int .u64 9223372036854775808))⟩, ⟨some 7, none, .mov (.t 11)⟩] none)
 (.seq (.seq (.reg [⟨some 8, none, .mov (.c (.int .i64 56))⟩] none)
 (.block 0 (.loop (.seq (.seq (.reg [⟨some 12, none, .mov (.t 8)⟩, ⟨some 13, none, .bin .geq (.t 12) (.c (.int .i64 0))⟩] none)
 (.cond (.t 13) .skip (.exit 0)))
 (.seq (.block 1 (.reg [⟨some 16, none, .mov (.t 0)⟩, ⟨some 17, none, .mov (.t 7)⟩, ⟨some 18, none, .mov (.t 8)⟩, ⟨some 19, none, .bin .shr (.t 17) (.t 18)⟩, ⟨some 20, none, .conv (.toInt .u8) (.t 19)⟩, ⟨some 21, none, .mov (.t 2)⟩, ⟨some 22, none, .bin .xor (.t 20) (.t 21)⟩, ⟨some 23, none, .buildSl 1 [(.t 22)]⟩, ⟨some 24, none, .app false 1 1 (.t 16) (.t 23)⟩, ⟨some 0, none, .mov (.t 24)⟩] none))
 (.reg [⟨some 14, none, .mov (.t 8)⟩, ⟨some 15, none, .bin .sub (.t 14) (.c (.int .i64 8))⟩, ⟨some 8, none, .mov (.t 15)⟩] none))))))
 (.seq (.reg [⟨some 25, none, .mov (.t 0)⟩, ⟨some 6, none, .mov (.t 25)⟩] none)
 .ret))))
theorem f222 : FnIs Tryz.prog 222 26 c222 [.tmp 6] := ⟨_, Tryz.func222, rfl, by kernel_rfl, rfl⟩
def c223 : AC := (.seq (.reg [⟨some 2, none, .mov (.c (.bool false))⟩] none)
 (.seq (.reg [⟨some 3, none, .mov (.t 0)⟩, ⟨some 4, none, .mov (.t 0)⟩, ⟨some 5, none, .bin .neq (.t 3) (.t 4)⟩, ⟨some 2, none, .mov (.t 5)⟩] none)
 .ret))
theorem f223 : FnIs Tryz.prog 223 6 c223 [.tmp 2] := ⟨_, Tryz.func223, rfl, by kernel_rfl, rfl⟩
def c224 : AC := (.seq (.reg [⟨some 4, none, .mov (.c (.bool false))⟩] none)
 (.seq (.reg [⟨some 5, none, .mov (.t 0)⟩, ⟨some 6, none, .mov (.t 1)⟩, ⟨some 7, none, .call 242 [(.t 5), (.t 6)]⟩, ⟨some 8, none, .bin .geq (.t 7) (.c (.int .i64 0))⟩, ⟨some 4, none, .mov (.t 8)⟩] none)
 .ret))
theorem f224 : FnIs Tryz.prog 224 9 c224 [.tmp 4] := ⟨_, Tryz.func224, rfl, by kernel_rfl, rfl⟩
def c225 : AC := (.seq (.reg [⟨some 2, none, .box (.t 0)⟩, ⟨some 3, none, .mov (.c (.bool false))⟩] none)
 (.seq (.reg [⟨some 4, none, .load (some 2) (.t 2)⟩, ⟨some 5, none, .load none (.t 1)⟩, ⟨some 6, none, .call 226 [(.t 4), (.t 5)]⟩, ⟨some 3, none, .mov (.t 6)⟩] none)
 .ret))
theorem f225 : FnIs Tryz.prog 225 7 c225 [.tmp 3] := ⟨_, Tryz.func225, rfl, by kernel_rfl, rfl⟩
def c226 : AC := (.seq (.reg [⟨some 2, none, .box (.t 0)⟩, ⟨some 4, none, .mov (.c (.bool false))⟩] none)
 (.seq (.reg [⟨some 5, none, .mov (.t 1)⟩, ⟨some 6, none, .faddr 0 (.t 2)⟩, ⟨some 7, none, .load none (.t 6)⟩, ⟨some 8, none, .bin .geq (.t 5) (.t 7)⟩, ⟨some 9, none, .mov (.t 8)⟩, ⟨some 10, some (9, true), .faddr 1 (.t 2)⟩, ⟨some 11, some (9, true), .load none (.t 10)⟩, ⟨some 12, some (9, true), .bin .eql (.t 11) (.c (.str []))⟩, ⟨some 13, some (9, true), .mov (.t 12)⟩, ⟨some 14, some (13, false), .mov (.t 1)⟩, ⟨some 15, some (13, false), .faddr 1 (.t 2)⟩, ⟨some 16, some (13, false), .load none (.t 15)⟩, ⟨some 17, some (13, false), .bin .lss (.t 14) (.t 16)⟩, ⟨some 18, some (9, true), .pick (.t 13) (.c (.bool true)) (.t 17)⟩, ⟨some 19, none, .pick (.t 9) (.t 18) (.c (.bool false))⟩, ⟨some 4, none, .mov (.t 19)⟩] none)
 .ret))
theorem f226 : FnIs Tryz.prog 226 20 c226 [.tmp 4] := ⟨_, Tryz.func226, rfl, by kernel_rfl, rfl⟩
def c227 : AC := (.seq (.reg [⟨some 4, none, .mov (.c (.int .i64 0))⟩] none)
 (.seq (.seq (.reg [⟨some 6, none, .mov (.t 0)⟩, ⟨some 7, none, .len false (.t 6)⟩, ⟨some 8, none, .mov (.c (.int .i64 0))⟩] none)
 (.block 0 (.loop (.seq (.reg [⟨some 9, none, .bin .lss (.t 8) (.t 7)⟩] none)
 (.seq (.cond (.t 9) .skip (.exit 0))
 (.seq (.block 1 (.seq (.reg [⟨some 10, none, .mov (.t 8)⟩, ⟨some 5, none, .mov (.t 10)⟩] none)
 (.seq (.reg [⟨some 11, none, .mov (.t 1)⟩, ⟨some 12, none, .mov (.t 0)⟩, ⟨some 13, none, .mov (.t 5)⟩, ⟨some 14, none, .iaddr 1 (.t 12) (.t 13)⟩, ⟨some 15, none, .load none (.t 14)⟩, ⟨some 16, none, .callv (.t 11) [(.t 15)]⟩] none)
 (.cond (.t 16) (.seq (.reg [⟨some 17, none, .mov (.t 5)⟩, ⟨some 4, none, .mov (.t 17)⟩] none)
 .ret) .skip))))
 (.reg [⟨some 18, none, .bin .add (.t 8) (.c (.int .i64 1))⟩, ⟨some 8, none, .mov (.t 18)⟩] none)))))))
 (.seq (.reg [⟨some 4, none, .mov (.c (.int .i64 (-1)))⟩] none)
 .ret)))
theorem f227 : FnIs Tryz.prog 227 19 c227 [.tmp 4] := ⟨_, Tryz.func227, rfl, by kernel_rfl, rfl⟩
def c236 : AC := (.seq (.reg [⟨some 4, none, .mov (.c (.bool false))⟩] none)
 (.seq (.seq (.reg [⟨some 5, none, .mov (.t 1)⟩, ⟨some 6, none, .bin .eql (.t 5) (.c (.int .i64 0))⟩] none)
 (.cond (.t 6) (.reg [⟨some 7, none, .mov (.t 0)⟩, ⟨some 8, none, .call 239 [(.t 7)]⟩, ⟨some 0, none, .mov (.t 8)⟩] none) (.seq (.reg [⟨some 9, none, .mov (.t 1)⟩, ⟨some 10, none, .bin .lss (.t 9) (.c (.int .i64 0))⟩] none)
 (.cond (.t 10) (.reg [⟨some 11, none, .mov (.t 0)⟩, ⟨some 12, none, .un .neg (.t 11)⟩, ⟨some 0, none, .mov (.t 12)⟩] none) .skip))))
 (.seq (.reg [⟨some 13, none, .mov (.t 0)⟩, ⟨some 14, none, .bin .gtr (.t 13) (.c (.sc (.float .f64 9218868437227405311)))⟩, ⟨some 4, none, .mov (.t 14)⟩] none)
 .ret)))
theorem f236 : FnIs Tryz.prog 236 15 c236 [.tmp 4] := ⟨_, Tryz.func236, rfl, by kernel_rfl, rfl⟩
def c237 : AC := (.seq (.reg [⟨some 2, none, .mov (.c (.bool false))⟩] none)
 (.seq (.reg [⟨some 3, none, .mov (.t 0)⟩, ⟨some 4, none, .mov (.t 0)⟩, ⟨some 5, none, .bin .neq (.t 3) (.t 4)⟩, ⟨some 2, none, .mov (.t 5)⟩] none)
 .ret))
theorem f237 : FnIs Tryz.prog 237 6 c237 [.tmp 2] := ⟨_, Tryz.func237, rfl, by kernel_rfl, rfl⟩
def c239 : AC := (.seq (.reg [⟨some 2, none, .mov (.c (.sc (.float .f64 0)))⟩] none)
 (.seq (.reg [⟨some 3, none, .mov (.t 0)⟩, ⟨some 4, none, .raw .fbits [(.t 3)]⟩, ⟨some 5, none, .bin .andNot (.t 4) (.c (.int .u64 9223372036854775808))⟩, ⟨some 6, none, .raw .fofbits [(.t 5)]⟩, ⟨some 2, none, .mov (.t 6)⟩] none)
 .ret))
theorem f239 : FnIs Tryz.prog 239 7 c239 [.tmp 2] := ⟨_, Tryz.func239, rfl, by kernel_rfl, rfl⟩
def c240 : AC := (.seq (.reg [⟨some 2, none, .mov (.c (.sc (.float .f64 0)))⟩, ⟨some 3, none, .mov (.c (.int .i64 0))⟩] none)
 (.seq (.cond (.c (.bool false)) (.seq (.reg [⟨some 4, none, .mov (.t 0)⟩, ⟨some 5, none, .call 250 [(.t 4)]⟩, ⟨some 6, none, .ext (.t 5) 0⟩, ⟨some 7, none, .ext (.t 5) 1⟩, ⟨some 2, none, .mov (.t 6)⟩, ⟨some 3, none, .mov (.t 7)⟩] none)
 .ret) .skip)
 (.seq (.reg [⟨some 8, none, .mov (.t 0)⟩, ⟨some 9, none, .call 251 [(.t 8)]⟩, ⟨some 10, none, .ext (.t 9) 0⟩, ⟨some 11, none, .ext (.t 9) 1⟩, ⟨some 2, none, .mov (.t 10)⟩, ⟨some 3, none, .mov (.t 11)⟩] none)
 .ret)))
theorem f240 : FnIs Tryz.prog 240 12 c240 [.tmp 2, .tmp 3] := ⟨_, Tryz.func240, rfl, by kernel_rfl, rfl⟩
def c241 : AC := (.seq (.reg [⟨some 4, none, .mov (.c (.sc (.float .f64 0)))⟩] none)
 (.seq (.cond (.c (.bool false)) (.seq (.reg [⟨some 5, none, .mov (.t 0)⟩, ⟨some 6, none, .mov (.t 1)⟩, ⟨some 7, none, .call 252 [(.t 5), (.t 6)]⟩, ⟨some 4, none, .mov (.t 7)⟩] none)
 .ret) .skip)
 (.seq (.reg [⟨some 8, none, .mov (.t 0)⟩, ⟨some 9, none, .mov (.t 1)⟩, ⟨some 10, none, .call 253 [(.t 8), (.t 9)]⟩, ⟨some 4, none, .mov (.t 10)⟩] none)
 .ret)))
theorem f241 : FnIs Tryz.prog 241 11 c241 [.tmp 4] := ⟨_, Tryz.func241, rfl, by kernel_rfl, rfl⟩
def c242 : AC := (.seq (.reg [⟨some 4, none, .mov (.c (.int .i64 0))⟩] none)
 (.seq (.seq (.reg [⟨some 6, none, .mov (.t 0)⟩, ⟨some 7, none, .len false (.t 6)⟩, ⟨some 8, none, .mov (.c (.int .i64 0))⟩] none)
 (.block 0 (.loop (.seq (.reg [⟨some 9, none, .bin .lss (.t 8) (.t 7)⟩] none)
 (.seq (.cond (.t 9) .skip (.exit 0))
 (.seq (.block 1 (.seq (.reg [⟨some 10, none, .mov (.t 8)⟩, ⟨some 5, none, .mov (.t 10)⟩] none)
 (.seq (.reg [⟨some 11, none, .mov (.t 1)⟩, ⟨some 12, none, .mov (.t 0)⟩, ⟨some 13, none, .mov (.t 5)⟩, ⟨some 14, none, .iaddr 2 (.t 12) (.t 13)⟩, ⟨some 15, none, .load (some 2) (.t 14)⟩, ⟨some 16, none, .callv (.t 11) [(.t 15)]⟩] none)
 (.cond (.t 16) (.seq (.reg [⟨some 17, none, .mov (.t 5)⟩, ⟨some 4, none, .mov (.t 17)⟩] none)
 .ret) .skip))))
 (.reg [⟨some 18, none, .bin .add (.t 8) (.c (.int .i64 1))⟩, ⟨some 8, none, .mov (.t 18)⟩] none)))))))
 (.seq (.reg [⟨some 4, none, .mov (.c (.int .i64 (-1)))⟩] none)
 .ret)))
theorem f242 : FnIs Tryz.prog 242 19 c242 [.tmp 4] := ⟨_, Tryz.func242, rfl, by kernel_rfl, rfl⟩
def c251 : AC := (.seq (.reg [⟨some 2, none, .mov (.c (.sc (.float .f64 0)))⟩, ⟨some 3, none, .mov (.c (.int .i64 0))⟩] none)
 (.seq (.block 0 (.seq (.reg [⟨some 6, none, .mov (.t 0)⟩, ⟨some 7, none, .bin .eql (.t 6) (.c (.sc (.float .f64 0)))⟩, ⟨some 5, none, .mov (.t 7)⟩] none)
 (.cond (.t 5) (.seq (.reg [⟨some 8, none, .mov (.t 0)⟩, ⟨some 2, none, .mov (.t 8)⟩, ⟨some 3, none, .mov (.c (.int .i64 0))⟩] none)
 .ret) (.seq (.reg [⟨some 10, none, .mov (.t 0)⟩, ⟨some 11, none, .call 236 [(.t 10), (.c (.int .i64 0))]⟩, ⟨some 12, none, .mov (.t 11)⟩, ⟨some 13, some (12, false), .mov (.t 0)⟩, ⟨some 14, some (12, false), .call 237 [(.t 13)]⟩, ⟨some 15, none, .pick (.t 12) (.c (.bool true)) (.t 14)⟩, ⟨some 9, none, .mov (.t 15)⟩] none)
 (.cond (.t 9) (.seq (.reg [⟨some 16, none, .mov (.t 0)⟩, ⟨some 2, none, .mov (.t 16)⟩, ⟨some 3, none, .mov (.c (.int .i64 0))⟩] none)
 .ret) .skip)))))
 (.seq (.reg [⟨some 18, none, .mov (.t 0)⟩, ⟨some 19, none, .call 259 [(.t 18)]⟩, ⟨some 17, none, .mov (.t 19)⟩, ⟨some 20, none, .ext (.t 17) 0⟩, ⟨some 21, none, .ext (.t 17) 1⟩, ⟨some 0, none, .mov (.t 20)⟩, ⟨some 3, none, .mov (.t 21)⟩] none)
 (.seq (.reg [⟨some 22, none, .mov (.t 0)⟩, ⟨some 23, none, .raw .fbits [(.t 22)]⟩, ⟨some 4, none, .mov (.t 23)⟩] none)
 (.seq (.reg [⟨some 24, none, .mov (.t 3)⟩, ⟨some 25, none, .mov (.t 4)⟩, ⟨some 26, none, .bin .shr (.t 25) (.c (.int .u64 52))⟩, ⟨some 27, none, .bin .and (.t 26) (.c (.int .u64 2047))⟩, ⟨some 28, none, .conv (.toInt .i64) (.t 27)⟩, ⟨some 29, none, .bin .sub (.t 28) (.c (.int .i64 1023))⟩, ⟨some 30, none, .bin .add (.t 29) (.c (.int .i64 1))⟩, ⟨some 31, none, .bin .add (.t 24) (.t 30)⟩, ⟨some 3, none, .mov (.t 31)⟩] none)
 (.seq (.reg [⟨some 32, none, .mov (.t 4)⟩, ⟨some 33, none, .bin .andNot (.t 32) (.c (.int .u64 9218868437227405312))⟩, ⟨some 4, none, .mov (.t 33)⟩] none)
 (.seq (.reg [⟨some 34, none, .mov (.t 4)⟩, ⟨some 35, none, .bin .or (.t 34) (.c (.int .u64 4602678819172646912))⟩, ⟨some 4, none, .mov (.t 35)⟩] none)
 (.seq (.reg [⟨some 36, none, .mov (.t 4)⟩, ⟨some 37, none, .raw .fofbits [(.t 36)]⟩, ⟨some 2, none, .mov (.t 37)⟩] none)
 .ret))))))))
theorem f251 : FnIs Tryz.prog 251 38 c251 [.tmp 2, .tmp 3] := ⟨_, Tryz.func251, rfl, by kernel_rfl, rfl⟩
def c253 : AC := (.seq (.reg [⟨some 4, none, .mov (.c (.sc (.float .f64 0)))⟩] none)
 (.seq (.block 0 (.seq (.reg [⟨some 9, none, .mov (.t 0)⟩, ⟨some 10, none, .bin .eql (.t 9) (.c (.sc (.float .f64 0)))⟩, ⟨some 8, none, .mov (.t 10)⟩] none)
 (.cond (.t 8) (.seq (.reg [⟨some 11, none, .mov (.t 0)⟩, ⟨some 4, none, .mov (.t 11)⟩] none)
 .ret) (.seq (.reg [⟨some 13, none, .mov (.t 0)⟩, ⟨some 14, none, .call 236 [(.t 13), (.c (.int .i64 0))]⟩, ⟨some 15, none, .mov (.t 14)⟩, ⟨some 16, some (15, false), .mov (.t 0)⟩, ⟨some 17, some (15, false), .call 237 [(.t 16)]⟩, ⟨some 18, none, .pick (.t 15) (.c (.bool true)) (.t 17)⟩, ⟨some 12, none, .mov (.t 18)⟩] none)
 (.cond (.t 12) (.seq (.reg [⟨some 19, none, .mov (.t 0)⟩, ⟨some 4, none, .mov (.t 19)⟩] none)
 .ret) .skip)))))
 (.seq (.reg [⟨some 21, none, .mov (.t 0)⟩, ⟨some 22, none, .call 259 [(.t 21)]⟩, ⟨some 20, none, .mov (.t 22)⟩, ⟨some 23, none, .ext (.t 20) 0⟩, ⟨some 24, none, .ext (.t 20) 1⟩, ⟨some 0, none, .mov (.t 23)⟩, ⟨some 5, none, .mov (.t 24)⟩] none)
 (.seq (.reg [⟨some 25, none, .mov (.t 1)⟩, ⟨some 26, none, .mov (.t 5)⟩, ⟨some 27, none, .bin .add (.t 25) (.t 26)⟩, ⟨some 1, none, .mov (.t 27)⟩] none)
 (.seq (.reg [⟨some 28, none, .mov (.t 0)⟩, ⟨some 29, none, .raw .fbits [(.t 28)]⟩, ⟨some 6, none, .mov (.t 29)⟩] none)
 (.seq (.reg [⟨some 30, none, .mov (.t 1)⟩, ⟨some 31, none, .mov (.t 6)⟩, ⟨some 32, none, .bin .shr (.t 31) (.c (.int .u64 52))⟩, ⟨some 33, none, .conv (.toInt .i64) (.t 32)⟩, ⟨some 34, none, .bin .and (.t 33) (.c (.int .i64 2047))⟩, ⟨some 35, none, .bin .sub (.t 34) (.c (.int .i64 1023))⟩, ⟨some 36, none, .bin .add (.t 30) (.t 35)⟩, ⟨some 1, none, .mov (.t 36)⟩] none)
 (.seq (.seq (.reg [⟨some 37, none, .mov (.t 1)⟩, ⟨some 38, none, .bin .lss (.t 37) (.c (.int .i64 (-1075)))⟩] none)
 (.cond (.t 38) (.seq (.reg [⟨some 39, none, .mov (.t 0)⟩, ⟨some 40, none, .call 260 [(.c (.sc (.float .f64 0))), (.t 39)]⟩, ⟨some 4, none, .mov (.t 40)⟩] none)
 .ret) .skip))
 (.seq (.seq (.reg [⟨some 41, none, .mov (.t 1)⟩, ⟨some 42, none, .bin .gtr (.t 41) (.c (.int .i64 1023))⟩] none)
 (.cond (.t 42) (.seq (.seq (.reg [⟨some 43, none, .mov (.t 0)⟩, ⟨some 44, none, .bin .lss (.t 43) (.c (.sc (.float .f64 0)))⟩] none)
 (.cond (.t 44) (.seq (.reg [⟨some 45, none, .call 261 [(.c (.int .i64 (-1)))]⟩, ⟨some 4, none, .mov (.t 45)⟩] none)
 .ret) .skip))
 (.seq (.reg [⟨some 46, none, .call 261 [(.c (.int .i64 1))]⟩, ⟨some 4, none, .mov (.t 46)⟩] none)
 .ret)) .skip))
 (.seq (.reg [⟨some 7, none, .mov (.c (.sc (.float .f64 4607182418800017408)))⟩] none)
 (.seq (.seq (.reg [⟨some 47, none, .mov (.t 1)⟩, ⟨some 48, none, .bin .lss (.t 47) (.c (.int .i64 (-1022)))⟩] none)
 (.cond (.t 48) (.seq (.reg [⟨some 49, none, .mov (.t 1)⟩, ⟨some 50, none, .bin .add (.t 49) (.c (.int .i64 53))⟩, ⟨some 1, none, .mov (.t 50)⟩] none)
 (.reg [⟨some 7, none, .mov (.c (.sc (.float .f64 4368491638549381120)))⟩] none)) .skip))
 (.seq (.reg [⟨some 51, none, .mov (.t 6)⟩, ⟨some 52, none, .bin .andNot (.t 51) (.c (.int .u64 9218868437227405312))⟩, ⟨some 6, none, .mov (.t 52)⟩] none)
 (.seq (.reg [⟨some 53, none, .mov (.t 6)⟩, ⟨some 54, none, .mov (.t 1)⟩, ⟨some 55, none, .bin .add (.t 54) (.c (.int .i64 1023))⟩, ⟨some 56, none, .conv (.toInt .u64) (.t 55)⟩, ⟨some 57, none, .bin .shl (.t 56) (.c (.int .u64 52))⟩, ⟨some 58, none, .bin .or (.t 53) (.t 57)⟩, ⟨some 6, none, .mov (.t 58)⟩] none)
 (.seq (.reg [⟨some 59, none, .mov (.t 7)⟩, ⟨some 60, none, .mov (.t 6)⟩, ⟨some 61, none, .raw .fofbits [(.t 60)]⟩, ⟨some 62, none, .bin .mul (.t 59) (.t 61)⟩, ⟨some 4, none, .mov (.t 62)⟩] none)
 .ret)))))))))))))
theorem f253 : FnIs Tryz.prog 253 63 c253 [.tmp 4] := ⟨_, Tryz.func253, rfl, by kernel_rfl, rfl⟩
def c259 : AC := (.seq (.reg [⟨some 2, none, .mov (.c (.sc (.float .f64 0)))⟩, ⟨some 3, none, .mov (.c (.int .i64 0))⟩] none)
 (.seq (.seq (.reg [⟨some 4, none, .mov (.t 0)⟩, ⟨some 5, none, .call 239 [(.t 4)]⟩, ⟨some 6, none, .bin .lss (.t 5) (.c (.sc (.float .f64 4503599627370496)))⟩] none)
 (.cond (.t 6) (.seq (.reg [⟨some 7, none, .mov (.t 0)⟩, ⟨some 8, none, .bin .mul (.t 7) (.c (.sc (.float .f64 4841369599423283200)))⟩, ⟨some 2, none, .mov (.t 8)⟩, ⟨some 3, none, .mov (.c (.int .i64 (-52)))⟩] none)
 .ret) .skip))
 (.seq (.reg [⟨some 9, none, .mov (.t 0)⟩, ⟨some 2, none, .mov (.t 9)⟩, ⟨some 3, none, .mov (.c (.int .i64 0))⟩] none)
 .ret)))
theorem f259 : FnIs Tryz.prog 259 10 c259 [.tmp 2, .tmp 3] := ⟨_, Tryz.func259, rfl, by kernel_rfl, rfl⟩
end Go.Proofs.YtkcgpcbpieofnaaGreatDoor.C
end
section
set_option linter.unusedSimpArgs false
set_option linter.unusedVariables false
set_option maxRecDepth 10000
namespace Go.Proofs.YtkcgpcbpieofnaaGreatDoor.Batch
open Go Go.Av Go.Proofs Go.Proofs.YtkcgpcbpieofnaaGreatDoor.C
theorem less_nil_r (a : List UInt8) : Op.bytesLess a [] = false := by cases a <;> simp [Op.bytesLess]
theorem less_trans : ∀ {a b c}, Op.bytesLess a b = true → Op.bytesLess b c = true → Op.bytesLess a c = true
  | a, b, [], _, h => by rw [less_nil_r] at h; cases h
  | a, [], c :: cs, h, _ => by rw [less_nil_r] at h; cases h
  | [], b :: bs, c :: cs, _, _ => rfl
  | a :: x, b :: y, c :: z, h1, h2 => by
    simp only [Op.bytesLess, Bool.or_eq_true, decide_eq_true_eq, Bool.and_eq_true, beq_iff_eq] at h1 h2 ⊢
    rcases h1 with h1 | ⟨rfl, h1⟩
    · rcases h2 with h2 | ⟨rfl, h2⟩
      · exact .inl (UInt8.lt_trans h1 h2)
      · exact .inl h1
    · rcases h2 with h2 | ⟨rfl, h2⟩
      · exact .inl h2
      · exact .inr ⟨rfl, less_trans h1 h2⟩
end Go.Proofs.YtkcgpcbpieofnaaGreatDoor.Batch
end
section
set_option linter.unusedVariables false
set_option linter.unusedSimpArgs false
namespace Go.Av
section
variable {P : Program} {N : Nat} {o : Oper} {t : Tm} {h : H} {en : Ent}
end
end Go.Av
end
section
set_option linter.unusedSimpArgs false
set_option linter.unusedVariables false
set_option maxRecDepth 10000
namespace Go.Proofs.YtkcgpcbpieofnaaGreatDoor.Space
open Go Go.Av Go.Proofs Go.Proofs.YtkcgpcbpieofnaaGreatDoor.C Go.Proofs.YtkcgpcbpieofnaaGreatDoor.Batch
abbrev Bs := List UInt8
structure Ver where
  t : Int
  v : Bs
  d : Bool
  deriving DecidableEq
instance : Inhabited Ver := ⟨⟨0, [], false⟩⟩
end Go.Proofs.YtkcgpcbpieofnaaGreatDoor.Space
end
section
set_option linter.unusedSimpArgs false
set_option linter.unusedVariables false
set_option maxRecDepth 10000
namespace Go.Proofs.YtkcgpcbpieofnaaGreatDoor.Space
open Go Go.Av Go.Proofs Go.Proofs.YtkcgpcbpieofnaaGreatDoor.C Go.Proofs.YtkcgpcbpieofnaaGreatDoor.Batch
end Go.Proofs.YtkcgpcbpieofnaaGreatDoor.Space
end
section
set_option linter.unusedSimpArgs false
set_option linter.unusedVariables false
set_option maxRecDepth 10000
namespace Go.Proofs.YtkcgpcbpieofnaaGreatDoor.Space
open Go Go.Av Go.Proofs Go.Proofs.YtkcgpcbpieofnaaGreatDoor.C Go.Proofs.YtkcgpcbpieofnaaGreatDoor.Batch
end Go.Proofs.YtkcgpcbpieofnaaGreatDoor.Space
end
section
set_option linter.unusedSimpArgs false
set_option linter.unusedVariables false
set_option maxRecDepth 10000
namespace Go.Proofs.YtkcgpcbpieofnaaGreatDoor.Reads
open Go Go.Av Go.Proofs Go.Proofs.YtkcgpcbpieofnaaGreatDoor.C Go.Proofs.YtkcgpcbpieofnaaGreatDoor.Batch
abbrev Bs := List UInt8
structure Sp where
  f : Bs
  t : Bs
  deriving DecidableEq
instance : Inhabited Sp := ⟨⟨[], []⟩⟩
def encSp (s : Sp) : AV := .agg [.str s.f, .str s.t]
def sps (l : List Sp) : List AV := l.map encSp
theorem sps_length (l : List Sp) : (sps l).length = l.length := by simp [sps]
theorem sps_getD (l : List Sp) (k : Nat) (d : AV) (h : k < l.length) : (sps l).getD k d = encSp (l.getD k default) := by
  simp [sps, List.getD, List.getElem?_map, List.getElem?_eq_getElem h]
theorem sps_pure (l : List Sp) : allPure (sps l) = true := Av.allPure_map (fun x => by simp [encSp, isPure, allPure]) l
def encR (k : List Bs) (s : List Sp) : AV := .agg [.sl 1 (strs k) .any, .sl 2 (sps s) .any]
theorem encR_pure (k : List Bs) (s : List Sp) : isPure (encR k s) = true := by simp [encR, isPure, allPure, capPure, strs_pure, sps_pure]
def hasB (s : Sp) : Bool := decide (s.t = []) || Op.bytesLess s.f s.t
def apartB (a b : Sp) : Bool := !decide (a.t = []) && Op.bytesLess a.t b.f
def winB (s : Sp) (k : Bs) : Bool := !Op.bytesLess k s.f && (decide (s.t = []) || Op.bytesLess k s.t)
def joinB (a b : Sp) : Sp := ⟨if (Op.bytesLess a.f b.f || decide (a.f = b.f)) = true then a.f else b.f, if a.t = [] then [] else if b.t = [] then [] else if (!Op.bytesLess a.t b.t) = true then a.t else b.t⟩
def spanned (l : List Sp) (k : Bs) : Bool := l.any (winB · k)
theorem has_p (s : Sp) : PCalls Tryz.prog 158 [encSp s] (.bool (hasB s)) := by
  refine f158.pcalls0 (by simp) (by simp [allPure, isPure, encSp]) rfl ?_
  unfold c158
  cases h1 : decide (s.t = []) <;> cases h2 : Op.bytesLess s.f s.t
  all_goals
    repeat (first
      | ((first | apply Wp.seqItems | apply Wp.items); (· simp only [go_sem, reduceIte, Nat.reduceEqDiff, Nat.reduceAdd, bx, ax, if_true, if_false, Nat.reduceMul, Nat.reduceLeDiff, encSp, h1, h2]; exact rfl))
      | (refine WpItems.nil ⟨?_, ?_⟩; (· first | trivial | simp [pairsQ, pairsOk, apart, ent0]))
      | (apply Wp.cond_lit; (· simp only [go_sem, reduceIte, Nat.reduceEqDiff, Nat.reduceAdd, bx, ax, if_true, if_false, Nat.reduceMul, Nat.reduceLeDiff, encSp, h1, h2]; exact rfl); (· rfl))
      | refine Wp.skip ?_
      | refine Wp.label ?_
      | refine Wp.block ?_
      | refine Wp.exit ?_
      | refine Wp.seq ?_)
    refine Wp.ret ⟨trivial, _, rfl, ?_⟩
    simp only [go_sem, reduceIte, Nat.reduceEqDiff, Nat.reduceAdd, bx]
    simp only [hasB, h1, h2, Bool.true_or, Bool.false_or]
    exact VSub.refl _
theorem apart_p (a b : Sp) : PCalls Tryz.prog 161 [encSp a, encSp b] (.bool (apartB a b)) := by
  refine f161.pcalls0 (by simp) (by simp [allPure, isPure, encSp]) rfl ?_
  unfold c161
  cases h1 : decide (a.t = []) <;> cases h2 : Op.bytesLess a.t b.f
  all_goals
    repeat (first
      | ((first | apply Wp.seqItems | apply Wp.items); (· simp only [go_sem, reduceIte, Nat.reduceEqDiff, Nat.reduceAdd, bx, ax, if_true, if_false, Nat.reduceMul, Nat.reduceLeDiff, encSp, h1, h2]; exact rfl))
      | (refine WpItems.nil ⟨?_, ?_⟩; (· first | trivial | simp [pairsQ, pairsOk, apart, ent0]))
      | (apply Wp.cond_lit; (· simp only [go_sem, reduceIte, Nat.reduceEqDiff, Nat.reduceAdd, bx, ax, if_true, if_false, Nat.reduceMul, Nat.reduceLeDiff, encSp, h1, h2]; exact rfl); (· rfl))
      | refine Wp.skip ?_
      | refine Wp.label ?_
      | refine Wp.block ?_
      | refine Wp.exit ?_
      | refine Wp.seq ?_)
    refine Wp.ret ⟨trivial, _, rfl, ?_⟩
    simp only [go_sem, reduceIte, Nat.reduceEqDiff, Nat.reduceAdd, bx]
    simp only [apartB, h1, h2, Bool.not_true, Bool.not_false, Bool.true_and, Bool.false_and]
    exact VSub.refl _
theorem within_p (s : Sp) (k : Bs) : PCalls Tryz.prog 226 [encSp s, .str k] (.bool (winB s k)) := by
  refine f226.pcalls0 (by simp) (by simp [allPure, isPure, encSp]) rfl ?_
  unfold c226
  cases h1 : Op.bytesLess k s.f <;> cases h2 : decide (s.t = []) <;> cases h3 : Op.bytesLess k s.t
  all_goals
    repeat (first
      | ((first | apply Wp.seqItems | apply Wp.items); (· simp only [go_sem, reduceIte, Nat.reduceEqDiff, Nat.reduceAdd, bx, ax, if_true, if_false, Nat.reduceMul, Nat.reduceLeDiff, encSp, h1, h2, h3]; exact rfl))
      | (refine WpItems.nil ⟨?_, ?_⟩; (· first | trivial | simp [pairsQ, pairsOk, apart, ent0]))
      | (apply Wp.cond_lit; (· simp only [go_sem, reduceIte, Nat.reduceEqDiff, Nat.reduceAdd, bx, ax, if_true, if_false, Nat.reduceMul, Nat.reduceLeDiff, encSp, h1, h2, h3]; exact rfl); (· rfl))
      | refine Wp.skip ?_
      | refine Wp.label ?_
      | refine Wp.block ?_
      | refine Wp.exit ?_
      | refine Wp.seq ?_)
    refine Wp.ret ⟨trivial, _, rfl, ?_⟩
    simp only [go_sem, reduceIte, Nat.reduceEqDiff, Nat.reduceAdd, bx]
    simp only [winB, h1, h2, h3, Bool.not_true, Bool.not_false, Bool.true_and, Bool.false_and, Bool.true_or, Bool.false_or]
    exact VSub.refl _
theorem joined_p (a b : Sp) : PCalls Tryz.prog 162 [encSp a, encSp b] (encSp (joinB a b)) := by
  refine f162.pcalls0 (by simp) (by simp [allPure, isPure, encSp]) (by simp [allPure, isPure, encSp]) ?_
  unfold c162
  cases e1 : decide (a.t = []) <;> cases e2 : decide (b.t = [])
  all_goals
    have h1 := e1
    have h2 := e2
    simp only [decide_eq_true_eq, decide_eq_false_iff_not] at h1 h2
    repeat (first
      | ((first | apply Wp.seqItems | apply Wp.items); (· simp only [go_sem, reduceIte, Nat.reduceEqDiff, Nat.reduceAdd, bx, ax, if_true, if_false, Nat.reduceMul, Nat.reduceLeDiff, encSp, e1, e2]; exact rfl))
      | (refine WpItems.nil ⟨?_, ?_⟩; (· first | trivial | simp [pairsQ, pairsOk, apart, ent0]))
      | (apply Wp.cond_lit; (· simp only [go_sem, reduceIte, Nat.reduceEqDiff, Nat.reduceAdd, bx, ax, if_true, if_false, Nat.reduceMul, Nat.reduceLeDiff, encSp, e1, e2]; exact rfl); (· rfl))
      | refine Wp.skip ?_
      | refine Wp.label ?_
      | refine Wp.block ?_
      | refine Wp.exit ?_
      | refine Wp.seq ?_)
    refine Wp.ret ⟨trivial, _, rfl, ?_⟩
    simp only [go_sem, reduceIte, Nat.reduceEqDiff, Nat.reduceAdd, bx]
    simp only [joinB, h1, h2, if_true, if_false]
    exact VSub.refl _
end Go.Proofs.YtkcgpcbpieofnaaGreatDoor.Reads
end
section
set_option linter.unusedSimpArgs false
set_option linter.unusedVariables false
set_option maxRecDepth 10000
namespace Go.Proofs.YtkcgpcbpieofnaaGreatDoor.Reads
open Go Go.Av Go.Proofs Go.Proofs.YtkcgpcbpieofnaaGreatDoor.C Go.Proofs.YtkcgpcbpieofnaaGreatDoor.Batch
def ix {α : Type} (p : α → Bool) (l : List α) : Int := if l.any p then (l.findIdx p : Nat) else -1
theorem ix_found {α : Type} {p : α → Bool} {l : List α} {j : Nat} (hj : j < l.length) (h : p l[j] = true) (hs : ∀ i (hi : i < l.length), i < j → p l[i] = false) : ix p l = j := by
  have h1 : l.any p = true := List.any_eq_true.2 ⟨l[j], List.getElem_mem hj, h⟩
  have h2 : l.findIdx p = j := (List.findIdx_eq hj).2 ⟨h, fun i hi => hs i (by omega) hi⟩
  simp [ix, h1, h2]
theorem ix_none {α : Type} {p : α → Bool} {l : List α} (hs : ∀ i (hi : i < l.length), p l[i] = false) : ix p l = -1 := by
  have h1 : l.any p = false := by
    rw [List.any_eq_false]
    intro x hx
    obtain ⟨i, hi, rfl⟩ := List.mem_iff_getElem.1 hx
    simp [hs i hi]
  simp [ix, h1]
theorem ix_nonneg {α : Type} {p : α → Bool} {l : List α} : decide (0 ≤ ix p l) = l.any p := by
  unfold ix
  cases l.any p <;> simp
theorem getD_el {α : Type} {l : List α} {i : Nat} {d : α} (h : i < l.length) : l.getD i d = l[i] := by
  rw [List.getD_eq_getElem?_getD, List.getElem?_eq_getElem h]; rfl
theorem indexSp_p (l : List Sp) (hl : l.length ≤ 4611686018427387904) (p : Sp → Bool) {g : FuncId} {fn : Func} (hf : Tryz.prog.funcs[g]? = some fn) (hb : fn.body.isSome = true) (hn : fn.name ≠ "runtime.NumGoroutine") (caps : List AV) (hc : allPure caps = true)
    (hp : ∀ c ∈ l, PCalls Tryz.prog g (encSp c :: caps) (.bool (p c))) :
    PCalls Tryz.prog 242 [.sl 2 (sps l) .any, .clo (.func g) [] caps] (.int .i64 (ix p l)) := by
  refine f242.pcalls0 (by simp) (by simp [allPure, isPure, capPure, sps_pure, hc]) rfl ?_
  unfold c242
  refine Wp.seqReg (by simp only [go_sem, reduceIte, Nat.reduceEqDiff, Nat.reduceAdd, bx]; exact rfl) (by trivial) ?_
  refine Wp.seq ?_
  refine Wp.seqReg (by simp only [go_sem, reduceIte, Nat.reduceEqDiff, Nat.reduceAdd, bx, sps_length]; exact rfl) (by trivial) ?_
  refine Wp.block ?_
  refine Wp.loopK [0, 1, 7] (by simp only [go_sem, reduceIte, Nat.reduceEqDiff, Nat.reduceAdd, bx, List.map]; exact rfl) (fun j : Nat => [(8, .int .i64 j)]) (fun j => j ≤ l.length ∧ ∀ i (hi : i < l.length), i < j → p l[i] = false) (fun j => l.length - j) 0 ⟨Nat.zero_le _, fun i hi h => absurd h (by omega)⟩ ?_ ?_
  · simp only [AllSub, go_sem, reduceIte, Nat.reduceEqDiff, Nat.reduceAdd, bx]; and_intros <;> first | exact trivial | exact VSub.refl _ | exact VSub.any _ | (refine VSub.int ?_; omega)
  · rintro j ⟨hj, hs⟩
    refine Wp.seqReg (by simp only [go_sem, reduceIte, Nat.reduceEqDiff, Nat.reduceAdd, bx]; exact rfl) (by trivial) ?_
    refine Wp.seq ?_
    refine Wp.cond_split (b := decide ((j : Int) < (l.length : Int))) (by simp only [go_sem, reduceIte, Nat.reduceEqDiff, Nat.reduceAdd, bx]) (fun hc => ?_) (fun hc => ?_)
    · have h1 : (0 : Int) ≤ (j : Int) := by omega
      have h2 : (j : Int) < (l.length : Int) := by simpa using hc
      have h3 : j < l.length := by omega
      have hq := hp _ (List.getElem_mem h3)
      rw [← getD_el (d := default) h3] at hq
      refine Wp.skip ?_
      refine Wp.seq ?_
      refine Wp.block ?_
      refine Wp.seqReg (by simp only [go_sem, reduceIte, Nat.reduceEqDiff, Nat.reduceAdd, bx]; exact rfl) (by trivial) ?_
      refine Wp.seqItems (by simp only [go_sem, reduceIte, Nat.reduceEqDiff, Nat.reduceAdd, bx, sps_length, h1, h2, and_self, if_true, Int.toNat_natCast, sps_getD _ _ _ h3, encSp]; exact rfl) ?_
      refine WpItems.pcallv (by simp only [go_sem]) (by simp only [go_sem, reduceIte, Nat.reduceEqDiff]; exact rfl) hf hb hn (by simp only [go_sem, reduceIte, Nat.reduceEqDiff, List.map]; exact VSubs.refl _) hq ?_
      refine WpItems.eval (by simp only [go_sem, reduceIte, Nat.reduceEqDiff, Nat.reduceAdd, bx]; exact rfl) ?_
      refine WpItems.nil ⟨by trivial, ?_⟩
      rw [getD_el h3]
      refine Wp.cond_split (b := p l[j]) (by simp only [go_sem, reduceIte, Nat.reduceEqDiff, Nat.reduceAdd, bx]) (fun hd => ?_) (fun hd => ?_)
      · refine Wp.seqReg (by simp only [go_sem, reduceIte, Nat.reduceEqDiff, Nat.reduceAdd, bx]; exact rfl) (by trivial) ?_
        refine Wp.ret ⟨trivial, _, rfl, ?_⟩
        simp only [go_sem, reduceIte, Nat.reduceEqDiff, Nat.reduceAdd, bx]
        rw [ix_found h3 hd hs]
        exact VSub.refl _
      · refine Wp.skip ?_
        refine Wp.reg1 (by simp only [go_sem, reduceIte, Nat.reduceEqDiff, Nat.reduceAdd, bx]; simp (disch := omega) only [IntWalk.i64_in]; exact rfl) (by trivial) ?_
        refine ⟨j + 1, ⟨by omega, fun i hi h => ?_⟩, by omega, ?_⟩
        · by_cases he : i = j
          · subst he; exact hd
          · exact hs i hi (by omega)
        · refine StLe.tm (by simp only [AllSub, go_sem, reduceIte, Nat.reduceEqDiff, Nat.reduceAdd, bx]; and_intros <;> first | exact trivial | exact VSub.refl _ | exact VSub.any _ | (refine VSub.int ?_; omega))
    · have : ¬ (j : Int) < (l.length : Int) := by simpa using hc
      refine Wp.exit ?_
      refine Wp.seqReg (by simp only [go_sem, reduceIte, Nat.reduceEqDiff, Nat.reduceAdd, bx]; exact rfl) (by trivial) ?_
      refine Wp.ret ⟨trivial, _, rfl, ?_⟩
      simp only [go_sem, reduceIte, Nat.reduceEqDiff, Nat.reduceAdd, bx]
      rw [ix_none fun i hi => hs i hi (by omega)]
      exact VSub.refl _
theorem indexStr_p (l : List Bs) (hl : l.length ≤ 4611686018427387904) (p : Bs → Bool) {g : FuncId} {fn : Func} (hf : Tryz.prog.funcs[g]? = some fn) (hb : fn.body.isSome = true) (hn : fn.name ≠ "runtime.NumGoroutine") (caps : List AV) (hc : allPure caps = true)
    (hp : ∀ c ∈ l, PCalls Tryz.prog g (.str c :: caps) (.bool (p c))) :
    PCalls Tryz.prog 227 [.sl 1 (strs l) .any, .clo (.func g) [] caps] (.int .i64 (ix p l)) := by
  refine f227.pcalls0 (by simp) (by simp [allPure, isPure, capPure, strs_pure, hc]) rfl ?_
  unfold c227
  refine Wp.seqReg (by simp only [go_sem, reduceIte, Nat.reduceEqDiff, Nat.reduceAdd, bx]; exact rfl) (by trivial) ?_
  refine Wp.seq ?_
  refine Wp.seqReg (by simp only [go_sem, reduceIte, Nat.reduceEqDiff, Nat.reduceAdd, bx, strs_length]; exact rfl) (by trivial) ?_
  refine Wp.block ?_
  refine Wp.loopK [0, 1, 7] (by simp only [go_sem, reduceIte, Nat.reduceEqDiff, Nat.reduceAdd, bx, List.map]; exact rfl) (fun j : Nat => [(8, .int .i64 j)]) (fun j => j ≤ l.length ∧ ∀ i (hi : i < l.length), i < j → p l[i] = false) (fun j => l.length - j) 0 ⟨Nat.zero_le _, fun i hi h => absurd h (by omega)⟩ ?_ ?_
  · simp only [AllSub, go_sem, reduceIte, Nat.reduceEqDiff, Nat.reduceAdd, bx]; and_intros <;> first | exact trivial | exact VSub.refl _ | exact VSub.any _ | (refine VSub.int ?_; omega)
  · rintro j ⟨hj, hs⟩
    refine Wp.seqReg (by simp only [go_sem, reduceIte, Nat.reduceEqDiff, Nat.reduceAdd, bx]; exact rfl) (by trivial) ?_
    refine Wp.seq ?_
    refine Wp.cond_split (b := decide ((j : Int) < (l.length : Int))) (by simp only [go_sem, reduceIte, Nat.reduceEqDiff, Nat.reduceAdd, bx]) (fun hc => ?_) (fun hc => ?_)
    · have h1 : (0 : Int) ≤ (j : Int) := by omega
      have h2 : (j : Int) < (l.length : Int) := by simpa using hc
      have h3 : j < l.length := by omega
      have hq := hp _ (List.getElem_mem h3)
      rw [← getD_el (d := []) h3] at hq
      refine Wp.skip ?_
      refine Wp.seq ?_
      refine Wp.block ?_
      refine Wp.seqReg (by simp only [go_sem, reduceIte, Nat.reduceEqDiff, Nat.reduceAdd, bx]; exact rfl) (by trivial) ?_
      refine Wp.seqItems (by simp only [go_sem, reduceIte, Nat.reduceEqDiff, Nat.reduceAdd, bx, strs_length, h1, h2, and_self, if_true, Int.toNat_natCast, strs_getD _ _ _ h3]; exact rfl) ?_
      refine WpItems.pcallv (by simp only [go_sem]) (by simp only [go_sem, reduceIte, Nat.reduceEqDiff]; exact rfl) hf hb hn (by simp only [go_sem, reduceIte, Nat.reduceEqDiff, List.map]; exact VSubs.refl _) hq ?_
      refine WpItems.eval (by simp only [go_sem, reduceIte, Nat.reduceEqDiff, Nat.reduceAdd, bx]; exact rfl) ?_
      refine WpItems.nil ⟨by trivial, ?_⟩
      rw [getD_el h3]
      refine Wp.cond_split (b := p l[j]) (by simp only [go_sem, reduceIte, Nat.reduceEqDiff, Nat.reduceAdd, bx]) (fun hd => ?_) (fun hd => ?_)
      · refine Wp.seqReg (by simp only [go_sem, reduceIte, Nat.reduceEqDiff, Nat.reduceAdd, bx]; exact rfl) (by trivial) ?_
        refine Wp.ret ⟨trivial, _, rfl, ?_⟩
        simp only [go_sem, reduceIte, Nat.reduceEqDiff, Nat.reduceAdd, bx]
        rw [ix_found h3 hd hs]
        exact VSub.refl _
      · refine Wp.skip ?_
        refine Wp.reg1 (by simp only [go_sem, reduceIte, Nat.reduceEqDiff, Nat.reduceAdd, bx]; simp (disch := omega) only [IntWalk.i64_in]; exact rfl) (by trivial) ?_
        refine ⟨j + 1, ⟨by omega, fun i hi h => ?_⟩, by omega, ?_⟩
        · by_cases he : i = j
          · subst he; exact hd
          · exact hs i hi (by omega)
        · refine StLe.tm (by simp only [AllSub, go_sem, reduceIte, Nat.reduceEqDiff, Nat.reduceAdd, bx]; and_intros <;> first | exact trivial | exact VSub.refl _ | exact VSub.any _ | (refine VSub.int ?_; omega))
    · have : ¬ (j : Int) < (l.length : Int) := by simpa using hc
      refine Wp.exit ?_
      refine Wp.seqReg (by simp only [go_sem, reduceIte, Nat.reduceEqDiff, Nat.reduceAdd, bx]; exact rfl) (by trivial) ?_
      refine Wp.ret ⟨trivial, _, rfl, ?_⟩
      simp only [go_sem, reduceIte, Nat.reduceEqDiff, Nat.reduceAdd, bx]
      rw [ix_none fun i hi => hs i hi (by omega)]
      exact VSub.refl _
theorem containsSp_p (l : List Sp) (hl : l.length ≤ 4611686018427387904) (p : Sp → Bool) {g : FuncId} {fn : Func} (hf : Tryz.prog.funcs[g]? = some fn) (hb : fn.body.isSome = true) (hn : fn.name ≠ "runtime.NumGoroutine") (caps : List AV) (hc : allPure caps = true)
    (hp : ∀ c ∈ l, PCalls Tryz.prog g (encSp c :: caps) (.bool (p c))) :
    PCalls Tryz.prog 224 [.sl 2 (sps l) .any, .clo (.func g) [] caps] (.bool (l.any p)) := by
  refine f224.pcalls0 (by simp) (by simp [allPure, isPure, capPure, sps_pure, hc]) rfl ?_
  unfold c224
  repeat (first
    | ((first | apply Wp.seqItems | apply Wp.items | ((first
        | (refine WpItems.pcall ?_ ?_ (indexSp_p l hl p hf hb hn caps hc hp) ?_; (· simp only [go_sem, reduceIte, Nat.reduceEqDiff, Nat.reduceAdd, bx]); (· simp only [go_sem, reduceIte, Nat.reduceEqDiff, Nat.reduceAdd, bx, List.map]; first | exact VSubs.refl _ | (repeat (first | exact VSubs.nil | refine VSubs.cons (by first | exact VSub.refl _ | assumption | exact VSub.cap | exact VSub.any _) ?_))))); apply WpItems.eval)); (· simp only [go_sem, reduceIte, Nat.reduceEqDiff, Nat.reduceAdd, bx, ax, if_true, if_false, Nat.reduceMul, Nat.reduceLeDiff, ix_nonneg]; exact rfl))
    | (refine WpItems.nil ⟨?_, ?_⟩; (· first | trivial | simp [pairsQ, pairsOk, apart, ent0]))
    | (apply Wp.cond_lit; (· simp only [go_sem, reduceIte, Nat.reduceEqDiff, Nat.reduceAdd, bx, ax, if_true, if_false, Nat.reduceMul, Nat.reduceLeDiff, ix_nonneg]; exact rfl); (· rfl))
    | refine Wp.skip ?_
    | refine Wp.label ?_
    | refine Wp.block ?_
    | refine Wp.exit ?_
    | refine Wp.seq ?_)
  refine Wp.ret ⟨trivial, _, rfl, ?_⟩
  simp only [go_sem, reduceIte, Nat.reduceEqDiff, Nat.reduceAdd, bx]
  exact VSub.refl _
theorem spanned1_p (s : Sp) (k : Bs) : PCalls Tryz.prog 225 [encSp s, .ref [.str k]] (.bool (winB s k)) := by
  refine f225.pcalls0 (by simp) (by simp [allPure, isPure, encSp]) rfl ?_
  unfold c225
  repeat (first
    | ((first | apply Wp.seqItems | apply Wp.items | ((first
        | (refine WpItems.pcall ?_ ?_ (within_p s k) ?_; (· simp only [go_sem, reduceIte, Nat.reduceEqDiff, Nat.reduceAdd, bx]); (· simp only [go_sem, reduceIte, Nat.reduceEqDiff, Nat.reduceAdd, bx, List.map]; first | exact VSubs.refl _ | (repeat (first | exact VSubs.nil | refine VSubs.cons (by first | exact VSub.refl _ | assumption | exact VSub.cap | exact VSub.any _) ?_))))); apply WpItems.eval)); (· simp only [go_sem, reduceIte, Nat.reduceEqDiff, Nat.reduceAdd, bx, ax, if_true, if_false, Nat.reduceMul, Nat.reduceLeDiff, encSp]; exact rfl))
    | (refine WpItems.nil ⟨?_, ?_⟩; (· first | trivial | simp [pairsQ, pairsOk, apart, ent0]))
    | (apply Wp.cond_lit; (· simp only [go_sem, reduceIte, Nat.reduceEqDiff, Nat.reduceAdd, bx, ax, if_true, if_false, Nat.reduceMul, Nat.reduceLeDiff, encSp]; exact rfl); (· rfl))
    | refine Wp.skip ?_
    | refine Wp.label ?_
    | refine Wp.block ?_
    | refine Wp.exit ?_
    | refine Wp.seq ?_)
  refine Wp.ret ⟨trivial, _, rfl, ?_⟩
  simp only [go_sem, reduceIte, Nat.reduceEqDiff, Nat.reduceAdd, bx]
  exact VSub.refl _
theorem spanned_p (l : List Sp) (hl : l.length ≤ 4611686018427387904) (k : Bs) : PCalls Tryz.prog 199 [.sl 2 (sps l) .any, .str k] (.bool (spanned l k)) := by
  refine f199.pcalls0 (by simp) (by simp [allPure, isPure, capPure, sps_pure]) rfl ?_
  unfold c199
  refine Wp.seqReg (by simp only [go_sem, reduceIte, Nat.reduceEqDiff, Nat.reduceAdd, bx]; exact rfl) (by trivial) ?_
  refine Wp.frz (fun _ => true) [(0, .sl 2 (sps l) .any), (3, .ref [.str k])] ⟨none', 1, [], 0⟩ ?_ (OLe.none _) (by simp) (by simp [go_sem]) (Nat.le_refl _) ?_
  · simp only [AllSub, go_sem, reduceIte, Nat.reduceEqDiff, unT, and_true]
    and_intros <;> exact VSub.refl _
  repeat (first
    | ((first | apply Wp.seqItems | apply Wp.items | ((first
        | (refine WpItems.pcall ?_ ?_ (containsSp_p l hl (winB · k) (caps := [.ref [.str k]]) Tryz.func225 rfl (of_decide_eq_true (by kernel_rfl)) rfl (fun c _ => spanned1_p c k)) ?_; (· simp only [go_sem, reduceIte, Nat.reduceEqDiff, Nat.reduceAdd, bx]); (· simp only [go_sem, reduceIte, Nat.reduceEqDiff, Nat.reduceAdd, bx, List.map]; first | exact VSubs.refl _ | (repeat (first | exact VSubs.nil | refine VSubs.cons (by first | exact VSub.refl _ | assumption | exact VSub.cap | exact VSub.any _) ?_))))); apply WpItems.eval)); (· simp only [go_sem, reduceIte, Nat.reduceEqDiff, Nat.reduceAdd, bx, ax, if_true, if_false, Nat.reduceMul, Nat.reduceLeDiff]; exact rfl))
    | (refine WpItems.nil ⟨?_, ?_⟩; (· first | trivial | simp [pairsQ, pairsOk, apart, ent0]))
    | (apply Wp.cond_lit; (· simp only [go_sem, reduceIte, Nat.reduceEqDiff, Nat.reduceAdd, bx, ax, if_true, if_false, Nat.reduceMul, Nat.reduceLeDiff]; exact rfl); (· rfl))
    | refine Wp.skip ?_
    | refine Wp.label ?_
    | refine Wp.block ?_
    | refine Wp.exit ?_
    | refine Wp.seq ?_)
  refine Wp.ret ⟨trivial, _, rfl, ?_⟩
  simp only [go_sem, reduceIte, Nat.reduceEqDiff, Nat.reduceAdd, bx]
  exact VSub.refl _
theorem made1_p (l : List Sp) (hl : l.length ≤ 4611686018427387904) (k : Bs) : PCalls Tryz.prog 201 [.str k, .ref [.sl 2 (sps l) .any]] (.bool (spanned l k)) := by
  refine f201.pcalls0 (by simp) (by simp [allPure, isPure, capPure, sps_pure]) rfl ?_
  unfold c201
  repeat (first
    | ((first | apply Wp.seqItems | apply Wp.items | ((first
        | (refine WpItems.pcall ?_ ?_ (spanned_p l hl k) ?_; (· simp only [go_sem, reduceIte, Nat.reduceEqDiff, Nat.reduceAdd, bx]); (· simp only [go_sem, reduceIte, Nat.reduceEqDiff, Nat.reduceAdd, bx, List.map]; first | exact VSubs.refl _ | (repeat (first | exact VSubs.nil | refine VSubs.cons (by first | exact VSub.refl _ | assumption | exact VSub.cap | exact VSub.any _) ?_))))); apply WpItems.eval)); (· simp only [go_sem, reduceIte, Nat.reduceEqDiff, Nat.reduceAdd, bx, ax, if_true, if_false, Nat.reduceMul, Nat.reduceLeDiff]; exact rfl))
    | (refine WpItems.nil ⟨?_, ?_⟩; (· first | trivial | simp [pairsQ, pairsOk, apart, ent0]))
    | (apply Wp.cond_lit; (· simp only [go_sem, reduceIte, Nat.reduceEqDiff, Nat.reduceAdd, bx, ax, if_true, if_false, Nat.reduceMul, Nat.reduceLeDiff]; exact rfl); (· rfl))
    | refine Wp.skip ?_
    | refine Wp.label ?_
    | refine Wp.block ?_
    | refine Wp.exit ?_
    | refine Wp.seq ?_)
  refine Wp.ret ⟨trivial, _, rfl, ?_⟩
  simp only [go_sem, reduceIte, Nat.reduceEqDiff, Nat.reduceAdd, bx]
  exact VSub.refl _
end Go.Proofs.YtkcgpcbpieofnaaGreatDoor.Reads
end
