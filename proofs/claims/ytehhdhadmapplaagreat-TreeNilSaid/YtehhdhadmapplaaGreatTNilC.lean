/- Parts of a proof: a layer of abstract values over the model, the functions' walks, plain laws. -/
import Derived.Deep.CondSized
import Derived.Defers
import Derived.IntWalk
import Derived.KernelRfl
import Derived.Laws.Append
import Derived.Laws.AppendOwn
import Derived.Laws.BytesArg
import Derived.Laws.ComplexArith
import Derived.Laws.Cover3
import Derived.Laws.Entries
import Derived.Laws.IdiomCopy
import Derived.Laws.IdiomStrings
import Derived.Laws.Pointers
import Derived.Laws.Small
import Derived.Laws.Strings
import Derived.Laws.StructEq
import Derived.MapKept
import Derived.OpenShut
import Derived.Orders
import Derived.OrdersIn
import Derived.ProofKit
import Derived.RangeFuncRecord
import Derived.RangeFuncSeq
import Derived.ReadAgain
import Derived.Recover
import Derived.Scope
import Derived.Shelf.Slices.Cells
import Derived.Shelf.Slices.Clone
import Derived.Shelf.Slices.Delete
import Derived.Shelf.Spec.SlicesInsertGrow
import Derived.SizedLaws
import Derived.Tactics
import Derived.Tactics2
import Derived.Test.YtehhdhadmapplaaGreatProg
import Derived.Test.YtehhdhadmapplaaGreatRows
import Derived.WalkSmall
import Derived.Test.YtehhdhadmapplaaGreatTNilB
section
set_option maxRecDepth 100000
namespace Go.Proofs.YtehhdhadmapplaaGreat.C
open Go.Av
def c3 : AC := (.seq (.reg [⟨some 6, none, .mov (.c (.bool false))⟩] none)
 (.seq (.reg [⟨some 7, none, .mov (.c (.sc (.pointer none)))⟩] none)
 (.seq (.seq (.reg [⟨some 28, none, .mov (.t 2)⟩] none)
 (.cond (.t 28) (.reg [⟨some 29, none, .build [.sc (.pointer none), .int .i64 0] []⟩, ⟨some 30, none, .box (.t 29)⟩, ⟨some 7, none, .mov (.t 30)⟩] none) .skip))
 (.seq (.reg [⟨some 32, none, .call 6 [(.c (.sc (.pointer none))), (.c (.int .i64 (-1)))]⟩, ⟨some 31, none, .mov (.t 32)⟩, ⟨some 33, none, .ext (.t 31) 0⟩, ⟨some 34, none, .ext (.t 31) 1⟩, ⟨some 8, none, .mov (.t 33)⟩, ⟨some 9, none, .mov (.t 34)⟩] none)
 (.seq (.reg [⟨some 10, none, .mov (.c (.sc (.pointer none)))⟩] none)
 (.seq (.reg [⟨some 36, none, .mov (.t 10)⟩, ⟨some 37, none, .mov (.t 1)⟩, ⟨some 38, none, .call 6 [(.t 36), (.t 37)]⟩, ⟨some 35, none, .mov (.t 38)⟩, ⟨some 39, none, .ext (.t 35) 0⟩, ⟨some 40, none, .ext (.t 35) 1⟩, ⟨some 11, none, .mov (.t 39)⟩, ⟨some 12, none, .mov (.t 40)⟩] none)
 (.seq (.reg [⟨some 42, none, .call 7 [(.c (.int .i64 5))]⟩, ⟨some 41, none, .mov (.t 42)⟩, ⟨some 43, none, .ext (.t 41) 0⟩, ⟨some 44, none, .ext (.t 41) 1⟩, ⟨some 45, none, .ext (.t 41) 2⟩, ⟨some 13, none, .mov (.t 43)⟩, ⟨some 14, none, .mov (.t 44)⟩, ⟨some 15, none, .mov (.t 45)⟩] none)
 (.seq (.seq (.reg [⟨some 46, none, .mov (.t 13)⟩, ⟨some 47, none, .eqP false (.t 46) (.c (.sc (.pointer none)))⟩] none)
 (.cond (.t 47) (.seq (.reg [⟨some 6, none, .mov (.c (.bool false))⟩] none)
 .ret) .skip))
 (.seq (.reg [⟨some 49, none, .mov (.t 14)⟩, ⟨some 50, none, .call 6 [(.t 49), (.c (.int .i64 5))]⟩, ⟨some 48, none, .mov (.t 50)⟩, ⟨some 51, none, .ext (.t 48) 0⟩, ⟨some 52, none, .ext (.t 48) 1⟩, ⟨some 16, none, .mov (.t 51)⟩, ⟨some 17, none, .mov (.t 52)⟩] none)
 (.seq (.reg [⟨some 54, none, .mov (.t 14)⟩, ⟨some 55, none, .call 6 [(.t 54), (.c (.int .i64 (-2)))]⟩, ⟨some 53, none, .mov (.t 55)⟩, ⟨some 56, none, .ext (.t 53) 0⟩, ⟨some 57, none, .ext (.t 53) 1⟩, ⟨some 18, none, .mov (.t 56)⟩, ⟨some 19, none, .mov (.t 57)⟩] none)
 (.seq (.reg [⟨some 59, none, .mov (.t 7)⟩, ⟨some 60, none, .mov (.t 0)⟩, ⟨some 61, none, .call 8 [(.t 59), (.t 60)]⟩, ⟨some 58, none, .mov (.t 61)⟩, ⟨some 62, none, .ext (.t 58) 0⟩, ⟨some 63, none, .ext (.t 58) 1⟩, ⟨some 20, none, .mov (.t 62)⟩, ⟨some 21, none, .mov (.t 63)⟩] none)
 (.seq (.reg [⟨some 65, none, .mov (.t 7)⟩, ⟨some 66, none, .mov (.t 0)⟩, ⟨some 67, none, .mov (.t 0)⟩, ⟨some 68, none, .mov (.t 1)⟩, ⟨some 69, none, .call 9 [(.t 65), (.t 66), (.t 67), (.t 68)]⟩, ⟨some 64, none, .mov (.t 69)⟩, ⟨some 70, none, .ext (.t 64) 0⟩, ⟨some 71, none, .ext (.t 64) 1⟩, ⟨some 22, none, .mov (.t 70)⟩, ⟨some 23, none, .mov (.t 71)⟩] none)
 (.seq (.reg [⟨some 73, none, .mov (.t 7)⟩, ⟨some 74, none, .call 10 [(.t 73)]⟩, ⟨some 72, none, .mov (.t 74)⟩, ⟨some 75, none, .ext (.t 72) 0⟩, ⟨some 76, none, .ext (.t 72) 1⟩, ⟨some 24, none, .mov (.t 75)⟩, ⟨some 25, none, .mov (.t 76)⟩] none)
 (.seq (.reg [⟨some 78, none, .mov (.t 7)⟩, ⟨some 79, none, .call 11 [(.t 78)]⟩, ⟨some 77, none, .mov (.t 79)⟩, ⟨some 80, none, .ext (.t 77) 0⟩, ⟨some 81, none, .ext (.t 77) 1⟩, ⟨some 26, none, .mov (.t 80)⟩, ⟨some 27, none, .mov (.t 81)⟩] none)
 (.seq (.reg [⟨some 82, none, .mov (.t 9)⟩, ⟨some 83, none, .bin .eql (.t 82) (.c (.int .i64 1))⟩, ⟨some 84, none, .mov (.t 83)⟩, ⟨some 85, some (84, true), .mov (.t 12)⟩, ⟨some 86, some (84, true), .bin .eql (.t 85) (.c (.int .i64 1))⟩, ⟨some 87, none, .pick (.t 84) (.t 86) (.c (.bool false))⟩, ⟨some 88, none, .mov (.t 87)⟩, ⟨some 89, some (88, true), .mov (.t 16)⟩, ⟨some 90, some (88, true), .eqP false (.t 89) (.c (.sc (.pointer none)))⟩, ⟨some 91, none, .pick (.t 88) (.t 90) (.c (.bool false))⟩, ⟨some 92, none, .mov (.t 91)⟩, ⟨some 93, some (92, true), .mov (.t 17)⟩, ⟨some 94, some (92, true), .bin .eql (.t 93) (.c (.int .i64 2))⟩, ⟨some 95, none, .pick (.t 92) (.t 94) (.c (.bool false))⟩, ⟨some 96, none, .mov (.t 95)⟩, ⟨some 97, some (96, true), .mov (.t 18)⟩, ⟨some 98, some (96, true), .eqP false (.t 97) (.c (.sc (.pointer none)))⟩, ⟨some 99, none, .pick (.t 96) (.t 98) (.c (.bool false))⟩, ⟨some 100, none, .mov (.t 99)⟩, ⟨some 101, some (100, true), .mov (.t 19)⟩, ⟨some 102, some (100, true), .bin .eql (.t 101) (.c (.int .i64 2))⟩, ⟨some 103, none, .pick (.t 100) (.t 102) (.c (.bool false))⟩, ⟨some 104, none, .mov (.t 103)⟩, ⟨some 105, some (104, true), .mov (.t 20)⟩, ⟨some 106, some (104, true), .bin .eql (.t 105) (.c (.str []))⟩, ⟨some 107, none, .pick (.t 104) (.t 106) (.c (.bool false))⟩, ⟨some 108, none, .mov (.t 107)⟩, ⟨some 109, some (108, true), .mov (.t 21)⟩, ⟨some 110, some (108, true), .bin .eql (.t 109) (.c (.int .i64 1))⟩, ⟨some 111, none, .pick (.t 108) (.t 110) (.c (.bool false))⟩, ⟨some 112, none, .mov (.t 111)⟩, ⟨some 113, some (112, true), .mov (.t 22)⟩, ⟨some 114, some (112, true), .len false (.t 113)⟩, ⟨some 115, some (112, true), .bin .eql (.t 114) (.c (.int .i64 0))⟩, ⟨some 116, none, .pick (.t 112) (.t 115) (.c (.bool false))⟩, ⟨some 117, none, .mov (.t 116)⟩, ⟨some 118, some (117, true), .mov (.t 23)⟩, ⟨some 119, some (117, true), .bin .eql (.t 118) (.c (.int .i64 1))⟩, ⟨some 120, none, .pick (.t 117) (.t 119) (.c (.bool false))⟩, ⟨some 121, none, .mov (.t 120)⟩, ⟨some 122, some (121, true), .mov (.t 24)⟩, ⟨some 123, some (121, true), .len false (.t 122)⟩, ⟨some 124, some (121, true), .bin .eql (.t 123) (.c (.int .i64 0))⟩, ⟨some 125, none, .pick (.t 121) (.t 124) (.c (.bool false))⟩, ⟨some 126, none, .mov (.t 125)⟩, ⟨some 127, some (126, true), .mov (.t 25)⟩, ⟨some 128, some (126, true), .bin .eql (.t 127) (.c (.int .i64 1))⟩, ⟨some 129, none, .pick (.t 126) (.t 128) (.c (.bool false))⟩, ⟨some 130, none, .mov (.t 129)⟩, ⟨some 131, some (130, true), .mov (.t 26)⟩, ⟨some 132, some (130, true), .bin .eql (.t 131) (.c (.int .i64 0))⟩, ⟨some 133, none, .pick (.t 130) (.t 132) (.c (.bool false))⟩, ⟨some 134, none, .mov (.t 133)⟩, ⟨some 135, some (134, true), .mov (.t 27)⟩, ⟨some 136, some (134, true), .bin .eql (.t 135) (.c (.int .i64 1))⟩, ⟨some 137, none, .pick (.t 134) (.t 136) (.c (.bool false))⟩, ⟨some 138, none, .mov (.t 137)⟩, ⟨some 139, some (138, true), .mov (.t 7)⟩, ⟨some 140, some (138, true), .mov (.t 0)⟩, ⟨some 141, some (138, true), .mov (.t 0)⟩, ⟨some 142, some (138, true), .call 12 [(.t 139), (.t 140), (.t 141)]⟩, ⟨some 143, some (138, true), .bin .eql (.t 142) (.c (.int .i64 1))⟩, ⟨some 144, none, .pick (.t 138) (.t 143) (.c (.bool false))⟩, ⟨some 145, none, .mov (.t 144)⟩, ⟨some 146, some (145, true), .mov (.t 7)⟩, ⟨some 147, some (145, true), .mov (.t 0)⟩, ⟨some 148, some (145, true), .call 13 [(.t 146), (.t 147)]⟩, ⟨some 149, some (145, true), .bin .eql (.t 148) (.c (.int .i64 1))⟩, ⟨some 150, none, .pick (.t 145) (.t 149) (.c (.bool false))⟩, ⟨some 151, none, .mov (.t 150)⟩, ⟨some 152, some (151, true), .mov (.t 7)⟩, ⟨some 153, some (151, true), .call 14 [(.t 152)]⟩, ⟨some 154, some (151, true), .bin .eql (.t 153) (.c (.int .i64 (-1)))⟩, ⟨some 155, none, .pick (.t 151) (.t 154) (.c (.bool false))⟩, ⟨some 156, none, .mov (.t 155)⟩, ⟨some 157, some (156, true), .call 15 []⟩, ⟨some 158, none, .pick (.t 156) (.t 157) (.c (.bool false))⟩, ⟨some 6, none, .mov (.t 158)⟩] none)
 .ret)))))))))))))))
theorem f3 : FnIs Tryz.prog 3 159 c3 [.tmp 6] := ⟨_, Tryz.func3, rfl, by kernel_rfl, rfl⟩
def c6 : AC := (.seq (.reg [⟨some 4, none, .mov (.c (.sc (.pointer none)))⟩, ⟨some 5, none, .mov (.c (.int .i64 0))⟩] none)
 (.seq (.seq (.reg [⟨some 10, none, .mov (.t 0)⟩, ⟨some 11, none, .call 46 [(.t 10), (.c (.sl 1 [] (.exact 0)))]⟩, ⟨some 6, none, .mov (.t 11)⟩] none)
 (.seq (.reg [⟨some 12, none, .mov (.t 6)⟩, ⟨some 13, none, .bin .neq (.t 12) (.c (.int .i64 0))⟩] none)
 (.cond (.t 13) (.seq (.reg [⟨some 14, none, .mov (.t 6)⟩, ⟨some 4, none, .mov (.c (.sc (.pointer none)))⟩, ⟨some 5, none, .mov (.t 14)⟩] none)
 .ret) .skip)))
 (.seq (.reg [⟨some 16, none, .mov (.t 0)⟩, ⟨some 17, none, .call 47 [(.t 16)]⟩, ⟨some 15, none, .mov (.t 17)⟩, ⟨some 18, none, .ext (.t 15) 0⟩, ⟨some 19, none, .ext (.t 15) 1⟩, ⟨some 20, none, .ext (.t 15) 2⟩, ⟨some 7, none, .mov (.t 18)⟩, ⟨some 8, none, .mov (.t 19)⟩, ⟨some 9, none, .mov (.t 20)⟩] none)
 (.seq (.seq (.reg [⟨some 21, none, .mov (.t 1)⟩, ⟨some 22, none, .bin .lss (.t 21) (.c (.int .i64 (-1)))⟩, ⟨some 23, none, .mov (.t 22)⟩, ⟨some 24, some (23, false), .mov (.t 1)⟩, ⟨some 25, some (23, false), .mov (.t 7)⟩, ⟨some 26, some (23, false), .len false (.t 25)⟩, ⟨some 27, some (23, false), .mov (.t 8)⟩, ⟨some 28, some (23, false), .len false (.t 27)⟩, ⟨some 29, some (23, false), .bin .add (.t 26) (.t 28)⟩, ⟨some 30, some (23, false), .mov (.t 9)⟩, ⟨some 31, some (23, false), .len false (.t 30)⟩, ⟨some 32, some (23, false), .bin .add (.t 29) (.t 31)⟩, ⟨some 33, some (23, false), .mov (.t 0)⟩, ⟨some 34, some (23, false), .call 48 [(.t 33)]⟩, ⟨some 35, some (23, false), .bin .add (.t 32) (.t 34)⟩, ⟨some 36, some (23, false), .bin .geq (.t 24) (.t 35)⟩, ⟨some 37, none, .pick (.t 23) (.c (.bool true)) (.t 36)⟩] none)
 (.cond (.t 37) (.seq (.reg [⟨some 4, none, .mov (.c (.sc (.pointer none)))⟩, ⟨some 5, none, .mov (.c (.int .i64 2))⟩] none)
 .ret) .skip))
 (.seq (.reg [⟨some 38, none, .mov (.t 0)⟩, ⟨some 39, none, .mov (.t 1)⟩, ⟨some 40, none, .build [.sc (.pointer none), .int .i64 0] [(0, 1, (.t 38)), (1, 1, (.t 39))]⟩, ⟨some 41, none, .box (.t 40)⟩, ⟨some 4, none, .mov (.t 41)⟩, ⟨some 5, none, .mov (.c (.int .i64 0))⟩] none)
 .ret)))))
theorem f6 : FnIs Tryz.prog 6 42 c6 [.tmp 4, .tmp 5] := ⟨_, Tryz.func6, rfl, by kernel_rfl, rfl⟩
def c7 : AC := (.seq (.reg [⟨some 2, none, .mov (.c (.sc (.pointer none)))⟩, ⟨some 3, none, .mov (.c (.sc (.pointer none)))⟩, ⟨some 4, none, .mov (.c (.sc (.pointer none)))⟩] none)
 (.seq (.reg [⟨some 12, none, .mov (.t 0)⟩, ⟨some 13, none, .bin .mul (.c (.int .i64 8)) (.t 12)⟩, ⟨some 14, none, .call 49 [(.t 13)]⟩, ⟨some 11, none, .mov (.t 14)⟩, ⟨some 15, none, .ext (.t 11) 0⟩, ⟨some 16, none, .ext (.t 11) 1⟩, ⟨some 5, none, .mov (.t 15)⟩, ⟨some 6, none, .mov (.t 16)⟩] none)
 (.seq (.seq (.reg [⟨some 17, none, .mov (.t 6)⟩, ⟨some 18, none, .bin .neq (.t 17) (.c (.int .i64 0))⟩] none)
 (.cond (.t 18) (.seq (.reg [⟨some 2, none, .mov (.c (.sc (.pointer none)))⟩, ⟨some 3, none, .mov (.c (.sc (.pointer none)))⟩, ⟨some 4, none, .mov (.c (.sc (.pointer none)))⟩] none)
 .ret) .skip))
 (.seq (.reg [⟨some 20, none, .mov (.t 5)⟩, ⟨some 21, none, .mov (.t 0)⟩, ⟨some 22, none, .call 50 [(.t 20), (.c (.int .i64 0)), (.t 21)]⟩, ⟨some 19, none, .mov (.t 22)⟩, ⟨some 23, none, .ext (.t 19) 0⟩, ⟨some 24, none, .ext (.t 19) 1⟩, ⟨some 7, none, .mov (.t 23)⟩, ⟨some 8, none, .mov (.t 24)⟩] none)
 (.seq (.reg [⟨some 26, none, .mov (.t 7)⟩, ⟨some 27, none, .call 6 [(.t 26), (.c (.int .i64 (-1)))]⟩, ⟨some 25, none, .mov (.t 27)⟩, ⟨some 28, none, .ext (.t 25) 0⟩, ⟨some 29, none, .ext (.t 25) 1⟩, ⟨some 9, none, .mov (.t 28)⟩, ⟨some 10, none, .mov (.t 29)⟩] none)
 (.seq (.seq (.reg [⟨some 30, none, .mov (.t 10)⟩, ⟨some 31, none, .bin .neq (.t 30) (.c (.int .i64 0))⟩] none)
 (.cond (.t 31) (.seq (.reg [⟨some 2, none, .mov (.c (.sc (.pointer none)))⟩, ⟨some 3, none, .mov (.c (.sc (.pointer none)))⟩, ⟨some 4, none, .mov (.c (.sc (.pointer none)))⟩] none)
 .ret) .skip))
 (.seq (.reg [⟨some 32, none, .mov (.t 9)⟩, ⟨some 33, none, .mov (.t 7)⟩, ⟨some 34, none, .mov (.t 5)⟩, ⟨some 2, none, .mov (.t 32)⟩, ⟨some 3, none, .mov (.t 33)⟩, ⟨some 4, none, .mov (.t 34)⟩] none)
 .ret)))))))
theorem f7 : FnIs Tryz.prog 7 35 c7 [.tmp 2, .tmp 3, .tmp 4] := ⟨_, Tryz.func7, rfl, by kernel_rfl, rfl⟩
def c8 : AC := (.seq (.reg [⟨some 2, none, .box (.t 0)⟩, ⟨some 3, none, .box (.t 1)⟩, ⟨some 4, none, .mov (.c (.str []))⟩, ⟨some 5, none, .mov (.c (.int .i64 0))⟩] none)
 (.seq (.reg [⟨some 6, none, .alloc [.str []]⟩, ⟨none, none, .store 1 (.t 6) (.c (.str []))⟩] none)
 (.seq (.reg [⟨some 8, none, .load none (.t 2)⟩, ⟨some 9, none, .mkfn (.func 52) [] [(.t 2), (.t 3), (.t 6)]⟩, ⟨some 10, none, .call 51 [(.t 8), (.t 9)]⟩, ⟨some 7, none, .mov (.t 10)⟩] none)
 (.seq (.reg [⟨some 11, none, .load none (.t 6)⟩, ⟨some 12, none, .mov (.t 7)⟩, ⟨some 4, none, .mov (.t 11)⟩, ⟨some 5, none, .mov (.t 12)⟩] none)
 .ret))))
theorem f8 : FnIs Tryz.prog 8 13 c8 [.tmp 4, .tmp 5] := ⟨_, Tryz.func8, rfl, by kernel_rfl, rfl⟩
def c9 : AC := (.seq (.reg [⟨some 4, none, .box (.t 0)⟩, ⟨some 5, none, .box (.t 1)⟩, ⟨some 6, none, .box (.t 2)⟩, ⟨some 7, none, .box (.t 3)⟩, ⟨some 8, none, .mov (.c (.sl 2 [] (.exact 0)))⟩, ⟨some 9, none, .mov (.c (.int .i64 0))⟩] none)
 (.seq (.reg [⟨some 10, none, .alloc [.sl 2 [] (.exact 0)]⟩] none)
 (.seq (.reg [⟨some 12, none, .load none (.t 4)⟩, ⟨some 13, none, .mkfn (.func 55) [] [(.t 4), (.t 7), (.t 5), (.t 6), (.t 10)]⟩, ⟨some 14, none, .call 51 [(.t 12), (.t 13)]⟩, ⟨some 11, none, .mov (.t 14)⟩] none)
 (.seq (.seq (.reg [⟨some 15, none, .mov (.t 11)⟩, ⟨some 16, none, .bin .neq (.t 15) (.c (.int .i64 0))⟩] none)
 (.cond (.t 16) (.seq (.reg [⟨some 17, none, .mov (.t 11)⟩, ⟨some 8, none, .mov (.c (.sl 2 [] (.exact 0)))⟩, ⟨some 9, none, .mov (.t 17)⟩] none)
 .ret) .skip))
 (.seq (.reg [⟨some 18, none, .load none (.t 10)⟩, ⟨some 8, none, .mov (.t 18)⟩, ⟨some 9, none, .mov (.c (.int .i64 0))⟩] none)
 .ret)))))
theorem f9 : FnIs Tryz.prog 9 19 c9 [.tmp 8, .tmp 9] := ⟨_, Tryz.func9, rfl, by kernel_rfl, rfl⟩
def c10 : AC := (.seq (.reg [⟨some 1, none, .box (.t 0)⟩, ⟨some 2, none, .mov (.c (.sl 1 [] (.exact 0)))⟩, ⟨some 3, none, .mov (.c (.int .i64 0))⟩] none)
 (.seq (.reg [⟨some 4, none, .alloc [.sl 1 [] (.exact 0)]⟩] none)
 (.seq (.reg [⟨some 6, none, .load none (.t 1)⟩, ⟨some 7, none, .mkfn (.func 58) [] [(.t 1), (.t 4)]⟩, ⟨some 8, none, .call 51 [(.t 6), (.t 7)]⟩, ⟨some 5, none, .mov (.t 8)⟩] none)
 (.seq (.seq (.reg [⟨some 9, none, .mov (.t 5)⟩, ⟨some 10, none, .bin .neq (.t 9) (.c (.int .i64 0))⟩] none)
 (.cond (.t 10) (.seq (.reg [⟨some 11, none, .mov (.t 5)⟩, ⟨some 2, none, .mov (.c (.sl 1 [] (.exact 0)))⟩, ⟨some 3, none, .mov (.t 11)⟩] none)
 .ret) .skip))
 (.seq (.reg [⟨some 12, none, .load none (.t 4)⟩, ⟨some 13, none, .call 60 [(.t 12)]⟩] none)
 (.seq (.reg [⟨some 14, none, .load none (.t 4)⟩, ⟨some 2, none, .mov (.t 14)⟩, ⟨some 3, none, .mov (.c (.int .i64 0))⟩] none)
 .ret))))))
theorem f10 : FnIs Tryz.prog 10 15 c10 [.tmp 2, .tmp 3] := ⟨_, Tryz.func10, rfl, by kernel_rfl, rfl⟩
def c11 : AC := (.seq (.reg [⟨some 1, none, .box (.t 0)⟩, ⟨some 2, none, .mov (.c (.int .i64 0))⟩, ⟨some 3, none, .mov (.c (.int .i64 0))⟩] none)
 (.seq (.reg [⟨some 4, none, .alloc [.int .i64 0]⟩, ⟨none, none, .store 1 (.t 4) (.c (.int .i64 0))⟩] none)
 (.seq (.reg [⟨some 6, none, .load none (.t 1)⟩, ⟨some 7, none, .mkfn (.func 61) [] [(.t 1), (.t 4)]⟩, ⟨some 8, none, .call 51 [(.t 6), (.t 7)]⟩, ⟨some 5, none, .mov (.t 8)⟩] none)
 (.seq (.seq (.reg [⟨some 9, none, .mov (.t 5)⟩, ⟨some 10, none, .bin .neq (.t 9) (.c (.int .i64 0))⟩] none)
 (.cond (.t 10) (.seq (.reg [⟨some 11, none, .mov (.t 5)⟩, ⟨some 2, none, .mov (.c (.int .i64 0))⟩, ⟨some 3, none, .mov (.t 11)⟩] none)
 .ret) .skip))
 (.seq (.reg [⟨some 12, none, .load none (.t 4)⟩, ⟨some 2, none, .mov (.t 12)⟩, ⟨some 3, none, .mov (.c (.int .i64 0))⟩] none)
 .ret)))))
theorem f11 : FnIs Tryz.prog 11 13 c11 [.tmp 2, .tmp 3] := ⟨_, Tryz.func11, rfl, by kernel_rfl, rfl⟩
def c12 : AC := (.seq (.reg [⟨some 3, none, .box (.t 0)⟩, ⟨some 4, none, .box (.t 1)⟩, ⟨some 5, none, .box (.t 2)⟩, ⟨some 6, none, .mov (.c (.int .i64 0))⟩] none)
 (.seq (.reg [⟨some 7, none, .load none (.t 3)⟩, ⟨some 8, none, .mkfn (.func 63) [] [(.t 4), (.t 5), (.t 3)]⟩, ⟨some 9, none, .call 51 [(.t 7), (.t 8)]⟩, ⟨some 6, none, .mov (.t 9)⟩] none)
 .ret))
theorem f12 : FnIs Tryz.prog 12 10 c12 [.tmp 6] := ⟨_, Tryz.func12, rfl, by kernel_rfl, rfl⟩
def c13 : AC := (.seq (.reg [⟨some 2, none, .box (.t 0)⟩, ⟨some 3, none, .box (.t 1)⟩, ⟨some 4, none, .mov (.c (.int .i64 0))⟩] none)
 (.seq (.reg [⟨some 5, none, .load none (.t 2)⟩, ⟨some 6, none, .mkfn (.func 66) [] [(.t 2), (.t 3)]⟩, ⟨some 7, none, .call 51 [(.t 5), (.t 6)]⟩, ⟨some 4, none, .mov (.t 7)⟩] none)
 .ret))
theorem f13 : FnIs Tryz.prog 13 8 c13 [.tmp 4] := ⟨_, Tryz.func13, rfl, by kernel_rfl, rfl⟩
def c14 : AC := (.seq (.reg [⟨some 2, none, .mov (.c (.int .i64 0))⟩] none)
 (.seq (.seq (.reg [⟨some 3, none, .mov (.t 0)⟩, ⟨some 4, none, .call 70 [(.t 3)]⟩, ⟨some 5, none, .un .not (.t 4)⟩] none)
 (.cond (.t 5) (.seq (.reg [⟨some 2, none, .mov (.c (.int .i64 (-1)))⟩] none)
 .ret) .skip))
 (.seq (.reg [⟨some 6, none, .mov (.t 0)⟩, ⟨some 7, none, .nilck (.t 6)⟩, ⟨some 8, none, .faddr 1 (.t 7)⟩, ⟨some 9, none, .load none (.t 8)⟩, ⟨some 2, none, .mov (.t 9)⟩] none)
 .ret)))
theorem f14 : FnIs Tryz.prog 14 10 c14 [.tmp 2] := ⟨_, Tryz.func14, rfl, by kernel_rfl, rfl⟩
def c15 : AC := (.seq (.reg [⟨some 0, none, .mov (.c (.bool false))⟩] none)
 (.seq (.reg [⟨some 15, none, .call 7 [(.c (.int .i64 10))]⟩, ⟨some 14, none, .mov (.t 15)⟩, ⟨some 16, none, .ext (.t 14) 0⟩, ⟨some 17, none, .ext (.t 14) 1⟩, ⟨some 18, none, .ext (.t 14) 2⟩, ⟨some 1, none, .mov (.t 16)⟩, ⟨some 2, none, .mov (.t 17)⟩, ⟨some 3, none, .mov (.t 18)⟩] none)
 (.seq (.seq (.reg [⟨some 19, none, .mov (.t 1)⟩, ⟨some 20, none, .eqP false (.t 19) (.c (.sc (.pointer none)))⟩] none)
 (.cond (.t 20) (.seq (.reg [⟨some 0, none, .mov (.c (.bool false))⟩] none)
 .ret) .skip))
 (.seq (.reg [⟨some 21, none, .mov (.t 1)⟩, ⟨some 22, none, .call 12 [(.t 21), (.c (.str [98])), (.c (.str [49]))]⟩, ⟨some 4, none, .mov (.t 22)⟩] none)
 (.seq (.reg [⟨some 23, none, .mov (.t 1)⟩, ⟨some 24, none, .call 12 [(.t 23), (.c (.str [97])), (.c (.str [50]))]⟩] none)
 (.seq (.reg [⟨some 25, none, .mov (.t 1)⟩, ⟨some 26, none, .call 12 [(.t 25), (.c (.str [98])), (.c (.str [51]))]⟩] none)
 (.seq (.reg [⟨some 28, none, .mov (.t 1)⟩, ⟨some 29, none, .call 9 [(.t 28), (.c (.str [])), (.c (.str [])), (.c (.int .i64 (-1)))]⟩, ⟨some 27, none, .mov (.t 29)⟩, ⟨some 30, none, .ext (.t 27) 0⟩, ⟨some 31, none, .ext (.t 27) 1⟩, ⟨some 5, none, .mov (.t 30)⟩, ⟨some 6, none, .mov (.t 31)⟩] none)
 (.seq (.reg [⟨some 33, none, .mov (.t 1)⟩, ⟨some 34, none, .call 11 [(.t 33)]⟩, ⟨some 32, none, .mov (.t 34)⟩, ⟨some 35, none, .ext (.t 32) 0⟩, ⟨some 36, none, .ext (.t 32) 1⟩, ⟨some 7, none, .mov (.t 35)⟩, ⟨some 8, none, .mov (.t 36)⟩] none)
 (.seq (.reg [⟨some 37, none, .mov (.t 1)⟩, ⟨some 38, none, .call 13 [(.t 37), (.c (.str [97]))]⟩] none)
 (.seq (.reg [⟨some 39, none, .mov (.t 1)⟩, ⟨some 40, none, .call 13 [(.t 39), (.c (.str [98]))]⟩, ⟨some 9, none, .mov (.t 40)⟩] none)
 (.seq (.reg [⟨some 42, none, .mov (.t 1)⟩, ⟨some 43, none, .call 11 [(.t 42)]⟩, ⟨some 41, none, .mov (.t 43)⟩, ⟨some 44, none, .ext (.t 41) 0⟩, ⟨some 45, none, .ext (.t 41) 1⟩, ⟨some 10, none, .mov (.t 44)⟩, ⟨some 11, none, .mov (.t 45)⟩] none)
 (.seq (.reg [⟨some 47, none, .mov (.t 1)⟩, ⟨some 48, none, .call 8 [(.t 47), (.c (.str [97]))]⟩, ⟨some 46, none, .mov (.t 48)⟩, ⟨some 49, none, .ext (.t 46) 0⟩, ⟨some 50, none, .ext (.t 46) 1⟩, ⟨some 12, none, .mov (.t 49)⟩, ⟨some 13, none, .mov (.t 50)⟩] none)
 (.seq (.reg [⟨some 51, none, .mov (.t 4)⟩, ⟨some 52, none, .bin .eql (.t 51) (.c (.int .i64 0))⟩, ⟨some 53, none, .mov (.t 52)⟩, ⟨some 54, some (53, true), .mov (.t 5)⟩, ⟨some 55, some (53, true), .build [.str [], .str []] [(0, 1, (.c (.str [97]))), (1, 1, (.c (.str [50])))]⟩, ⟨some 56, some (53, true), .build [.str [], .str []] [(0, 1, (.c (.str [98]))), (1, 1, (.c (.str [51])))]⟩, ⟨some 57, some (53, true), .buildSl 2 [(.t 55), (.t 56)]⟩, ⟨some 58, some (53, true), .call 71 [(.t 54), (.t 57)]⟩, ⟨some 59, none, .pick (.t 53) (.t 58) (.c (.bool false))⟩, ⟨some 60, none, .mov (.t 59)⟩, ⟨some 61, some (60, true), .mov (.t 6)⟩, ⟨some 62, some (60, true), .bin .eql (.t 61) (.c (.int .i64 0))⟩, ⟨some 63, none, .pick (.t 60) (.t 62) (.c (.bool false))⟩, ⟨some 64, none, .mov (.t 63)⟩, ⟨some 65, some (64, true), .mov (.t 7)⟩, ⟨some 66, some (64, true), .bin .eql (.t 65) (.c (.int .i64 2))⟩, ⟨some 67, none, .pick (.t 64) (.t 66) (.c (.bool false))⟩, ⟨some 68, none, .mov (.t 67)⟩, ⟨some 69, some (68, true), .mov (.t 8)⟩, ⟨some 70, some (68, true), .bin .eql (.t 69) (.c (.int .i64 0))⟩, ⟨some 71, none, .pick (.t 68) (.t 70) (.c (.bool false))⟩, ⟨some 72, none, .mov (.t 71)⟩, ⟨some 73, some (72, true), .mov (.t 9)⟩, ⟨some 74, some (72, true), .bin .eql (.t 73) (.c (.int .i64 0))⟩, ⟨some 75, none, .pick (.t 72) (.t 74) (.c (.bool false))⟩, ⟨some 76, none, .mov (.t 75)⟩, ⟨some 77, some (76, true), .mov (.t 1)⟩, ⟨some 78, some (76, true), .call 14 [(.t 77)]⟩, ⟨some 79, some (76, true), .bin .eql (.t 78) (.c (.int .i64 (-1)))⟩, ⟨some 80, none, .pick (.t 76) (.t 79) (.c (.bool false))⟩, ⟨some 81, none, .mov (.t 80)⟩, ⟨some 82, some (81, true), .mov (.t 10)⟩, ⟨some 83, some (81, true), .bin .eql (.t 82) (.c (.int .i64 0))⟩, ⟨some 84, none, .pick (.t 81) (.t 83) (.c (.bool false))⟩, ⟨some 85, none, .mov (.t 84)⟩, ⟨some 86, some (85, true), .mov (.t 11)⟩, ⟨some 87, some (85, true), .bin .eql (.t 86) (.c (.int .i64 0))⟩, ⟨some 88, none, .pick (.t 85) (.t 87) (.c (.bool false))⟩, ⟨some 89, none, .mov (.t 88)⟩, ⟨some 90, some (89, true), .mov (.t 13)⟩, ⟨some 91, some (89, true), .bin .eql (.t 90) (.c (.int .i64 7))⟩, ⟨some 92, none, .pick (.t 89) (.t 91) (.c (.bool false))⟩, ⟨some 0, none, .mov (.t 92)⟩] none)
 .ret)))))))))))))
theorem f15 : FnIs Tryz.prog 15 93 c15 [.tmp 0] := ⟨_, Tryz.func15, rfl, by kernel_rfl, rfl⟩
def c17 : AC := (.seq (.reg [⟨some 4, none, .mov (.c (.str []))⟩, ⟨some 5, none, .mov (.c (.int .i64 0))⟩] none)
 (.seq (.seq (.reg [⟨some 6, none, .mov (.t 0)⟩, ⟨some 7, none, .call 78 [(.t 6)]⟩, ⟨some 8, none, .un .not (.t 7)⟩] none)
 (.cond (.t 8) (.seq (.reg [⟨some 4, none, .mov (.c (.str []))⟩, ⟨some 5, none, .mov (.c (.int .i64 1))⟩] none)
 .ret) .skip))
 (.seq (.reg [⟨some 9, none, .mov (.t 0)⟩, ⟨some 10, none, .nilck (.t 9)⟩, ⟨some 11, none, .faddr 0 (.t 10)⟩, ⟨some 12, none, .load none (.t 11)⟩, ⟨some 13, none, .mov (.t 1)⟩, ⟨some 14, none, .call 8 [(.t 12), (.t 13)]⟩, ⟨some 15, none, .ext (.t 14) 0⟩, ⟨some 16, none, .ext (.t 14) 1⟩, ⟨some 4, none, .mov (.t 15)⟩, ⟨some 5, none, .mov (.t 16)⟩] none)
 .ret)))
theorem f17 : FnIs Tryz.prog 17 17 c17 [.tmp 4, .tmp 5] := ⟨_, Tryz.func17, rfl, by kernel_rfl, rfl⟩
def c22 : AC := (.seq (.reg [⟨some 2, none, .mov (.c (.int .i64 0))⟩] none)
 (.seq (.seq (.reg [⟨some 3, none, .mov (.t 0)⟩, ⟨some 4, none, .call 78 [(.t 3)]⟩, ⟨some 5, none, .un .not (.t 4)⟩] none)
 (.cond (.t 5) (.seq (.reg [⟨some 2, none, .mov (.c (.int .i64 1))⟩] none)
 .ret) .skip))
 (.seq (.reg [⟨some 6, none, .mov (.t 0)⟩, ⟨some 7, none, .nilck (.t 6)⟩, ⟨some 8, none, .faddr 3 (.t 7)⟩, ⟨some 9, none, .load none (.t 8)⟩, ⟨some 10, none, .call 91 [(.t 9)]⟩, ⟨some 2, none, .mov (.t 10)⟩] none)
 .ret)))
theorem f22 : FnIs Tryz.prog 22 11 c22 [.tmp 2] := ⟨_, Tryz.func22, rfl, by kernel_rfl, rfl⟩
def c24 : AC := (.seq (.reg [⟨some 2, none, .mov (.c (.sl 1 [] (.exact 0)))⟩] none)
 (.seq (.seq (.reg [⟨some 6, none, .mov (.t 0)⟩, ⟨some 7, none, .call 78 [(.t 6)]⟩, ⟨some 8, none, .un .not (.t 7)⟩] none)
 (.cond (.t 8) (.seq (.reg [⟨some 2, none, .mov (.c (.sl 1 [] (.exact 0)))⟩] none)
 .ret) .skip))
 (.seq (.reg [⟨some 3, none, .mov (.c (.sl 1 [] (.exact 0)))⟩] none)
 (.seq (.seq (.reg [⟨some 9, none, .mov (.t 0)⟩, ⟨some 10, none, .nilck (.t 9)⟩, ⟨some 11, none, .faddr 3 (.t 10)⟩, ⟨some 12, none, .load none (.t 11)⟩, ⟨some 13, none, .call 101 [(.t 12)]⟩, ⟨some 14, none, .len false (.t 13)⟩, ⟨some 15, none, .mov (.c (.int .i64 0))⟩] none)
 (.block 0 (.loop (.seq (.reg [⟨some 16, none, .bin .lss (.t 15) (.t 14)⟩] none)
 (.seq (.cond (.t 16) .skip (.exit 0))
 (.seq (.block 1 (.seq (.reg [⟨some 17, none, .iaddr 3 (.t 13) (.t 15)⟩, ⟨some 18, none, .load (some 3) (.t 17)⟩, ⟨some 5, none, .alloc [.int .i64 0, .int .i64 0, .str []]⟩, ⟨none, none, .store 3 (.t 5) (.t 18)⟩] none)
 (.reg [⟨some 19, none, .mov (.t 3)⟩, ⟨some 20, none, .faddr 2 (.t 5)⟩, ⟨some 21, none, .load none (.t 20)⟩, ⟨some 22, none, .buildSl 1 [(.t 21)]⟩, ⟨some 23, none, .app false 1 16 (.t 19) (.t 22)⟩, ⟨some 3, none, .mov (.t 23)⟩] none)))
 (.reg [⟨some 24, none, .bin .add (.t 15) (.c (.int .i64 1))⟩, ⟨some 15, none, .mov (.t 24)⟩] none)))))))
 (.seq (.reg [⟨some 25, none, .mov (.t 3)⟩, ⟨some 2, none, .mov (.t 25)⟩] none)
 .ret)))))
theorem f24 : FnIs Tryz.prog 24 26 c24 [.tmp 2] := ⟨_, Tryz.func24, rfl, by kernel_rfl, rfl⟩
def c29 : AC := (.seq (.reg [⟨some 2, none, .mov (.c (.sc (.pointer none)))⟩, ⟨some 3, none, .mov (.c (.int .i64 0))⟩] none)
 (.seq (.reg [⟨some 10, none, .mov (.t 0)⟩, ⟨some 11, none, .call 16 [(.t 10)]⟩, ⟨some 9, none, .mov (.t 11)⟩, ⟨some 12, none, .ext (.t 9) 0⟩, ⟨some 13, none, .ext (.t 9) 1⟩, ⟨some 4, none, .mov (.t 12)⟩, ⟨some 5, none, .mov (.t 13)⟩] none)
 (.seq (.seq (.reg [⟨some 14, none, .mov (.t 5)⟩, ⟨some 15, none, .bin .neq (.t 14) (.c (.int .i64 0))⟩] none)
 (.cond (.t 15) (.seq (.reg [⟨some 16, none, .mov (.t 5)⟩, ⟨some 2, none, .mov (.c (.sc (.pointer none)))⟩, ⟨some 3, none, .mov (.t 16)⟩] none)
 .ret) .skip))
 (.seq (.reg [⟨some 18, none, .mov (.t 4)⟩, ⟨some 19, none, .call 18 [(.t 18), (.c (.str [])), (.c (.str [])), (.c (.int .i64 (-1)))]⟩, ⟨some 17, none, .mov (.t 19)⟩, ⟨some 20, none, .ext (.t 17) 0⟩, ⟨some 21, none, .ext (.t 17) 1⟩, ⟨some 6, none, .mov (.t 20)⟩, ⟨some 5, none, .mov (.t 21)⟩] none)
 (.seq (.seq (.reg [⟨some 22, none, .mov (.t 5)⟩, ⟨some 23, none, .bin .neq (.t 22) (.c (.int .i64 0))⟩] none)
 (.cond (.t 23) (.seq (.reg [⟨some 24, none, .mov (.t 5)⟩, ⟨some 2, none, .mov (.c (.sc (.pointer none)))⟩, ⟨some 3, none, .mov (.t 24)⟩] none)
 .ret) .skip))
 (.seq (.reg [⟨some 26, none, .mov (.t 6)⟩, ⟨some 27, none, .call 106 [(.t 26)]⟩, ⟨some 25, none, .mov (.t 27)⟩, ⟨some 28, none, .ext (.t 25) 0⟩, ⟨some 29, none, .ext (.t 25) 1⟩, ⟨some 7, none, .mov (.t 28)⟩, ⟨some 5, none, .mov (.t 29)⟩] none)
 (.seq (.seq (.reg [⟨some 30, none, .mov (.t 5)⟩, ⟨some 31, none, .bin .neq (.t 30) (.c (.int .i64 0))⟩] none)
 (.cond (.t 31) (.seq (.reg [⟨some 32, none, .mov (.t 5)⟩, ⟨some 2, none, .mov (.c (.sc (.pointer none)))⟩, ⟨some 3, none, .mov (.t 32)⟩] none)
 .ret) .skip))
 (.seq (.reg [⟨some 34, none, .mov (.t 7)⟩, ⟨some 35, none, .mov (.t 4)⟩, ⟨some 36, none, .call 26 [(.t 35)]⟩, ⟨some 37, none, .mov (.t 4)⟩, ⟨some 38, none, .call 27 [(.t 37)]⟩, ⟨some 39, none, .call 107 [(.t 34), (.t 36), (.t 38)]⟩, ⟨some 33, none, .mov (.t 39)⟩, ⟨some 40, none, .ext (.t 33) 0⟩, ⟨some 41, none, .ext (.t 33) 1⟩, ⟨some 8, none, .mov (.t 40)⟩, ⟨some 5, none, .mov (.t 41)⟩] none)
 (.seq (.seq (.reg [⟨some 42, none, .mov (.t 5)⟩, ⟨some 43, none, .bin .neq (.t 42) (.c (.int .i64 0))⟩] none)
 (.cond (.t 43) (.seq (.reg [⟨some 44, none, .mov (.t 5)⟩, ⟨some 2, none, .mov (.c (.sc (.pointer none)))⟩, ⟨some 3, none, .mov (.t 44)⟩] none)
 .ret) .skip))
 (.seq (.seq (.reg [⟨some 45, none, .mov (.t 8)⟩, ⟨some 46, none, .mov (.t 4)⟩, ⟨some 47, none, .call 24 [(.t 46)]⟩, ⟨some 48, none, .call 108 [(.t 45), (.t 47)]⟩, ⟨some 49, none, .un .not (.t 48)⟩] none)
 (.cond (.t 49) (.seq (.reg [⟨some 2, none, .mov (.c (.sc (.pointer none)))⟩, ⟨some 3, none, .mov (.c (.int .i64 4))⟩] none)
 .ret) .skip))
 (.seq (.reg [⟨some 50, none, .mov (.t 4)⟩, ⟨some 51, none, .mov (.t 8)⟩, ⟨some 52, none, .build [.sc (.pointer none), .sc (.pointer none), .sl 2 [] (.exact 0)] [(0, 1, (.t 50)), (1, 1, (.t 51))]⟩, ⟨some 53, none, .box (.t 52)⟩, ⟨some 2, none, .mov (.t 53)⟩, ⟨some 3, none, .mov (.c (.int .i64 0))⟩] none)
 .ret)))))))))))
theorem f29 : FnIs Tryz.prog 29 54 c29 [.tmp 2, .tmp 3] := ⟨_, Tryz.func29, rfl, by kernel_rfl, rfl⟩
def c30 : AC := (.seq (.reg [⟨some 2, none, .mov (.c (.sc (.pointer none)))⟩, ⟨some 3, none, .mov (.c (.int .i64 0))⟩] none)
 (.seq (.seq (.reg [⟨some 4, none, .mov (.t 0)⟩, ⟨some 5, none, .call 109 [(.t 4)]⟩, ⟨some 6, none, .un .not (.t 5)⟩] none)
 (.cond (.t 6) (.seq (.reg [⟨some 2, none, .mov (.c (.sc (.pointer none)))⟩, ⟨some 3, none, .mov (.c (.int .i64 1))⟩] none)
 .ret) .skip))
 (.seq (.reg [⟨some 7, none, .mov (.t 0)⟩, ⟨some 8, none, .nilck (.t 7)⟩, ⟨some 9, none, .faddr 1 (.t 8)⟩, ⟨some 10, none, .load none (.t 9)⟩, ⟨some 11, none, .mov (.t 0)⟩, ⟨some 12, none, .nilck (.t 11)⟩, ⟨some 13, none, .faddr 1 (.t 12)⟩, ⟨some 14, none, .load none (.t 13)⟩, ⟨some 15, none, .call 111 [(.t 14)]⟩, ⟨some 16, none, .call 110 [(.t 10), (.t 15)]⟩, ⟨some 17, none, .ext (.t 16) 0⟩, ⟨some 18, none, .ext (.t 16) 1⟩, ⟨some 2, none, .mov (.t 17)⟩, ⟨some 3, none, .mov (.t 18)⟩] (some [(3, 7), (3, 8)]))
 .ret)))
theorem f30 : FnIs Tryz.prog 30 19 c30 [.tmp 2, .tmp 3] := ⟨_, Tryz.func30, rfl, by kernel_rfl, rfl⟩
def c36 : AC := (.seq (.reg [⟨some 2, none, .mov (.c (.int .i64 0))⟩] none)
 (.seq (.reg [⟨some 3, none, .mov (.t 0)⟩, ⟨some 4, none, .call 20 [(.t 3)]⟩, ⟨some 2, none, .mov (.t 4)⟩] none)
 .ret))
theorem f36 : FnIs Tryz.prog 36 5 c36 [.tmp 2] := ⟨_, Tryz.func36, rfl, by kernel_rfl, rfl⟩
def c46 : AC := (.seq (.reg [⟨some 2, none, .box (.t 0)⟩, ⟨some 4, none, .mov (.c (.int .i64 0))⟩] none)
 (.seq (.seq (.reg [⟨some 9, none, .load none (.t 2)⟩, ⟨some 10, none, .call 129 [(.t 9)]⟩, ⟨some 11, none, .un .not (.t 10)⟩] none)
 (.cond (.t 11) (.seq (.reg [⟨some 4, none, .mov (.c (.int .i64 1))⟩] none)
 .ret) .skip))
 (.seq (.seq (.reg [⟨some 12, none, .mov (.t 1)⟩, ⟨some 13, none, .len false (.t 12)⟩, ⟨some 14, none, .mov (.c (.int .i64 0))⟩] none)
 (.block 0 (.loop (.seq (.reg [⟨some 15, none, .bin .lss (.t 14) (.t 13)⟩] none)
 (.seq (.cond (.t 15) .skip (.exit 0))
 (.seq (.block 1 (.seq (.reg [⟨some 16, none, .mov (.t 14)⟩, ⟨some 17, none, .iaddr 1 (.t 12) (.t 14)⟩, ⟨some 18, none, .load none (.t 17)⟩, ⟨some 5, none, .mov (.t 16)⟩, ⟨some 6, none, .mov (.t 18)⟩] none)
 (.seq (.reg [⟨some 19, none, .load none (.t 2)⟩, ⟨some 20, none, .mov (.t 6)⟩, ⟨some 21, none, .call 130 [(.t 19), (.t 20)]⟩, ⟨some 22, none, .un .not (.t 21)⟩, ⟨some 23, none, .mov (.t 22)⟩, ⟨some 24, some (23, false), .mov (.t 1)⟩, ⟨some 25, some (23, false), .mov (.t 5)⟩, ⟨some 26, some (23, false), .slc false 1 (.t 24) none (some (.t 25)) none⟩, ⟨some 27, some (23, false), .mov (.t 6)⟩, ⟨some 28, some (23, false), .call 131 [(.t 26), (.t 27)]⟩, ⟨some 29, none, .pick (.t 23) (.c (.bool true)) (.t 28)⟩] none)
 (.cond (.t 29) (.seq (.reg [⟨some 4, none, .mov (.c (.int .i64 2))⟩] none)
 .ret) .skip))))
 (.reg [⟨some 30, none, .bin .add (.t 14) (.c (.int .i64 1))⟩, ⟨some 14, none, .mov (.t 30)⟩] none)))))))
 (.seq (.seq (.reg [⟨some 31, none, .mov (.t 1)⟩, ⟨some 32, none, .mkfn (.func 133) [] [(.t 2)]⟩, ⟨some 33, none, .call 132 [(.t 31), (.t 32)]⟩] none)
 (.cond (.t 33) (.seq (.reg [⟨some 4, none, .mov (.c (.int .i64 8))⟩] none)
 .ret) .skip))
 (.seq (.seq (.reg [⟨some 34, none, .mov (.t 1)⟩, ⟨some 35, none, .len false (.t 34)⟩, ⟨some 36, none, .mov (.c (.int .i64 0))⟩] none)
 (.block 2 (.loop (.seq (.reg [⟨some 37, none, .bin .lss (.t 36) (.t 35)⟩] none)
 (.seq (.cond (.t 37) .skip (.exit 2))
 (.seq (.block 3 (.seq (.reg [⟨some 38, none, .iaddr 1 (.t 34) (.t 36)⟩, ⟨some 39, none, .load none (.t 38)⟩, ⟨some 8, none, .mov (.t 39)⟩] none)
 (.seq (.reg [⟨some 40, none, .load none (.t 2)⟩, ⟨some 41, none, .nilck (.t 40)⟩, ⟨some 42, none, .faddr 0 (.t 41)⟩, ⟨some 43, none, .load none (.t 42)⟩, ⟨some 44, none, .mov (.t 8)⟩, ⟨some 45, none, .call 135 [(.t 43), (.t 44)]⟩] none)
 (.reg [⟨some 46, none, .load none (.t 2)⟩, ⟨some 47, none, .nilck (.t 46)⟩, ⟨some 48, none, .faddr 3 (.t 47)⟩, ⟨some 49, none, .load none (.t 48)⟩, ⟨some 50, none, .mov (.t 8)⟩, ⟨some 51, none, .iaddr 1 (.t 49) (.t 50)⟩, ⟨none, none, .store 1 (.t 51) (.c (.int .i64 1))⟩] none))))
 (.reg [⟨some 52, none, .bin .add (.t 36) (.c (.int .i64 1))⟩, ⟨some 36, none, .mov (.t 52)⟩] none)))))))
 (.seq (.reg [⟨some 4, none, .mov (.c (.int .i64 0))⟩] none)
 .ret))))))
theorem f46 : FnIs Tryz.prog 46 53 c46 [.tmp 4] := ⟨_, Tryz.func46, rfl, by kernel_rfl, rfl⟩
def c47 : AC := (.seq (.reg [⟨some 2, none, .mov (.c (.sl 1 [] (.exact 0)))⟩, ⟨some 3, none, .mov (.c (.sl 1 [] (.exact 0)))⟩, ⟨some 4, none, .mov (.c (.sl 1 [] (.exact 0)))⟩] none)
 (.seq (.seq (.reg [⟨some 5, none, .mov (.t 0)⟩, ⟨some 6, none, .call 129 [(.t 5)]⟩, ⟨some 7, none, .un .not (.t 6)⟩] none)
 (.cond (.t 7) (.seq (.reg [⟨some 2, none, .mov (.c (.sl 1 [] (.exact 0)))⟩, ⟨some 3, none, .mov (.c (.sl 1 [] (.exact 0)))⟩, ⟨some 4, none, .mov (.c (.sl 1 [] (.exact 0)))⟩] none)
 .ret) .skip))
 (.seq (.reg [⟨some 8, none, .mov (.t 0)⟩, ⟨some 9, none, .call 136 [(.t 8), (.c (.int .i64 1))]⟩, ⟨some 10, none, .mov (.t 0)⟩, ⟨some 11, none, .call 136 [(.t 10), (.c (.int .i64 2))]⟩, ⟨some 12, none, .mov (.t 0)⟩, ⟨some 13, none, .call 136 [(.t 12), (.c (.int .i64 3))]⟩, ⟨some 2, none, .mov (.t 9)⟩, ⟨some 3, none, .mov (.t 11)⟩, ⟨some 4, none, .mov (.t 13)⟩] none)
 .ret)))
theorem f47 : FnIs Tryz.prog 47 14 c47 [.tmp 2, .tmp 3, .tmp 4] := ⟨_, Tryz.func47, rfl, by kernel_rfl, rfl⟩
def c48 : AC := (.seq (.reg [⟨some 2, none, .mov (.c (.int .i64 0))⟩] none)
 (.seq (.seq (.reg [⟨some 3, none, .mov (.t 0)⟩, ⟨some 4, none, .call 129 [(.t 3)]⟩, ⟨some 5, none, .un .not (.t 4)⟩] none)
 (.cond (.t 5) (.seq (.reg [⟨some 2, none, .mov (.c (.int .i64 0))⟩] none)
 .ret) .skip))
 (.seq (.reg [⟨some 6, none, .mov (.t 0)⟩, ⟨some 7, none, .nilck (.t 6)⟩, ⟨some 8, none, .faddr 0 (.t 7)⟩, ⟨some 9, none, .load none (.t 8)⟩, ⟨some 10, none, .call 137 [(.t 9)]⟩, ⟨some 2, none, .mov (.t 10)⟩] none)
 .ret)))
theorem f48 : FnIs Tryz.prog 48 11 c48 [.tmp 2] := ⟨_, Tryz.func48, rfl, by kernel_rfl, rfl⟩
def c49 : AC := (.seq (.reg [⟨some 2, none, .mov (.c (.sc (.pointer none)))⟩, ⟨some 3, none, .mov (.c (.int .i64 0))⟩] none)
 (.seq (.seq (.reg [⟨some 4, none, .mov (.t 0)⟩, ⟨some 5, none, .bin .lss (.t 4) (.c (.int .i64 1))⟩, ⟨some 6, none, .mov (.t 5)⟩, ⟨some 7, some (6, false), .mov (.t 0)⟩, ⟨some 8, some (6, false), .bin .gtr (.t 7) (.c (.int .i64 16384))⟩, ⟨some 9, none, .pick (.t 6) (.c (.bool true)) (.t 8)⟩] none)
 (.cond (.t 9) (.seq (.reg [⟨some 2, none, .mov (.c (.sc (.pointer none)))⟩, ⟨some 3, none, .mov (.c (.int .i64 2))⟩] none)
 .ret) .skip))
 (.seq (.reg [⟨some 10, none, .mov (.t 0)⟩, ⟨some 11, none, .mksl 128 128 (.agg (List.replicate 128 (.int .u8 0))) (.t 10) (.t 10)⟩, ⟨some 12, none, .build [.sl 128 [] (.exact 0), .sl 129 [] (.exact 0), .int .i64 0, .bool false] [(0, 1, (.t 11)), (2, 1, (.c (.int .i64 (-1))))]⟩, ⟨some 13, none, .box (.t 12)⟩, ⟨some 2, none, .mov (.t 13)⟩, ⟨some 3, none, .mov (.c (.int .i64 0))⟩] none)
 .ret)))
theorem f49 : FnIs Tryz.prog 49 14 c49 [.tmp 2, .tmp 3] := ⟨_, Tryz.func49, rfl, by kernel_rfl, rfl⟩
def c50 : AC := (.seq (.reg [⟨some 6, none, .mov (.c (.sc (.pointer none)))⟩, ⟨some 7, none, .mov (.c (.int .i64 0))⟩] none)
 (.seq (.reg [⟨some 11, none, .mov (.t 0)⟩, ⟨some 12, none, .call 75 [(.t 11)]⟩, ⟨some 8, none, .mov (.t 12)⟩] none)
 (.seq (.block 0 (.seq (.reg [⟨some 14, none, .mov (.t 8)⟩, ⟨some 15, none, .bin .eql (.t 14) (.c (.int .i64 0))⟩, ⟨some 13, none, .mov (.t 15)⟩] none)
 (.cond (.t 13) (.seq (.reg [⟨some 6, none, .mov (.c (.sc (.pointer none)))⟩, ⟨some 7, none, .mov (.c (.int .i64 1))⟩] none)
 .ret) (.seq (.reg [⟨some 17, none, .mov (.t 1)⟩, ⟨some 18, none, .bin .lss (.t 17) (.c (.int .i64 0))⟩, ⟨some 19, none, .mov (.t 18)⟩, ⟨some 20, some (19, false), .mov (.t 2)⟩, ⟨some 21, some (19, false), .bin .lss (.t 20) (.c (.int .i64 1))⟩, ⟨some 22, none, .pick (.t 19) (.c (.bool true)) (.t 21)⟩, ⟨some 23, none, .mov (.t 22)⟩, ⟨some 24, some (23, false), .mov (.t 2)⟩, ⟨some 25, some (23, false), .mov (.t 8)⟩, ⟨some 26, some (23, false), .bin .quo (.t 25) (.c (.int .i64 8))⟩, ⟨some 27, some (23, false), .bin .gtr (.t 24) (.t 26)⟩, ⟨some 28, none, .pick (.t 23) (.c (.bool true)) (.t 27)⟩, ⟨some 29, none, .mov (.t 28)⟩, ⟨some 30, some (29, false), .mov (.t 1)⟩, ⟨some 31, some (29, false), .mov (.t 8)⟩, ⟨some 32, some (29, false), .mov (.t 2)⟩, ⟨some 33, some (29, false), .bin .mul (.t 32) (.c (.int .i64 8))⟩, ⟨some 34, some (29, false), .bin .sub (.t 31) (.t 33)⟩, ⟨some 35, some (29, false), .bin .gtr (.t 30) (.t 34)⟩, ⟨some 36, none, .pick (.t 29) (.c (.bool true)) (.t 35)⟩, ⟨some 16, none, .mov (.t 36)⟩] none)
 (.cond (.t 16) (.seq (.reg [⟨some 6, none, .mov (.c (.sc (.pointer none)))⟩, ⟨some 7, none, .mov (.c (.int .i64 2))⟩] none)
 .ret) .skip)))))
 (.seq (.reg [⟨some 38, none, .mov (.t 2)⟩, ⟨some 39, none, .call 138 [(.t 38)]⟩, ⟨some 37, none, .mov (.t 39)⟩, ⟨some 40, none, .ext (.t 37) 0⟩, ⟨some 41, none, .ext (.t 37) 1⟩, ⟨some 9, none, .mov (.t 40)⟩, ⟨some 10, none, .mov (.t 41)⟩] none)
 (.seq (.reg [⟨some 42, none, .mov (.t 9)⟩, ⟨some 43, none, .mov (.t 0)⟩, ⟨some 44, none, .mov (.t 1)⟩, ⟨some 45, none, .mov (.t 2)⟩, ⟨some 46, none, .mksl 1 8 (.int .i64 0) (.t 45) (.t 45)⟩, ⟨some 47, none, .build [.sc (.pointer none), .sc (.pointer none), .int .i64 0, .sl 1 [] (.exact 0)] [(0, 1, (.t 42)), (1, 1, (.t 43)), (2, 1, (.t 44)), (3, 1, (.t 46))]⟩, ⟨some 48, none, .box (.t 47)⟩, ⟨some 6, none, .mov (.t 48)⟩, ⟨some 7, none, .mov (.c (.int .i64 0))⟩] none)
 .ret)))))
theorem f50 : FnIs Tryz.prog 50 49 c50 [.tmp 6, .tmp 7] := ⟨_, Tryz.func50, rfl, by kernel_rfl, rfl⟩
def c51 : AC := (.seq (.reg [⟨some 4, none, .alloc [.int .i64 0]⟩] none)
 (.seq (.seq (.reg [⟨some 5, none, .mov (.t 0)⟩, ⟨some 6, none, .call 70 [(.t 5)]⟩, ⟨some 7, none, .un .not (.t 6)⟩] none)
 (.cond (.t 7) (.seq (.reg [⟨none, none, .store 1 (.t 4) (.c (.int .i64 1))⟩] none)
 .ret) .skip))
 (.seq (.reg [⟨some 8, none, .mkfn (.func 139) [] [(.t 4)]⟩, ⟨none, none, .dead⟩] none)
 (.seq (.reg [⟨some 9, none, .mov (.t 1)⟩, ⟨some 10, none, .callv (.t 9) []⟩] none)
 (.seq (.reg [⟨none, none, .store 1 (.t 4) (.c (.int .i64 0))⟩] none)
 .ret)))))
theorem f51 : FnIs Tryz.prog 51 11 c51 [.cell 4 none] := ⟨_, Tryz.func51, rfl, by kernel_rfl, rfl⟩
def c52 : AC := (.seq (.seq (.reg [⟨some 9, none, .load none (.t 0)⟩, ⟨some 10, none, .nilck (.t 9)⟩, ⟨some 11, none, .faddr 1 (.t 10)⟩, ⟨some 12, none, .load none (.t 11)⟩, ⟨some 13, none, .bin .lss (.t 12) (.c (.int .i64 0))⟩] none)
 (.cond (.t 13) (.reg [⟨some 14, none, .ifc 26 (.c (.int .i64 7))⟩, ⟨none, none, .pan (.t 14)⟩] none) .skip))
 (.seq (.reg [⟨some 15, none, .load none (.t 0)⟩, ⟨some 16, none, .load none (.t 0)⟩, ⟨some 17, none, .nilck (.t 16)⟩, ⟨some 18, none, .faddr 1 (.t 17)⟩, ⟨some 19, none, .load none (.t 18)⟩, ⟨some 20, none, .call 53 [(.t 15), (.t 19), (.c (.int .i64 1))]⟩, ⟨some 3, none, .alloc [.bool false, .sl 1 [] (.exact 0), .sl 1 [] (.exact 0), .sl 1 [] (.exact 0)]⟩, ⟨none, none, .store 4 (.t 3) (.t 20)⟩] (some [(0, 1), (0, 4), (0, 6), (1, 6), (4, 6), (5, 6)]))
 (.seq (.seq (.reg [⟨some 4, none, .mov (.c (.int .i64 2))⟩] none)
 (.block 0 (.loop (.seq (.seq (.reg [⟨some 21, none, .faddr 0 (.t 3)⟩, ⟨some 22, none, .load none (.t 21)⟩, ⟨some 23, none, .un .not (.t 22)⟩] none)
 (.cond (.t 23) .skip (.exit 0)))
 (.seq (.block 1 (.seq (.reg [⟨some 27, none, .load (some 4) (.t 3)⟩, ⟨some 28, none, .load none (.t 1)⟩, ⟨some 29, none, .call 54 [(.t 27), (.t 28)]⟩, ⟨some 26, none, .mov (.t 29)⟩, ⟨some 30, none, .ext (.t 26) 0⟩, ⟨some 31, none, .ext (.t 26) 1⟩, ⟨some 5, none, .mov (.t 30)⟩, ⟨some 6, none, .mov (.t 31)⟩] none)
 (.reg [⟨some 32, none, .load none (.t 0)⟩, ⟨some 33, none, .faddr 3 (.t 3)⟩, ⟨some 34, none, .load none (.t 33)⟩, ⟨some 35, none, .mov (.t 5)⟩, ⟨some 36, none, .iaddr 1 (.t 34) (.t 35)⟩, ⟨some 37, none, .load none (.t 36)⟩, ⟨some 38, none, .mov (.t 4)⟩, ⟨some 39, none, .call 53 [(.t 32), (.t 37), (.t 38)]⟩, ⟨none, none, .store 4 (.t 3) (.t 39)⟩] (some [(0, 2), (0, 5)]))))
 (.reg [⟨some 24, none, .mov (.t 4)⟩, ⟨some 25, none, .bin .add (.t 24) (.c (.int .i64 1))⟩, ⟨some 4, none, .mov (.t 25)⟩] none))))))
 (.seq (.reg [⟨some 41, none, .load (some 4) (.t 3)⟩, ⟨some 42, none, .load none (.t 1)⟩, ⟨some 43, none, .call 54 [(.t 41), (.t 42)]⟩, ⟨some 40, none, .mov (.t 43)⟩, ⟨some 44, none, .ext (.t 40) 0⟩, ⟨some 45, none, .ext (.t 40) 1⟩, ⟨some 7, none, .mov (.t 44)⟩, ⟨some 8, none, .mov (.t 45)⟩] none)
 (.seq (.seq (.reg [⟨some 46, none, .mov (.t 8)⟩, ⟨some 47, none, .un .not (.t 46)⟩] none)
 (.cond (.t 47) (.reg [⟨some 48, none, .ifc 26 (.c (.int .i64 7))⟩, ⟨none, none, .pan (.t 48)⟩] none) .skip))
 (.reg [⟨some 49, none, .faddr 2 (.t 3)⟩, ⟨some 50, none, .load none (.t 49)⟩, ⟨some 51, none, .mov (.t 7)⟩, ⟨some 52, none, .iaddr 1 (.t 50) (.t 51)⟩, ⟨some 53, none, .load none (.t 52)⟩, ⟨none, none, .store 1 (.t 2) (.t 53)⟩] none))))))
theorem f52 : FnIs Tryz.prog 52 54 c52 [] := ⟨_, Tryz.func52, rfl, by kernel_rfl, rfl⟩
def c53 : AC := (.seq (.reg [⟨some 6, none, .alloc [.bool false, .sl 1 [] (.exact 0), .sl 1 [] (.exact 0), .sl 1 [] (.exact 0)]⟩] none)
 (.seq (.seq (.reg [⟨some 10, none, .mov (.t 2)⟩, ⟨some 11, none, .bin .gtr (.t 10) (.c (.int .i64 20))⟩] none)
 (.cond (.t 11) (.reg [⟨some 12, none, .ifc 26 (.c (.int .i64 4))⟩, ⟨none, none, .pan (.t 12)⟩] none) .skip))
 (.seq (.reg [⟨some 14, none, .mov (.t 0)⟩, ⟨some 15, none, .nilck (.t 14)⟩, ⟨some 16, none, .faddr 0 (.t 15)⟩, ⟨some 17, none, .load none (.t 16)⟩, ⟨some 18, none, .mov (.t 1)⟩, ⟨some 19, none, .call 140 [(.t 17), (.t 18)]⟩, ⟨some 13, none, .mov (.t 19)⟩, ⟨some 20, none, .ext (.t 13) 0⟩, ⟨some 21, none, .ext (.t 13) 1⟩, ⟨some 7, none, .mov (.t 20)⟩, ⟨some 8, none, .mov (.t 21)⟩] none)
 (.seq (.reg [⟨some 22, none, .mov (.t 8)⟩, ⟨some 23, none, .call 68 [(.t 22)]⟩] none)
 (.seq (.reg [⟨some 25, none, .mov (.t 7)⟩, ⟨some 26, none, .call 141 [(.t 25)]⟩, ⟨some 24, none, .mov (.t 26)⟩, ⟨some 27, none, .ext (.t 24) 0⟩, ⟨some 28, none, .ext (.t 24) 1⟩, ⟨some 9, none, .alloc [.bool false, .sl 1 [] (.exact 0), .sl 1 [] (.exact 0), .sl 1 [] (.exact 0)]⟩, ⟨none, none, .store 4 (.t 9) (.t 27)⟩, ⟨some 8, none, .mov (.t 28)⟩] none)
 (.seq (.reg [⟨some 29, none, .mov (.t 8)⟩, ⟨some 30, none, .call 68 [(.t 29)]⟩] none)
 (.seq (.reg [⟨some 31, none, .load (some 4) (.t 9)⟩, ⟨none, none, .store 4 (.t 6) (.t 31)⟩] none)
 .ret)))))))
theorem f53 : FnIs Tryz.prog 53 32 c53 [.cell 6 (some 4)] := ⟨_, Tryz.func53, rfl, by kernel_rfl, rfl⟩
def c54 : AC := (.seq (.reg [⟨some 2, none, .box (.t 0)⟩, ⟨some 3, none, .box (.t 1)⟩, ⟨some 4, none, .mov (.c (.int .i64 0))⟩, ⟨some 5, none, .mov (.c (.bool false))⟩] none)
 (.seq (.seq (.reg [⟨some 7, none, .load (some 4) (.t 2)⟩, ⟨some 8, none, .call 142 [(.t 7)]⟩, ⟨some 9, none, .un .not (.t 8)⟩] none)
 (.cond (.t 9) (.seq (.reg [⟨some 4, none, .mov (.c (.int .i64 0))⟩, ⟨some 5, none, .mov (.c (.bool false))⟩] none)
 .ret) .skip))
 (.seq (.seq (.reg [⟨some 10, none, .faddr 0 (.t 2)⟩, ⟨some 11, none, .load none (.t 10)⟩, ⟨some 12, none, .un .not (.t 11)⟩] none)
 (.cond (.t 12) (.seq (.reg [⟨some 13, none, .faddr 1 (.t 2)⟩, ⟨some 14, none, .load none (.t 13)⟩, ⟨some 15, none, .len false (.t 14)⟩, ⟨some 16, none, .mkfn (.func 144) [] [(.t 2), (.t 3)]⟩, ⟨some 17, none, .call 143 [(.t 15), (.t 16)]⟩, ⟨some 4, none, .mov (.t 17)⟩, ⟨some 5, none, .mov (.c (.bool false))⟩] none)
 .ret) .skip))
 (.seq (.reg [⟨some 18, none, .faddr 1 (.t 2)⟩, ⟨some 19, none, .load none (.t 18)⟩, ⟨some 20, none, .len false (.t 19)⟩, ⟨some 21, none, .mkfn (.func 145) [] [(.t 2), (.t 3)]⟩, ⟨some 22, none, .call 143 [(.t 20), (.t 21)]⟩, ⟨some 6, none, .mov (.t 22)⟩] none)
 (.seq (.reg [⟨some 23, none, .mov (.t 6)⟩, ⟨some 24, none, .mov (.t 6)⟩, ⟨some 25, none, .faddr 1 (.t 2)⟩, ⟨some 26, none, .load none (.t 25)⟩, ⟨some 27, none, .len false (.t 26)⟩, ⟨some 28, none, .bin .lss (.t 24) (.t 27)⟩, ⟨some 29, none, .mov (.t 28)⟩, ⟨some 30, some (29, true), .faddr 1 (.t 2)⟩, ⟨some 31, some (29, true), .load none (.t 30)⟩, ⟨some 32, some (29, true), .mov (.t 6)⟩, ⟨some 33, some (29, true), .iaddr 1 (.t 31) (.t 32)⟩, ⟨some 34, some (29, true), .load none (.t 33)⟩, ⟨some 35, some (29, true), .load none (.t 3)⟩, ⟨some 36, some (29, true), .bin .eql (.t 34) (.t 35)⟩, ⟨some 37, none, .pick (.t 29) (.t 36) (.c (.bool false))⟩, ⟨some 4, none, .mov (.t 23)⟩, ⟨some 5, none, .mov (.t 37)⟩] (some [(8, 12), (11, 12)]))
 .ret)))))
theorem f54 : FnIs Tryz.prog 54 38 c54 [.tmp 4, .tmp 5] := ⟨_, Tryz.func54, rfl, by kernel_rfl, rfl⟩
def c55 : AC := (.seq (.seq (.reg [⟨some 5, none, .load none (.t 0)⟩, ⟨some 6, none, .nilck (.t 5)⟩, ⟨some 7, none, .faddr 1 (.t 6)⟩, ⟨some 8, none, .load none (.t 7)⟩, ⟨some 9, none, .bin .lss (.t 8) (.c (.int .i64 0))⟩, ⟨some 10, none, .mov (.t 9)⟩, ⟨some 11, some (10, false), .load none (.t 1)⟩, ⟨some 12, some (10, false), .bin .eql (.t 11) (.c (.int .i64 0))⟩, ⟨some 13, none, .pick (.t 10) (.c (.bool true)) (.t 12)⟩] none)
 (.cond (.t 13) .ret .skip))
 (.reg [⟨some 14, none, .load none (.t 0)⟩, ⟨some 15, none, .load none (.t 0)⟩, ⟨some 16, none, .nilck (.t 15)⟩, ⟨some 17, none, .faddr 1 (.t 16)⟩, ⟨some 18, none, .load none (.t 17)⟩, ⟨some 19, none, .load none (.t 2)⟩, ⟨some 20, none, .mkfn (.func 57) [] [(.t 3), (.t 4), (.t 1)]⟩, ⟨some 21, none, .call 56 [(.t 14), (.t 18), (.c (.int .i64 1)), (.t 19), (.t 20)]⟩] (some [(0, 1), (0, 4), (0, 5), (1, 5), (4, 5)])))
theorem f55 : FnIs Tryz.prog 55 22 c55 [] := ⟨_, Tryz.func55, rfl, by kernel_rfl, rfl⟩
def c56 : AC := (.seq (.reg [⟨some 10, none, .mov (.c (.bool false))⟩] none)
 (.seq (.reg [⟨some 17, none, .mov (.t 0)⟩, ⟨some 18, none, .mov (.t 1)⟩, ⟨some 19, none, .mov (.t 2)⟩, ⟨some 20, none, .call 53 [(.t 17), (.t 18), (.t 19)]⟩, ⟨some 11, none, .alloc [.bool false, .sl 1 [] (.exact 0), .sl 1 [] (.exact 0), .sl 1 [] (.exact 0)]⟩, ⟨none, none, .store 4 (.t 11) (.t 20)⟩] none)
 (.seq (.reg [⟨some 22, none, .load (some 4) (.t 11)⟩, ⟨some 23, none, .mov (.t 3)⟩, ⟨some 24, none, .call 54 [(.t 22), (.t 23)]⟩, ⟨some 21, none, .mov (.t 24)⟩, ⟨some 25, none, .ext (.t 21) 0⟩, ⟨some 26, none, .ext (.t 21) 1⟩, ⟨some 12, none, .mov (.t 25)⟩, ⟨some 13, none, .mov (.t 26)⟩] none)
 (.seq (.seq (.reg [⟨some 27, none, .faddr 0 (.t 11)⟩, ⟨some 28, none, .load none (.t 27)⟩, ⟨some 29, none, .un .not (.t 28)⟩] none)
 (.cond (.t 29) (.seq (.seq (.reg [⟨some 30, none, .faddr 3 (.t 11)⟩, ⟨some 31, none, .load none (.t 30)⟩, ⟨some 32, none, .mov (.t 12)⟩, ⟨some 33, none, .slc false 1 (.t 31) (some (.t 32)) none none⟩, ⟨some 34, none, .len false (.t 33)⟩, ⟨some 35, none, .mov (.c (.int .i64 0))⟩] none)
 (.block 0 (.loop (.seq (.reg [⟨some 36, none, .bin .lss (.t 35) (.t 34)⟩] none)
 (.seq (.cond (.t 36) .skip (.exit 0))
 (.seq (.block 1 (.seq (.reg [⟨some 37, none, .iaddr 1 (.t 33) (.t 35)⟩, ⟨some 38, none, .load none (.t 37)⟩, ⟨some 15, none, .mov (.t 38)⟩] none)
 (.seq (.reg [⟨some 39, none, .mov (.t 0)⟩, ⟨some 40, none, .mov (.t 15)⟩, ⟨some 41, none, .mov (.t 2)⟩, ⟨some 42, none, .bin .add (.t 41) (.c (.int .i64 1))⟩, ⟨some 43, none, .mov (.t 3)⟩, ⟨some 44, none, .mov (.t 4)⟩, ⟨some 45, none, .call 56 [(.t 39), (.t 40), (.t 42), (.t 43), (.t 44)]⟩, ⟨some 46, none, .un .not (.t 45)⟩] none)
 (.cond (.t 46) (.seq (.reg [⟨some 10, none, .mov (.c (.bool false))⟩] none)
 .ret) .skip))))
 (.reg [⟨some 47, none, .bin .add (.t 35) (.c (.int .i64 1))⟩, ⟨some 35, none, .mov (.t 47)⟩] none)))))))
 (.seq (.reg [⟨some 10, none, .mov (.c (.bool true))⟩] none)
 .ret)) .skip))
 (.seq (.seq (.reg [⟨some 48, none, .mov (.t 12)⟩, ⟨some 16, none, .mov (.t 48)⟩] none)
 (.block 2 (.loop (.seq (.seq (.reg [⟨some 49, none, .mov (.t 16)⟩, ⟨some 50, none, .faddr 1 (.t 11)⟩, ⟨some 51, none, .load none (.t 50)⟩, ⟨some 52, none, .len false (.t 51)⟩, ⟨some 53, none, .bin .lss (.t 49) (.t 52)⟩] none)
 (.cond (.t 53) .skip (.exit 2)))
 (.seq (.block 3 (.seq (.reg [⟨some 56, none, .mov (.t 4)⟩, ⟨some 57, none, .faddr 1 (.t 11)⟩, ⟨some 58, none, .load none (.t 57)⟩, ⟨some 59, none, .mov (.t 16)⟩, ⟨some 60, none, .iaddr 1 (.t 58) (.t 59)⟩, ⟨some 61, none, .load none (.t 60)⟩, ⟨some 62, none, .faddr 2 (.t 11)⟩, ⟨some 63, none, .load none (.t 62)⟩, ⟨some 64, none, .mov (.t 16)⟩, ⟨some 65, none, .iaddr 1 (.t 63) (.t 64)⟩, ⟨some 66, none, .load none (.t 65)⟩, ⟨some 67, none, .build [.str [], .str []] [(0, 1, (.t 61)), (1, 1, (.t 66))]⟩, ⟨some 68, none, .callv (.t 56) [(.t 67)]⟩, ⟨some 69, none, .un .not (.t 68)⟩] (some [(2, 7), (5, 7), (2, 10), (5, 10)]))
 (.cond (.t 69) (.seq (.reg [⟨some 10, none, .mov (.c (.bool false))⟩] none)
 .ret) .skip)))
 (.reg [⟨some 54, none, .mov (.t 16)⟩, ⟨some 55, none, .bin .add (.t 54) (.c (.int .i64 1))⟩, ⟨some 16, none, .mov (.t 55)⟩] none))))))
 (.seq (.reg [⟨some 10, none, .mov (.c (.bool true))⟩] none)
 .ret))))))
theorem f56 : FnIs Tryz.prog 56 70 c56 [.tmp 10] := ⟨_, Tryz.func56, rfl, by kernel_rfl, rfl⟩
def c57 : AC := (.seq (.reg [⟨some 4, none, .box (.t 0)⟩, ⟨some 5, none, .mov (.c (.bool false))⟩] none)
 (.seq (.seq (.reg [⟨some 6, none, .load none (.t 1)⟩, ⟨some 7, none, .bin .neq (.t 6) (.c (.str []))⟩, ⟨some 8, none, .mov (.t 7)⟩, ⟨some 9, some (8, true), .faddr 0 (.t 4)⟩, ⟨some 10, some (8, true), .load none (.t 9)⟩, ⟨some 11, some (8, true), .load none (.t 1)⟩, ⟨some 12, some (8, true), .bin .geq (.t 10) (.t 11)⟩, ⟨some 13, none, .pick (.t 8) (.t 12) (.c (.bool false))⟩] none)
 (.cond (.t 13) (.seq (.reg [⟨some 5, none, .mov (.c (.bool false))⟩] none)
 .ret) .skip))
 (.seq (.reg [⟨some 14, none, .load none (.t 2)⟩, ⟨some 15, none, .load (some 2) (.t 4)⟩, ⟨some 16, none, .buildSl 2 [(.t 15)]⟩, ⟨some 17, none, .app false 2 32 (.t 14) (.t 16)⟩, ⟨none, none, .store 1 (.t 2) (.t 17)⟩] none)
 (.seq (.reg [⟨some 18, none, .load none (.t 2)⟩, ⟨some 19, none, .len false (.t 18)⟩, ⟨some 20, none, .load none (.t 3)⟩, ⟨some 21, none, .bin .neq (.t 19) (.t 20)⟩, ⟨some 5, none, .mov (.t 21)⟩] none)
 .ret))))
theorem f57 : FnIs Tryz.prog 57 22 c57 [.tmp 5] := ⟨_, Tryz.func57, rfl, by kernel_rfl, rfl⟩
def c61 : AC := (.seq (.reg [⟨some 2, none, .load none (.t 0)⟩, ⟨some 3, none, .nilck (.t 2)⟩, ⟨some 4, none, .faddr 1 (.t 3)⟩, ⟨some 5, none, .load none (.t 4)⟩, ⟨some 6, none, .bin .geq (.t 5) (.c (.int .i64 0))⟩] none)
 (.cond (.t 6) (.reg [⟨some 8, none, .load none (.t 0)⟩, ⟨some 9, none, .load none (.t 0)⟩, ⟨some 10, none, .nilck (.t 9)⟩, ⟨some 11, none, .faddr 1 (.t 10)⟩, ⟨some 12, none, .load none (.t 11)⟩, ⟨some 13, none, .build [.str [], .str [], .bool false] [(2, 1, (.c (.bool true)))]⟩, ⟨some 14, none, .call 62 [(.t 8), (.t 12), (.c (.int .i64 1)), (.t 13)]⟩, ⟨some 7, none, .mov (.t 14)⟩, ⟨some 15, none, .ext (.t 7) 0⟩, ⟨some 16, none, .ext (.t 7) 1⟩, ⟨none, none, .store 1 (.t 1) (.t 15)⟩] (some [(0, 1), (0, 4)])) .skip))
theorem f61 : FnIs Tryz.prog 61 17 c61 [] := ⟨_, Tryz.func61, rfl, by kernel_rfl, rfl⟩
def c62 : AC := (.seq (.reg [⟨some 7, none, .box (.t 3)⟩, ⟨some 8, none, .mov (.c (.int .i64 0))⟩, ⟨some 9, none, .mov (.c (.int .i64 0))⟩] none)
 (.seq (.reg [⟨some 18, none, .mov (.t 0)⟩, ⟨some 19, none, .mov (.t 1)⟩, ⟨some 20, none, .mov (.t 2)⟩, ⟨some 21, none, .call 53 [(.t 18), (.t 19), (.t 20)]⟩, ⟨some 10, none, .alloc [.bool false, .sl 1 [] (.exact 0), .sl 1 [] (.exact 0), .sl 1 [] (.exact 0)]⟩, ⟨none, none, .store 4 (.t 10) (.t 21)⟩] none)
 (.seq (.seq (.reg [⟨some 22, none, .faddr 1 (.t 10)⟩, ⟨some 23, none, .load none (.t 22)⟩, ⟨some 24, none, .len false (.t 23)⟩, ⟨some 25, none, .mov (.c (.int .i64 0))⟩] none)
 (.block 0 (.loop (.seq (.reg [⟨some 26, none, .bin .lss (.t 25) (.t 24)⟩] none)
 (.seq (.cond (.t 26) .skip (.exit 0))
 (.seq (.block 1 (.seq (.reg [⟨some 27, none, .iaddr 1 (.t 23) (.t 25)⟩, ⟨some 28, none, .load none (.t 27)⟩, ⟨some 12, none, .mov (.t 28)⟩] none)
 (.seq (.reg [⟨some 29, none, .load (some 3) (.t 7)⟩, ⟨some 30, none, .mov (.t 12)⟩, ⟨some 31, none, .call 148 [(.t 29), (.t 30)]⟩, ⟨some 32, none, .un .not (.t 31)⟩] none)
 (.cond (.t 32) (.reg [⟨some 33, none, .ifc 26 (.c (.int .i64 4))⟩, ⟨none, none, .pan (.t 33)⟩] none) .skip))))
 (.reg [⟨some 34, none, .bin .add (.t 25) (.c (.int .i64 1))⟩, ⟨some 25, none, .mov (.t 34)⟩] none)))))))
 (.seq (.seq (.reg [⟨some 35, none, .faddr 0 (.t 10)⟩, ⟨some 36, none, .load none (.t 35)⟩] none)
 (.cond (.t 36) (.seq (.seq (.reg [⟨some 37, none, .faddr 1 (.t 10)⟩, ⟨some 38, none, .load none (.t 37)⟩, ⟨some 39, none, .len false (.t 38)⟩, ⟨some 40, none, .bin .eql (.t 39) (.c (.int .i64 0))⟩] none)
 (.cond (.t 40) (.reg [⟨some 41, none, .ifc 26 (.c (.int .i64 4))⟩, ⟨none, none, .pan (.t 41)⟩] none) .skip))
 (.seq (.reg [⟨some 42, none, .faddr 1 (.t 10)⟩, ⟨some 43, none, .load none (.t 42)⟩, ⟨some 44, none, .len false (.t 43)⟩, ⟨some 45, none, .mov (.t 2)⟩, ⟨some 8, none, .mov (.t 44)⟩, ⟨some 9, none, .mov (.t 45)⟩] none)
 .ret)) .skip))
 (.seq (.seq (.reg [⟨some 46, none, .faddr 3 (.t 10)⟩, ⟨some 47, none, .load none (.t 46)⟩, ⟨some 48, none, .len false (.t 47)⟩, ⟨some 49, none, .mov (.c (.int .i64 0))⟩] none)
 (.block 2 (.loop (.seq (.reg [⟨some 50, none, .bin .lss (.t 49) (.t 48)⟩] none)
 (.seq (.cond (.t 50) .skip (.exit 2))
 (.seq (.block 3 (.seq (.reg [⟨some 51, none, .mov (.t 49)⟩, ⟨some 52, none, .iaddr 1 (.t 47) (.t 49)⟩, ⟨some 53, none, .load none (.t 52)⟩, ⟨some 13, none, .mov (.t 51)⟩, ⟨some 14, none, .mov (.t 53)⟩] none)
 (.seq (.reg [⟨some 54, none, .load (some 3) (.t 7)⟩, ⟨some 15, none, .alloc [.str [], .str [], .bool false]⟩, ⟨none, none, .store 3 (.t 15) (.t 54)⟩] none)
 (.seq (.seq (.reg [⟨some 55, none, .mov (.t 13)⟩, ⟨some 56, none, .bin .gtr (.t 55) (.c (.int .i64 0))⟩] none)
 (.cond (.t 56) (.reg [⟨some 57, none, .faddr 1 (.t 10)⟩, ⟨some 58, none, .load none (.t 57)⟩, ⟨some 59, none, .mov (.t 13)⟩, ⟨some 60, none, .bin .sub (.t 59) (.c (.int .i64 1))⟩, ⟨some 61, none, .iaddr 1 (.t 58) (.t 60)⟩, ⟨some 62, none, .load none (.t 61)⟩, ⟨some 63, none, .faddr 0 (.t 15)⟩, ⟨none, none, .store 1 (.t 63) (.t 62)⟩] none) .skip))
 (.seq (.seq (.reg [⟨some 64, none, .mov (.t 13)⟩, ⟨some 65, none, .faddr 1 (.t 10)⟩, ⟨some 66, none, .load none (.t 65)⟩, ⟨some 67, none, .len false (.t 66)⟩, ⟨some 68, none, .bin .lss (.t 64) (.t 67)⟩] none)
 (.cond (.t 68) (.reg [⟨some 69, none, .faddr 1 (.t 10)⟩, ⟨some 70, none, .load none (.t 69)⟩, ⟨some 71, none, .mov (.t 13)⟩, ⟨some 72, none, .iaddr 1 (.t 70) (.t 71)⟩, ⟨some 73, none, .load none (.t 72)⟩, ⟨some 74, none, .faddr 1 (.t 15)⟩, ⟨none, none, .store 1 (.t 74) (.t 73)⟩, ⟨some 75, none, .faddr 2 (.t 15)⟩, ⟨none, none, .store 1 (.t 75) (.c (.bool false))⟩] none) .skip))
 (.seq (.reg [⟨some 77, none, .mov (.t 0)⟩, ⟨some 78, none, .mov (.t 14)⟩, ⟨some 79, none, .mov (.t 2)⟩, ⟨some 80, none, .bin .add (.t 79) (.c (.int .i64 1))⟩, ⟨some 81, none, .load (some 3) (.t 15)⟩, ⟨some 82, none, .call 62 [(.t 77), (.t 78), (.t 80), (.t 81)]⟩, ⟨some 76, none, .mov (.t 82)⟩, ⟨some 83, none, .ext (.t 76) 0⟩, ⟨some 84, none, .ext (.t 76) 1⟩, ⟨some 16, none, .mov (.t 83)⟩, ⟨some 17, none, .mov (.t 84)⟩] none)
 (.seq (.seq (.reg [⟨some 85, none, .mov (.t 13)⟩, ⟨some 86, none, .bin .gtr (.t 85) (.c (.int .i64 0))⟩, ⟨some 87, none, .mov (.t 86)⟩, ⟨some 88, some (87, true), .mov (.t 17)⟩, ⟨some 89, some (87, true), .mov (.t 9)⟩, ⟨some 90, some (87, true), .bin .neq (.t 88) (.t 89)⟩, ⟨some 91, none, .pick (.t 87) (.t 90) (.c (.bool false))⟩] none)
 (.cond (.t 91) (.reg [⟨some 92, none, .ifc 26 (.c (.int .i64 4))⟩, ⟨none, none, .pan (.t 92)⟩] none) .skip))
 (.reg [⟨some 93, none, .mov (.t 8)⟩, ⟨some 94, none, .mov (.t 16)⟩, ⟨some 95, none, .bin .add (.t 93) (.t 94)⟩, ⟨some 96, none, .mov (.t 17)⟩, ⟨some 8, none, .mov (.t 95)⟩, ⟨some 9, none, .mov (.t 96)⟩] none))))))))
 (.reg [⟨some 97, none, .bin .add (.t 49) (.c (.int .i64 1))⟩, ⟨some 49, none, .mov (.t 97)⟩] none)))))))
 (.seq (.reg [⟨some 98, none, .mov (.t 8)⟩, ⟨some 99, none, .mov (.t 9)⟩, ⟨some 8, none, .mov (.t 98)⟩, ⟨some 9, none, .mov (.t 99)⟩] none)
 .ret))))))
theorem f62 : FnIs Tryz.prog 62 100 c62 [.tmp 8, .tmp 9] := ⟨_, Tryz.func62, rfl, by kernel_rfl, rfl⟩
def c63 : AC := (.seq (.seq (.reg [⟨some 5, none, .load none (.t 0)⟩, ⟨some 6, none, .len true (.t 5)⟩, ⟨some 7, none, .bin .gtr (.t 6) (.c (.int .i64 128))⟩, ⟨some 8, none, .mov (.t 7)⟩, ⟨some 9, some (8, false), .load none (.t 1)⟩, ⟨some 10, some (8, false), .len true (.t 9)⟩, ⟨some 11, some (8, false), .bin .gtr (.t 10) (.c (.int .i64 200))⟩, ⟨some 12, none, .pick (.t 8) (.c (.bool true)) (.t 11)⟩] none)
 (.cond (.t 12) (.reg [⟨some 13, none, .ifc 26 (.c (.int .i64 2))⟩, ⟨none, none, .pan (.t 13)⟩] none) .skip))
 (.seq (.seq (.reg [⟨some 14, none, .load none (.t 2)⟩, ⟨some 15, none, .nilck (.t 14)⟩, ⟨some 16, none, .faddr 1 (.t 15)⟩, ⟨some 17, none, .load none (.t 16)⟩, ⟨some 18, none, .bin .lss (.t 17) (.c (.int .i64 0))⟩] none)
 (.cond (.t 18) (.seq (.reg [⟨some 19, none, .load none (.t 2)⟩, ⟨some 20, none, .load none (.t 2)⟩, ⟨some 21, none, .load none (.t 0)⟩, ⟨some 22, none, .buildSl 1 [(.t 21)]⟩, ⟨some 23, none, .load none (.t 1)⟩, ⟨some 24, none, .buildSl 1 [(.t 23)]⟩, ⟨some 25, none, .build [.bool false, .sl 1 [] (.exact 0), .sl 1 [] (.exact 0), .sl 1 [] (.exact 0)] [(0, 1, (.c (.bool true))), (1, 1, (.t 22)), (2, 1, (.t 24))]⟩, ⟨some 26, none, .call 64 [(.t 20), (.t 25)]⟩, ⟨some 27, none, .nilck (.t 19)⟩, ⟨some 28, none, .faddr 1 (.t 27)⟩, ⟨none, none, .store 1 (.t 28) (.t 26)⟩] (some [(0, 1), (0, 2), (1, 2), (0, 3), (1, 3), (0, 4), (1, 4), (2, 4), (3, 4), (0, 5), (1, 5), (2, 5), (3, 5), (0, 7)]))
 .ret) .skip))
 (.seq (.reg [⟨some 30, none, .load none (.t 2)⟩, ⟨some 31, none, .load none (.t 2)⟩, ⟨some 32, none, .nilck (.t 31)⟩, ⟨some 33, none, .faddr 1 (.t 32)⟩, ⟨some 34, none, .load none (.t 33)⟩, ⟨some 35, none, .load none (.t 0)⟩, ⟨some 36, none, .load none (.t 1)⟩, ⟨some 37, none, .call 65 [(.t 30), (.t 34), (.c (.int .i64 1)), (.t 35), (.t 36)]⟩, ⟨some 29, none, .mov (.t 37)⟩, ⟨some 38, none, .ext (.t 29) 0⟩, ⟨some 39, none, .ext (.t 29) 1⟩, ⟨some 4, none, .alloc [.str [], .int .i64 0]⟩, ⟨some 3, none, .mov (.t 38)⟩, ⟨none, none, .store 2 (.t 4) (.t 39)⟩] (some [(0, 1), (0, 4), (0, 5), (1, 5), (4, 5), (0, 6), (1, 6), (4, 6), (5, 6), (0, 11), (1, 11), (4, 11), (5, 11), (6, 11), (7, 11)]))
 (.seq (.seq (.reg [⟨some 40, none, .faddr 1 (.t 4)⟩, ⟨some 41, none, .load none (.t 40)⟩, ⟨some 42, none, .bin .geq (.t 41) (.c (.int .i64 0))⟩] none)
 (.cond (.t 42) (.reg [⟨some 43, none, .load none (.t 2)⟩, ⟨some 44, none, .faddr 0 (.t 4)⟩, ⟨some 45, none, .load none (.t 44)⟩, ⟨some 46, none, .buildSl 1 [(.t 45)]⟩, ⟨some 47, none, .mov (.t 3)⟩, ⟨some 48, none, .faddr 1 (.t 4)⟩, ⟨some 49, none, .load none (.t 48)⟩, ⟨some 50, none, .buildSl 1 [(.t 47), (.t 49)]⟩, ⟨some 51, none, .build [.bool false, .sl 1 [] (.exact 0), .sl 1 [] (.exact 0), .sl 1 [] (.exact 0)] [(1, 1, (.t 46)), (3, 1, (.t 50))]⟩, ⟨some 52, none, .call 64 [(.t 43), (.t 51)]⟩, ⟨some 3, none, .mov (.t 52)⟩] none) .skip))
 (.reg [⟨some 53, none, .load none (.t 2)⟩, ⟨some 54, none, .mov (.t 3)⟩, ⟨some 55, none, .nilck (.t 53)⟩, ⟨some 56, none, .faddr 1 (.t 55)⟩, ⟨none, none, .store 1 (.t 56) (.t 54)⟩] none)))))
theorem f63 : FnIs Tryz.prog 63 57 c63 [] := ⟨_, Tryz.func63, rfl, by kernel_rfl, rfl⟩
def c64 : AC := (.seq (.reg [⟨some 3, none, .box (.t 1)⟩, ⟨some 4, none, .mov (.c (.int .i64 0))⟩] none)
 (.seq (.reg [⟨some 9, none, .load (some 4) (.t 3)⟩, ⟨some 10, none, .call 149 [(.t 9)]⟩, ⟨some 8, none, .mov (.t 10)⟩, ⟨some 11, none, .ext (.t 8) 0⟩, ⟨some 12, none, .ext (.t 8) 1⟩, ⟨some 5, none, .mov (.t 11)⟩, ⟨some 6, none, .mov (.t 12)⟩] none)
 (.seq (.reg [⟨some 13, none, .mov (.t 6)⟩, ⟨some 14, none, .call 68 [(.t 13)]⟩] none)
 (.seq (.reg [⟨some 16, none, .mov (.t 0)⟩, ⟨some 17, none, .nilck (.t 16)⟩, ⟨some 18, none, .faddr 0 (.t 17)⟩, ⟨some 19, none, .load none (.t 18)⟩, ⟨some 20, none, .mov (.t 5)⟩, ⟨some 21, none, .call 150 [(.t 19), (.t 20)]⟩, ⟨some 15, none, .mov (.t 21)⟩, ⟨some 22, none, .ext (.t 15) 0⟩, ⟨some 23, none, .ext (.t 15) 1⟩, ⟨some 7, none, .mov (.t 22)⟩, ⟨some 6, none, .mov (.t 23)⟩] none)
 (.seq (.reg [⟨some 24, none, .mov (.t 6)⟩, ⟨some 25, none, .call 68 [(.t 24)]⟩] none)
 (.seq (.reg [⟨some 26, none, .mov (.t 7)⟩, ⟨some 4, none, .mov (.t 26)⟩] none)
 .ret))))))
theorem f64 : FnIs Tryz.prog 64 27 c64 [.tmp 4] := ⟨_, Tryz.func64, rfl, by kernel_rfl, rfl⟩
def c65 : AC := (.seq (.reg [⟨some 10, none, .mov (.c (.int .i64 0))⟩, ⟨some 11, none, .alloc [.str [], .int .i64 0]⟩] none)
 (.seq (.reg [⟨some 19, none, .mov (.t 0)⟩, ⟨some 20, none, .mov (.t 1)⟩, ⟨some 21, none, .mov (.t 2)⟩, ⟨some 22, none, .call 53 [(.t 19), (.t 20), (.t 21)]⟩, ⟨some 12, none, .alloc [.bool false, .sl 1 [] (.exact 0), .sl 1 [] (.exact 0), .sl 1 [] (.exact 0)]⟩, ⟨none, none, .store 4 (.t 12) (.t 22)⟩] none)
 (.seq (.seq (.reg [⟨some 23, none, .faddr 0 (.t 12)⟩, ⟨some 24, none, .load none (.t 23)⟩] none)
 (.cond (.t 24) (.seq (.reg [⟨some 26, none, .load (some 4) (.t 12)⟩, ⟨some 27, none, .mov (.t 3)⟩, ⟨some 28, none, .mov (.t 4)⟩, ⟨some 29, none, .call 151 [(.t 26), (.t 27), (.t 28)]⟩, ⟨some 25, none, .mov (.t 29)⟩, ⟨some 30, none, .ext (.t 25) 0⟩, ⟨some 31, none, .ext (.t 25) 1⟩, ⟨some 13, none, .alloc [.bool false, .sl 1 [] (.exact 0), .sl 1 [] (.exact 0), .sl 1 [] (.exact 0)]⟩, ⟨none, none, .store 4 (.t 13) (.t 30)⟩, ⟨some 14, none, .mov (.t 31)⟩] none)
 (.seq (.reg [⟨some 32, none, .mov (.t 14)⟩, ⟨some 33, none, .call 68 [(.t 32)]⟩] none)
 (.seq (.reg [⟨some 34, none, .mov (.t 0)⟩, ⟨some 35, none, .mov (.t 1)⟩, ⟨some 36, none, .load (some 4) (.t 13)⟩, ⟨some 37, none, .call 152 [(.t 34), (.t 35), (.t 36)]⟩, ⟨some 38, none, .ext (.t 37) 0⟩, ⟨some 39, none, .ext (.t 37) 1⟩, ⟨some 10, none, .mov (.t 38)⟩, ⟨none, none, .store 2 (.t 11) (.t 39)⟩] none)
 .ret))) .skip))
 (.seq (.reg [⟨some 41, none, .load (some 4) (.t 12)⟩, ⟨some 42, none, .mov (.t 3)⟩, ⟨some 43, none, .call 54 [(.t 41), (.t 42)]⟩, ⟨some 40, none, .mov (.t 43)⟩, ⟨some 44, none, .ext (.t 40) 0⟩, ⟨some 45, none, .ext (.t 40) 1⟩, ⟨some 15, none, .mov (.t 44)⟩, ⟨some 16, none, .mov (.t 45)⟩] none)
 (.seq (.reg [⟨some 47, none, .mov (.t 0)⟩, ⟨some 48, none, .faddr 3 (.t 12)⟩, ⟨some 49, none, .load none (.t 48)⟩, ⟨some 50, none, .mov (.t 15)⟩, ⟨some 51, none, .iaddr 1 (.t 49) (.t 50)⟩, ⟨some 52, none, .load none (.t 51)⟩, ⟨some 53, none, .mov (.t 2)⟩, ⟨some 54, none, .bin .add (.t 53) (.c (.int .i64 1))⟩, ⟨some 55, none, .mov (.t 3)⟩, ⟨some 56, none, .mov (.t 4)⟩, ⟨some 57, none, .call 65 [(.t 47), (.t 52), (.t 54), (.t 55), (.t 56)]⟩, ⟨some 46, none, .mov (.t 57)⟩, ⟨some 58, none, .ext (.t 46) 0⟩, ⟨some 59, none, .ext (.t 46) 1⟩, ⟨some 18, none, .alloc [.str [], .int .i64 0]⟩, ⟨some 17, none, .mov (.t 58)⟩, ⟨none, none, .store 2 (.t 18) (.t 59)⟩] none)
 (.seq (.seq (.reg [⟨some 60, none, .mov (.t 17)⟩, ⟨some 61, none, .faddr 3 (.t 12)⟩, ⟨some 62, none, .load none (.t 61)⟩, ⟨some 63, none, .mov (.t 15)⟩, ⟨some 64, none, .iaddr 1 (.t 62) (.t 63)⟩, ⟨some 65, none, .load none (.t 64)⟩, ⟨some 66, none, .bin .eql (.t 60) (.t 65)⟩, ⟨some 67, none, .mov (.t 66)⟩, ⟨some 68, some (67, true), .faddr 1 (.t 18)⟩, ⟨some 69, some (67, true), .load none (.t 68)⟩, ⟨some 70, some (67, true), .bin .lss (.t 69) (.c (.int .i64 0))⟩, ⟨some 71, none, .pick (.t 67) (.t 70) (.c (.bool false))⟩] none)
 (.cond (.t 71) (.seq (.reg [⟨some 72, none, .mov (.t 1)⟩, ⟨some 73, none, .call 153 []⟩, ⟨some 10, none, .mov (.t 72)⟩, ⟨none, none, .store 2 (.t 11) (.t 73)⟩] none)
 .ret) .skip))
 (.seq (.reg [⟨some 74, none, .faddr 3 (.t 12)⟩, ⟨some 75, none, .load none (.t 74)⟩, ⟨some 76, none, .mov (.t 15)⟩, ⟨some 77, none, .mov (.t 17)⟩, ⟨some 78, none, .iaddr 1 (.t 75) (.t 76)⟩, ⟨none, none, .store 1 (.t 78) (.t 77)⟩] none)
 (.seq (.seq (.reg [⟨some 79, none, .faddr 1 (.t 18)⟩, ⟨some 80, none, .load none (.t 79)⟩, ⟨some 81, none, .bin .geq (.t 80) (.c (.int .i64 0))⟩] none)
 (.cond (.t 81) (.seq (.reg [⟨some 82, none, .faddr 1 (.t 12)⟩, ⟨some 83, none, .load none (.t 82)⟩, ⟨some 84, none, .mov (.t 15)⟩, ⟨some 85, none, .faddr 0 (.t 18)⟩, ⟨some 86, none, .load none (.t 85)⟩, ⟨some 87, none, .buildSl 1 [(.t 86)]⟩, ⟨some 88, none, .call 154 [(.t 83), (.t 84), (.t 87)]⟩, ⟨some 89, none, .faddr 1 (.t 12)⟩, ⟨none, none, .store 1 (.t 89) (.t 88)⟩] none)
 (.reg [⟨some 90, none, .faddr 3 (.t 12)⟩, ⟨some 91, none, .load none (.t 90)⟩, ⟨some 92, none, .mov (.t 15)⟩, ⟨some 93, none, .bin .add (.t 92) (.c (.int .i64 1))⟩, ⟨some 94, none, .faddr 1 (.t 18)⟩, ⟨some 95, none, .load none (.t 94)⟩, ⟨some 96, none, .buildSl 1 [(.t 95)]⟩, ⟨some 97, none, .call 155 [(.t 91), (.t 93), (.t 96)]⟩, ⟨some 98, none, .faddr 3 (.t 12)⟩, ⟨none, none, .store 1 (.t 98) (.t 97)⟩] none)) .skip))
 (.seq (.reg [⟨some 99, none, .mov (.t 0)⟩, ⟨some 100, none, .mov (.t 1)⟩, ⟨some 101, none, .load (some 4) (.t 12)⟩, ⟨some 102, none, .call 152 [(.t 99), (.t 100), (.t 101)]⟩, ⟨some 103, none, .ext (.t 102) 0⟩, ⟨some 104, none, .ext (.t 102) 1⟩, ⟨some 10, none, .mov (.t 103)⟩, ⟨none, none, .store 2 (.t 11) (.t 104)⟩] none)
 .ret)))))))))
theorem f65 : FnIs Tryz.prog 65 105 c65 [.tmp 10, .cell 11 (some 2)] := ⟨_, Tryz.func65, rfl, by kernel_rfl, rfl⟩
def c66 : AC := (.seq (.seq (.reg [⟨some 5, none, .load none (.t 0)⟩, ⟨some 6, none, .nilck (.t 5)⟩, ⟨some 7, none, .faddr 1 (.t 6)⟩, ⟨some 8, none, .load none (.t 7)⟩, ⟨some 9, none, .bin .lss (.t 8) (.c (.int .i64 0))⟩] none)
 (.cond (.t 9) (.reg [⟨some 10, none, .ifc 26 (.c (.int .i64 7))⟩, ⟨none, none, .pan (.t 10)⟩] none) .skip))
 (.seq (.reg [⟨some 11, none, .load none (.t 0)⟩, ⟨some 12, none, .load none (.t 0)⟩, ⟨some 13, none, .nilck (.t 12)⟩, ⟨some 14, none, .faddr 1 (.t 13)⟩, ⟨some 15, none, .load none (.t 14)⟩, ⟨some 16, none, .load none (.t 1)⟩, ⟨some 17, none, .call 67 [(.t 11), (.t 15), (.c (.int .i64 1)), (.t 16)]⟩, ⟨some 2, none, .mov (.t 17)⟩] (some [(0, 1), (0, 4), (0, 5), (1, 5), (4, 5)]))
 (.seq (.seq (.reg [⟨some 3, none, .mov (.c (.int .i64 1))⟩] none)
 (.block 0 (.loop (.seq (.seq (.reg [⟨some 18, none, .mov (.t 2)⟩, ⟨some 19, none, .bin .geq (.t 18) (.c (.int .i64 0))⟩] none)
 (.cond (.t 19) .skip (.exit 0)))
 (.seq (.block 1 (.seq (.reg [⟨some 22, none, .load none (.t 0)⟩, ⟨some 23, none, .mov (.t 2)⟩, ⟨some 24, none, .mov (.t 3)⟩, ⟨some 25, none, .call 53 [(.t 22), (.t 23), (.t 24)]⟩, ⟨some 4, none, .alloc [.bool false, .sl 1 [] (.exact 0), .sl 1 [] (.exact 0), .sl 1 [] (.exact 0)]⟩, ⟨none, none, .store 4 (.t 4) (.t 25)⟩] none)
 (.seq (.seq (.reg [⟨some 26, none, .faddr 0 (.t 4)⟩, ⟨some 27, none, .load none (.t 26)⟩, ⟨some 28, none, .mov (.t 27)⟩, ⟨some 29, some (28, false), .faddr 3 (.t 4)⟩, ⟨some 30, some (28, false), .load none (.t 29)⟩, ⟨some 31, some (28, false), .len false (.t 30)⟩, ⟨some 32, some (28, false), .bin .gtr (.t 31) (.c (.int .i64 1))⟩, ⟨some 33, none, .pick (.t 28) (.c (.bool true)) (.t 32)⟩] none)
 (.cond (.t 33) (.exit 0) .skip))
 (.seq (.reg [⟨some 34, none, .load none (.t 0)⟩, ⟨some 35, none, .nilck (.t 34)⟩, ⟨some 36, none, .faddr 0 (.t 35)⟩, ⟨some 37, none, .load none (.t 36)⟩, ⟨some 38, none, .mov (.t 2)⟩, ⟨some 39, none, .call 69 [(.t 37), (.t 38)]⟩, ⟨some 40, none, .call 68 [(.t 39)]⟩] none)
 (.reg [⟨some 41, none, .faddr 3 (.t 4)⟩, ⟨some 42, none, .load none (.t 41)⟩, ⟨some 43, none, .iaddr 1 (.t 42) (.c (.int .i64 0))⟩, ⟨some 44, none, .load none (.t 43)⟩, ⟨some 2, none, .mov (.t 44)⟩] none)))))
 (.reg [⟨some 20, none, .mov (.t 3)⟩, ⟨some 21, none, .bin .add (.t 20) (.c (.int .i64 1))⟩, ⟨some 3, none, .mov (.t 21)⟩] none))))))
 (.reg [⟨some 45, none, .load none (.t 0)⟩, ⟨some 46, none, .mov (.t 2)⟩, ⟨some 47, none, .nilck (.t 45)⟩, ⟨some 48, none, .faddr 1 (.t 47)⟩, ⟨none, none, .store 1 (.t 48) (.t 46)⟩] none))))
theorem f66 : FnIs Tryz.prog 66 49 c66 [] := ⟨_, Tryz.func66, rfl, by kernel_rfl, rfl⟩
def c67 : AC := (.seq (.reg [⟨some 8, none, .mov (.c (.int .i64 0))⟩] none)
 (.seq (.reg [⟨some 16, none, .mov (.t 0)⟩, ⟨some 17, none, .mov (.t 1)⟩, ⟨some 18, none, .mov (.t 2)⟩, ⟨some 19, none, .call 53 [(.t 16), (.t 17), (.t 18)]⟩, ⟨some 9, none, .alloc [.bool false, .sl 1 [] (.exact 0), .sl 1 [] (.exact 0), .sl 1 [] (.exact 0)]⟩, ⟨none, none, .store 4 (.t 9) (.t 19)⟩] none)
 (.seq (.seq (.reg [⟨some 20, none, .faddr 0 (.t 9)⟩, ⟨some 21, none, .load none (.t 20)⟩] none)
 (.cond (.t 21) (.seq (.reg [⟨some 23, none, .load (some 4) (.t 9)⟩, ⟨some 24, none, .mov (.t 3)⟩, ⟨some 25, none, .call 156 [(.t 23), (.t 24)]⟩, ⟨some 22, none, .mov (.t 25)⟩, ⟨some 26, none, .ext (.t 22) 0⟩, ⟨some 27, none, .ext (.t 22) 1⟩, ⟨some 10, none, .alloc [.bool false, .sl 1 [] (.exact 0), .sl 1 [] (.exact 0), .sl 1 [] (.exact 0)]⟩, ⟨none, none, .store 4 (.t 10) (.t 26)⟩, ⟨some 11, none, .mov (.t 27)⟩] none)
 (.seq (.seq (.reg [⟨some 28, none, .mov (.t 11)⟩, ⟨some 29, none, .un .not (.t 28)⟩] none)
 (.cond (.t 29) (.reg [⟨some 30, none, .ifc 26 (.c (.int .i64 7))⟩, ⟨none, none, .pan (.t 30)⟩] none) .skip))
 (.seq (.seq (.reg [⟨some 31, none, .faddr 1 (.t 10)⟩, ⟨some 32, none, .load none (.t 31)⟩, ⟨some 33, none, .len false (.t 32)⟩, ⟨some 34, none, .bin .eql (.t 33) (.c (.int .i64 0))⟩] none)
 (.cond (.t 34) (.seq (.reg [⟨some 35, none, .mov (.t 0)⟩, ⟨some 36, none, .nilck (.t 35)⟩, ⟨some 37, none, .faddr 0 (.t 36)⟩, ⟨some 38, none, .load none (.t 37)⟩, ⟨some 39, none, .mov (.t 1)⟩, ⟨some 40, none, .call 69 [(.t 38), (.t 39)]⟩, ⟨some 41, none, .call 68 [(.t 40)]⟩] none)
 (.seq (.reg [⟨some 8, none, .mov (.c (.int .i64 (-1)))⟩] none)
 .ret)) .skip))
 (.seq (.reg [⟨some 42, none, .mov (.t 0)⟩, ⟨some 43, none, .mov (.t 1)⟩, ⟨some 44, none, .load (some 4) (.t 10)⟩, ⟨some 45, none, .call 157 [(.t 42), (.t 43), (.t 44)]⟩, ⟨some 8, none, .mov (.t 45)⟩] none)
 .ret)))) .skip))
 (.seq (.reg [⟨some 47, none, .load (some 4) (.t 9)⟩, ⟨some 48, none, .mov (.t 3)⟩, ⟨some 49, none, .call 54 [(.t 47), (.t 48)]⟩, ⟨some 46, none, .mov (.t 49)⟩, ⟨some 50, none, .ext (.t 46) 0⟩, ⟨some 51, none, .ext (.t 46) 1⟩, ⟨some 12, none, .mov (.t 50)⟩, ⟨some 13, none, .mov (.t 51)⟩] none)
 (.seq (.reg [⟨some 52, none, .mov (.t 0)⟩, ⟨some 53, none, .faddr 3 (.t 9)⟩, ⟨some 54, none, .load none (.t 53)⟩, ⟨some 55, none, .mov (.t 12)⟩, ⟨some 56, none, .iaddr 1 (.t 54) (.t 55)⟩, ⟨some 57, none, .load none (.t 56)⟩, ⟨some 58, none, .mov (.t 2)⟩, ⟨some 59, none, .bin .add (.t 58) (.c (.int .i64 1))⟩, ⟨some 60, none, .mov (.t 3)⟩, ⟨some 61, none, .call 67 [(.t 52), (.t 57), (.t 59), (.t 60)]⟩, ⟨some 14, none, .mov (.t 61)⟩] none)
 (.seq (.block 0 (.seq (.reg [⟨some 80, none, .mov (.t 14)⟩, ⟨some 81, none, .faddr 3 (.t 9)⟩, ⟨some 82, none, .load none (.t 81)⟩, ⟨some 83, none, .mov (.t 12)⟩, ⟨some 84, none, .iaddr 1 (.t 82) (.t 83)⟩, ⟨some 85, none, .load none (.t 84)⟩, ⟨some 86, none, .bin .eql (.t 80) (.t 85)⟩, ⟨some 79, none, .mov (.t 86)⟩] none)
 (.cond (.t 79) (.seq (.reg [⟨some 87, none, .mov (.t 1)⟩, ⟨some 8, none, .mov (.t 87)⟩] none)
 .ret) (.seq (.reg [⟨some 89, none, .mov (.t 14)⟩, ⟨some 90, none, .bin .geq (.t 89) (.c (.int .i64 0))⟩, ⟨some 88, none, .mov (.t 90)⟩] none)
 (.cond (.t 88) (.reg [⟨some 91, none, .faddr 3 (.t 9)⟩, ⟨some 92, none, .load none (.t 91)⟩, ⟨some 93, none, .mov (.t 12)⟩, ⟨some 94, none, .mov (.t 14)⟩, ⟨some 95, none, .iaddr 1 (.t 92) (.t 93)⟩, ⟨none, none, .store 1 (.t 95) (.t 94)⟩] none) (.seq (.reg [⟨some 97, none, .faddr 3 (.t 9)⟩, ⟨some 98, none, .load none (.t 97)⟩, ⟨some 99, none, .len false (.t 98)⟩, ⟨some 100, none, .bin .eql (.t 99) (.c (.int .i64 1))⟩, ⟨some 96, none, .mov (.t 100)⟩] none)
 (.cond (.t 96) (.seq (.reg [⟨some 101, none, .mov (.t 0)⟩, ⟨some 102, none, .nilck (.t 101)⟩, ⟨some 103, none, .faddr 0 (.t 102)⟩, ⟨some 104, none, .load none (.t 103)⟩, ⟨some 105, none, .mov (.t 1)⟩, ⟨some 106, none, .call 69 [(.t 104), (.t 105)]⟩, ⟨some 107, none, .call 68 [(.t 106)]⟩] none)
 (.seq (.reg [⟨some 8, none, .mov (.c (.int .i64 (-1)))⟩] none)
 .ret)) (.seq (.reg [⟨some 62, none, .faddr 3 (.t 9)⟩, ⟨some 63, none, .load none (.t 62)⟩, ⟨some 64, none, .mov (.t 12)⟩, ⟨some 65, none, .mov (.t 12)⟩, ⟨some 66, none, .bin .add (.t 65) (.c (.int .i64 1))⟩, ⟨some 67, none, .call 158 [(.t 63), (.t 64), (.t 66)]⟩, ⟨some 68, none, .faddr 3 (.t 9)⟩, ⟨none, none, .store 1 (.t 68) (.t 67)⟩] none)
 (.seq (.reg [⟨some 69, none, .mov (.t 12)⟩, ⟨some 70, none, .bin .sub (.t 69) (.c (.int .i64 1))⟩, ⟨some 71, none, .mm true (.c (.int .i64 0)) (.t 70)⟩, ⟨some 15, none, .mov (.t 71)⟩] none)
 (.reg [⟨some 72, none, .faddr 1 (.t 9)⟩, ⟨some 73, none, .load none (.t 72)⟩, ⟨some 74, none, .mov (.t 15)⟩, ⟨some 75, none, .mov (.t 15)⟩, ⟨some 76, none, .bin .add (.t 75) (.c (.int .i64 1))⟩, ⟨some 77, none, .call 159 [(.t 73), (.t 74), (.t 76)]⟩, ⟨some 78, none, .faddr 1 (.t 9)⟩, ⟨none, none, .store 1 (.t 78) (.t 77)⟩] none))))))))))
 (.seq (.reg [⟨some 108, none, .mov (.t 0)⟩, ⟨some 109, none, .mov (.t 1)⟩, ⟨some 110, none, .load (some 4) (.t 9)⟩, ⟨some 111, none, .call 157 [(.t 108), (.t 109), (.t 110)]⟩, ⟨some 8, none, .mov (.t 111)⟩] none)
 .ret)))))))
theorem f67 : FnIs Tryz.prog 67 112 c67 [.tmp 8] := ⟨_, Tryz.func67, rfl, by kernel_rfl, rfl⟩
def c68 : AC := (.seq (.reg [⟨some 2, none, .mov (.t 0)⟩, ⟨some 3, none, .bin .neq (.t 2) (.c (.int .i64 0))⟩] none)
 (.cond (.t 3) (.reg [⟨some 4, none, .mov (.t 0)⟩, ⟨some 5, none, .ifc 26 (.t 4)⟩, ⟨none, none, .pan (.t 5)⟩] none) .skip))
theorem f68 : FnIs Tryz.prog 68 6 c68 [] := ⟨_, Tryz.func68, rfl, by kernel_rfl, rfl⟩
def c69 : AC := (.seq (.reg [⟨some 4, none, .mov (.c (.int .i64 0))⟩] none)
 (.seq (.block 0 (.seq (.reg [⟨some 6, none, .mov (.t 0)⟩, ⟨some 7, none, .call 129 [(.t 6)]⟩, ⟨some 8, none, .un .not (.t 7)⟩, ⟨some 5, none, .mov (.t 8)⟩] none)
 (.cond (.t 5) (.seq (.reg [⟨some 4, none, .mov (.c (.int .i64 1))⟩] none)
 .ret) (.seq (.reg [⟨some 10, none, .mov (.t 0)⟩, ⟨some 11, none, .mov (.t 1)⟩, ⟨some 12, none, .call 130 [(.t 10), (.t 11)]⟩, ⟨some 13, none, .un .not (.t 12)⟩, ⟨some 9, none, .mov (.t 13)⟩] none)
 (.cond (.t 9) (.seq (.reg [⟨some 4, none, .mov (.c (.int .i64 6))⟩] none)
 .ret) .skip)))))
 (.seq (.seq (.reg [⟨some 14, none, .mov (.t 0)⟩, ⟨some 15, none, .nilck (.t 14)⟩, ⟨some 16, none, .faddr 3 (.t 15)⟩, ⟨some 17, none, .load none (.t 16)⟩, ⟨some 18, none, .mov (.t 1)⟩, ⟨some 19, none, .iaddr 1 (.t 17) (.t 18)⟩, ⟨some 20, none, .load none (.t 19)⟩] none)
 (.block 1 (.seq (.reg [⟨some 22, none, .bin .eql (.t 20) (.c (.int .i64 2))⟩, ⟨some 21, none, .mov (.t 22)⟩] none)
 (.cond (.t 21) (.reg [⟨some 23, none, .mov (.t 0)⟩, ⟨some 24, none, .mov (.t 1)⟩, ⟨some 25, none, .call 160 [(.t 23), (.t 24)]⟩] none) (.seq (.reg [⟨some 27, none, .bin .eql (.t 20) (.c (.int .i64 1))⟩, ⟨some 26, none, .mov (.t 27)⟩] none)
 (.cond (.t 26) (.reg [⟨some 28, none, .mov (.t 0)⟩, ⟨some 29, none, .nilck (.t 28)⟩, ⟨some 30, none, .faddr 3 (.t 29)⟩, ⟨some 31, none, .load none (.t 30)⟩, ⟨some 32, none, .mov (.t 1)⟩, ⟨some 33, none, .iaddr 1 (.t 31) (.t 32)⟩, ⟨none, none, .store 1 (.t 33) (.c (.int .i64 3))⟩] none) (.seq (.reg [⟨some 4, none, .mov (.c (.int .i64 7))⟩] none)
 .ret)))))))
 (.seq (.reg [⟨some 4, none, .mov (.c (.int .i64 0))⟩] none)
 .ret))))
theorem f69 : FnIs Tryz.prog 69 34 c69 [.tmp 4] := ⟨_, Tryz.func69, rfl, by kernel_rfl, rfl⟩
def c70 : AC := (.seq (.reg [⟨some 2, none, .mov (.c (.bool false))⟩] none)
 (.seq (.reg [⟨some 3, none, .mov (.t 0)⟩, ⟨some 4, none, .eqP true (.t 3) (.c (.sc (.pointer none)))⟩, ⟨some 5, none, .mov (.t 4)⟩, ⟨some 6, some (5, true), .mov (.t 0)⟩, ⟨some 7, some (5, true), .nilck (.t 6)⟩, ⟨some 8, some (5, true), .faddr 0 (.t 7)⟩, ⟨some 9, some (5, true), .load none (.t 8)⟩, ⟨some 10, some (5, true), .eqP true (.t 9) (.c (.sc (.pointer none)))⟩, ⟨some 11, none, .pick (.t 5) (.t 10) (.c (.bool false))⟩, ⟨some 2, none, .mov (.t 11)⟩] none)
 .ret))
theorem f70 : FnIs Tryz.prog 70 12 c70 [.tmp 2] := ⟨_, Tryz.func70, rfl, by kernel_rfl, rfl⟩
def c71 : AC := (.seq (.reg [⟨some 4, none, .mov (.c (.bool false))⟩] none)
 (.seq (.seq (.reg [⟨some 6, none, .mov (.t 0)⟩, ⟨some 7, none, .len false (.t 6)⟩, ⟨some 8, none, .mov (.t 1)⟩, ⟨some 9, none, .len false (.t 8)⟩, ⟨some 10, none, .bin .neq (.t 7) (.t 9)⟩] none)
 (.cond (.t 10) (.seq (.reg [⟨some 4, none, .mov (.c (.bool false))⟩] none)
 .ret) .skip))
 (.seq (.seq (.reg [⟨some 5, none, .mov (.c (.int .i64 0))⟩] none)
 (.block 0 (.loop (.seq (.seq (.reg [⟨some 11, none, .mov (.t 5)⟩, ⟨some 12, none, .mov (.t 0)⟩, ⟨some 13, none, .len false (.t 12)⟩, ⟨some 14, none, .bin .lss (.t 11) (.t 13)⟩] none)
 (.cond (.t 14) .skip (.exit 0)))
 (.seq (.block 1 (.seq (.reg [⟨some 17, none, .mov (.t 0)⟩, ⟨some 18, none, .mov (.t 5)⟩, ⟨some 19, none, .iaddr 2 (.t 17) (.t 18)⟩, ⟨some 20, none, .load (some 2) (.t 19)⟩, ⟨some 21, none, .mov (.t 1)⟩, ⟨some 22, none, .mov (.t 5)⟩, ⟨some 23, none, .iaddr 2 (.t 21) (.t 22)⟩, ⟨some 24, none, .load (some 2) (.t 23)⟩, ⟨some 25, none, .eqA true [.str, .str] (.t 20) (.t 24)⟩] (some [(3, 7)]))
 (.cond (.t 25) (.seq (.reg [⟨some 4, none, .mov (.c (.bool false))⟩] none)
 .ret) .skip)))
 (.reg [⟨some 15, none, .mov (.t 5)⟩, ⟨some 16, none, .bin .add (.t 15) (.c (.int .i64 1))⟩, ⟨some 5, none, .mov (.t 16)⟩] none))))))
 (.seq (.reg [⟨some 4, none, .mov (.c (.bool true))⟩] none)
 .ret))))
theorem f71 : FnIs Tryz.prog 71 26 c71 [.tmp 4] := ⟨_, Tryz.func71, rfl, by kernel_rfl, rfl⟩
def c75 : AC := (.seq (.reg [⟨some 2, none, .mov (.c (.int .i64 0))⟩] none)
 (.seq (.seq (.reg [⟨some 3, none, .mov (.t 0)⟩, ⟨some 4, none, .call 162 [(.t 3)]⟩, ⟨some 5, none, .un .not (.t 4)⟩] none)
 (.cond (.t 5) (.seq (.reg [⟨some 2, none, .mov (.c (.int .i64 0))⟩] none)
 .ret) .skip))
 (.seq (.reg [⟨some 6, none, .mov (.t 0)⟩, ⟨some 7, none, .nilck (.t 6)⟩, ⟨some 8, none, .faddr 0 (.t 7)⟩, ⟨some 9, none, .load none (.t 8)⟩, ⟨some 10, none, .len false (.t 9)⟩, ⟨some 2, none, .mov (.t 10)⟩] none)
 .ret)))
theorem f75 : FnIs Tryz.prog 75 11 c75 [.tmp 2] := ⟨_, Tryz.func75, rfl, by kernel_rfl, rfl⟩
def c86 : AC := (.seq (.reg [⟨some 6, none, .mov (.c (.int .i64 0))⟩] none)
 (.seq (.reg [⟨some 9, none, .mov (.t 0)⟩, ⟨some 10, none, .mov (.t 1)⟩, ⟨some 11, none, .call 173 [(.t 9), (.t 10)]⟩, ⟨some 7, none, .mov (.t 11)⟩] none)
 (.seq (.seq (.reg [⟨some 12, none, .mov (.t 7)⟩, ⟨some 13, none, .bin .eql (.t 12) (.c (.int .i64 0))⟩, ⟨some 14, none, .mov (.t 13)⟩, ⟨some 15, some (14, true), .mov (.t 2)⟩, ⟨some 16, some (14, true), .len false (.t 15)⟩, ⟨some 17, some (14, true), .bin .gtr (.t 16) (.c (.int .i64 128))⟩, ⟨some 18, none, .pick (.t 14) (.t 17) (.c (.bool false))⟩] none)
 (.cond (.t 18) (.reg [⟨some 7, none, .mov (.c (.int .i64 5))⟩] none) .skip))
 (.seq (.seq (.reg [⟨some 19, none, .mov (.t 7)⟩, ⟨some 20, none, .bin .eql (.t 19) (.c (.int .i64 0))⟩] none)
 (.cond (.t 20) (.reg [⟨some 21, none, .mov (.t 0)⟩, ⟨some 22, none, .call 174 [(.t 21)]⟩, ⟨some 7, none, .mov (.t 22)⟩] none) .skip))
 (.seq (.seq (.reg [⟨some 23, none, .mov (.t 7)⟩, ⟨some 24, none, .bin .neq (.t 23) (.c (.int .i64 0))⟩] none)
 (.cond (.t 24) (.seq (.reg [⟨some 25, none, .mov (.t 7)⟩, ⟨some 6, none, .mov (.t 25)⟩] none)
 .ret) .skip))
 (.seq (.reg [⟨some 26, none, .mov (.t 1)⟩, ⟨some 27, none, .build (List.replicate 128 (.int .u8 0) ++ [.int .i64 0]) [(128, 1, (.t 26))]⟩, ⟨some 8, none, .alloc (List.replicate 128 (.int .u8 0) ++ [.int .i64 0])⟩, ⟨none, none, .store 129 (.t 8) (.t 27)⟩] none)
 (.seq (.reg [⟨some 28, none, .faddr 0 (.t 8)⟩, ⟨some 29, none, .raw (.slp 1 128) [(.t 28), (.c (.int .i64 0)), (.c (.int .i64 128))]⟩, ⟨some 30, none, .mov (.t 2)⟩, ⟨some 31, none, .raw .cpy [(.t 29), (.t 30)]⟩] none)
 (.seq (.reg [⟨some 32, none, .mov (.t 0)⟩, ⟨some 33, none, .mov (.t 0)⟩, ⟨some 34, none, .nilck (.t 33)⟩, ⟨some 35, none, .faddr 1 (.t 34)⟩, ⟨some 36, none, .load none (.t 35)⟩, ⟨some 37, none, .load (some 129) (.t 8)⟩, ⟨some 38, none, .buildSl 129 [(.t 37)]⟩, ⟨some 39, none, .app false 129 136 (.t 36) (.t 38)⟩, ⟨some 40, none, .nilck (.t 32)⟩, ⟨some 41, none, .faddr 1 (.t 40)⟩, ⟨none, none, .store 1 (.t 41) (.t 39)⟩] (some [(4, 5), (4, 6)]))
 (.seq (.reg [⟨some 6, none, .mov (.c (.int .i64 0))⟩] none)
 .ret)))))))))
theorem f86 : FnIs Tryz.prog 86 42 c86 [.tmp 6] := ⟨_, Tryz.func86, rfl, by kernel_rfl, rfl⟩
def c129 : AC := (.seq (.reg [⟨some 2, none, .mov (.c (.bool false))⟩] none)
 (.seq (.reg [⟨some 3, none, .mov (.t 0)⟩, ⟨some 4, none, .eqP true (.t 3) (.c (.sc (.pointer none)))⟩, ⟨some 5, none, .mov (.t 4)⟩, ⟨some 6, some (5, true), .mov (.t 0)⟩, ⟨some 7, some (5, true), .nilck (.t 6)⟩, ⟨some 8, some (5, true), .faddr 1 (.t 7)⟩, ⟨some 9, some (5, true), .load none (.t 8)⟩, ⟨some 10, some (5, true), .eqP true (.t 9) (.c (.sc (.pointer none)))⟩, ⟨some 11, none, .pick (.t 5) (.t 10) (.c (.bool false))⟩, ⟨some 2, none, .mov (.t 11)⟩] none)
 .ret))
theorem f129 : FnIs Tryz.prog 129 12 c129 [.tmp 2] := ⟨_, Tryz.func129, rfl, by kernel_rfl, rfl⟩
def c130 : AC := (.seq (.reg [⟨some 4, none, .mov (.c (.bool false))⟩] none)
 (.seq (.reg [⟨some 5, none, .mov (.t 1)⟩, ⟨some 6, none, .bin .geq (.t 5) (.c (.int .i64 0))⟩, ⟨some 7, none, .mov (.t 6)⟩, ⟨some 8, some (7, true), .mov (.t 1)⟩, ⟨some 9, some (7, true), .mov (.t 0)⟩, ⟨some 10, some (7, true), .nilck (.t 9)⟩, ⟨some 11, some (7, true), .faddr 3 (.t 10)⟩, ⟨some 12, some (7, true), .load none (.t 11)⟩, ⟨some 13, some (7, true), .len false (.t 12)⟩, ⟨some 14, some (7, true), .bin .lss (.t 8) (.t 13)⟩, ⟨some 15, none, .pick (.t 7) (.t 14) (.c (.bool false))⟩, ⟨some 4, none, .mov (.t 15)⟩] none)
 .ret))
theorem f130 : FnIs Tryz.prog 130 16 c130 [.tmp 4] := ⟨_, Tryz.func130, rfl, by kernel_rfl, rfl⟩
def c132 : AC := (.seq (.reg [⟨some 4, none, .mov (.c (.bool false))⟩] none)
 (.seq (.reg [⟨some 5, none, .mov (.t 0)⟩, ⟨some 6, none, .mov (.t 1)⟩, ⟨some 7, none, .call 219 [(.t 5), (.t 6)]⟩, ⟨some 8, none, .bin .geq (.t 7) (.c (.int .i64 0))⟩, ⟨some 4, none, .mov (.t 8)⟩] none)
 .ret))
theorem f132 : FnIs Tryz.prog 132 9 c132 [.tmp 4] := ⟨_, Tryz.func132, rfl, by kernel_rfl, rfl⟩
def c134 : AC := (.seq (.reg [⟨some 2, none, .mov (.c (.bool false))⟩] none)
 (.seq (.reg [⟨some 3, none, .mov (.t 0)⟩, ⟨some 4, none, .bin .neq (.t 3) (.c (.int .i64 0))⟩, ⟨some 2, none, .mov (.t 4)⟩] none)
 .ret))
theorem f134 : FnIs Tryz.prog 134 5 c134 [.tmp 2] := ⟨_, Tryz.func134, rfl, by kernel_rfl, rfl⟩
def c136 : AC := (.seq (.reg [⟨some 4, none, .mov (.c (.sl 1 [] (.exact 0)))⟩] none)
 (.seq (.reg [⟨some 5, none, .mov (.c (.sl 1 [] (.exact 0)))⟩] none)
 (.seq (.seq (.reg [⟨some 8, none, .mov (.t 0)⟩, ⟨some 9, none, .nilck (.t 8)⟩, ⟨some 10, none, .faddr 3 (.t 9)⟩, ⟨some 11, none, .load none (.t 10)⟩, ⟨some 12, none, .len false (.t 11)⟩, ⟨some 13, none, .mov (.c (.int .i64 0))⟩] none)
 (.block 0 (.loop (.seq (.reg [⟨some 14, none, .bin .lss (.t 13) (.t 12)⟩] none)
 (.seq (.cond (.t 14) .skip (.exit 0))
 (.seq (.block 1 (.seq (.reg [⟨some 15, none, .mov (.t 13)⟩, ⟨some 16, none, .iaddr 1 (.t 11) (.t 13)⟩, ⟨some 17, none, .load none (.t 16)⟩, ⟨some 6, none, .mov (.t 15)⟩, ⟨some 7, none, .mov (.t 17)⟩] none)
 (.seq (.reg [⟨some 18, none, .mov (.t 7)⟩, ⟨some 19, none, .mov (.t 1)⟩, ⟨some 20, none, .bin .eql (.t 18) (.t 19)⟩] none)
 (.cond (.t 20) (.reg [⟨some 21, none, .mov (.t 5)⟩, ⟨some 22, none, .mov (.t 6)⟩, ⟨some 23, none, .buildSl 1 [(.t 22)]⟩, ⟨some 24, none, .app false 1 8 (.t 21) (.t 23)⟩, ⟨some 5, none, .mov (.t 24)⟩] none) .skip))))
 (.reg [⟨some 25, none, .bin .add (.t 13) (.c (.int .i64 1))⟩, ⟨some 13, none, .mov (.t 25)⟩] none)))))))
 (.seq (.reg [⟨some 26, none, .mov (.t 5)⟩, ⟨some 4, none, .mov (.t 26)⟩] none)
 .ret))))
theorem f136 : FnIs Tryz.prog 136 27 c136 [.tmp 4] := ⟨_, Tryz.func136, rfl, by kernel_rfl, rfl⟩
def c137 : AC := (.seq (.reg [⟨some 2, none, .mov (.c (.int .i64 0))⟩] none)
 (.seq (.seq (.reg [⟨some 6, none, .mov (.t 0)⟩, ⟨some 7, none, .call 220 [(.t 6)]⟩, ⟨some 8, none, .un .not (.t 7)⟩] none)
 (.cond (.t 8) (.seq (.reg [⟨some 2, none, .mov (.c (.int .i64 0))⟩] none)
 .ret) .skip))
 (.seq (.reg [⟨some 9, none, .mov (.t 0)⟩, ⟨some 10, none, .nilck (.t 9)⟩, ⟨some 11, none, .faddr 0 (.t 10)⟩, ⟨some 12, none, .load none (.t 11)⟩, ⟨some 3, none, .mov (.t 12)⟩] none)
 (.seq (.seq (.reg [⟨some 13, none, .mov (.t 0)⟩, ⟨some 14, none, .nilck (.t 13)⟩, ⟨some 15, none, .faddr 1 (.t 14)⟩, ⟨some 16, none, .load none (.t 15)⟩, ⟨some 17, none, .len false (.t 16)⟩, ⟨some 18, none, .mov (.c (.int .i64 0))⟩] none)
 (.block 0 (.loop (.seq (.reg [⟨some 19, none, .bin .lss (.t 18) (.t 17)⟩] none)
 (.seq (.cond (.t 19) .skip (.exit 0))
 (.seq (.block 1 (.seq (.reg [⟨some 20, none, .iaddr 1 (.t 16) (.t 18)⟩, ⟨some 21, none, .load none (.t 20)⟩, ⟨some 5, none, .mov (.t 21)⟩] none)
 (.reg [⟨some 22, none, .mov (.t 3)⟩, ⟨some 23, none, .mov (.t 5)⟩, ⟨some 24, none, .call 223 [(.t 23)]⟩, ⟨some 25, none, .bin .sub (.t 22) (.t 24)⟩, ⟨some 3, none, .mov (.t 25)⟩] none)))
 (.reg [⟨some 26, none, .bin .add (.t 18) (.c (.int .i64 1))⟩, ⟨some 18, none, .mov (.t 26)⟩] none)))))))
 (.seq (.reg [⟨some 27, none, .mov (.t 3)⟩, ⟨some 2, none, .mov (.t 27)⟩] none)
 .ret)))))
theorem f137 : FnIs Tryz.prog 137 28 c137 [.tmp 2] := ⟨_, Tryz.func137, rfl, by kernel_rfl, rfl⟩
def c138 : AC := (.seq (.reg [⟨some 2, none, .mov (.c (.sc (.pointer none)))⟩, ⟨some 3, none, .mov (.c (.int .i64 0))⟩] none)
 (.seq (.seq (.reg [⟨some 4, none, .mov (.t 0)⟩, ⟨some 5, none, .bin .lss (.t 4) (.c (.int .i64 1))⟩, ⟨some 6, none, .mov (.t 5)⟩, ⟨some 7, some (6, false), .mov (.t 0)⟩, ⟨some 8, some (6, false), .bin .gtr (.t 7) (.c (.int .i64 16384))⟩, ⟨some 9, none, .pick (.t 6) (.c (.bool true)) (.t 8)⟩] none)
 (.cond (.t 9) (.seq (.reg [⟨some 2, none, .mov (.c (.sc (.pointer none)))⟩, ⟨some 3, none, .mov (.c (.int .i64 2))⟩] none)
 .ret) .skip))
 (.seq (.reg [⟨some 10, none, .mov (.t 0)⟩, ⟨some 11, none, .mov (.t 0)⟩, ⟨some 12, none, .bin .add (.t 11) (.c (.int .i64 64))⟩, ⟨some 13, none, .bin .sub (.t 12) (.c (.int .i64 1))⟩, ⟨some 14, none, .bin .quo (.t 13) (.c (.int .i64 64))⟩, ⟨some 15, none, .mksl 1 8 (.int .u64 0) (.t 14) (.t 14)⟩, ⟨some 16, none, .build [.int .i64 0, .sl 1 [] (.exact 0)] [(0, 1, (.t 10)), (1, 1, (.t 15))]⟩, ⟨some 17, none, .box (.t 16)⟩, ⟨some 2, none, .mov (.t 17)⟩, ⟨some 3, none, .mov (.c (.int .i64 0))⟩] none)
 .ret)))
theorem f138 : FnIs Tryz.prog 138 18 c138 [.tmp 2, .tmp 3] := ⟨_, Tryz.func138, rfl, by kernel_rfl, rfl⟩
def c140 : AC := (.seq (.reg [⟨some 4, none, .mov (.c (.sl 1 [] (.exact 0)))⟩, ⟨some 5, none, .mov (.c (.int .i64 0))⟩] none)
 (.seq (.block 0 (.seq (.reg [⟨some 11, none, .mov (.t 0)⟩, ⟨some 12, none, .call 129 [(.t 11)]⟩, ⟨some 13, none, .un .not (.t 12)⟩, ⟨some 10, none, .mov (.t 13)⟩] none)
 (.cond (.t 10) (.seq (.reg [⟨some 4, none, .mov (.c (.sl 1 [] (.exact 0)))⟩, ⟨some 5, none, .mov (.c (.int .i64 1))⟩] none)
 .ret) (.seq (.reg [⟨some 15, none, .mov (.t 0)⟩, ⟨some 16, none, .mov (.t 1)⟩, ⟨some 17, none, .call 130 [(.t 15), (.t 16)]⟩, ⟨some 18, none, .un .not (.t 17)⟩, ⟨some 14, none, .mov (.t 18)⟩] none)
 (.cond (.t 14) (.seq (.reg [⟨some 4, none, .mov (.c (.sl 1 [] (.exact 0)))⟩, ⟨some 5, none, .mov (.c (.int .i64 6))⟩] none)
 .ret) (.seq (.reg [⟨some 20, none, .mov (.t 0)⟩, ⟨some 21, none, .nilck (.t 20)⟩, ⟨some 22, none, .faddr 3 (.t 21)⟩, ⟨some 23, none, .load none (.t 22)⟩, ⟨some 24, none, .mov (.t 1)⟩, ⟨some 25, none, .iaddr 1 (.t 23) (.t 24)⟩, ⟨some 26, none, .load none (.t 25)⟩, ⟨some 27, none, .call 134 [(.t 26)]⟩, ⟨some 28, none, .un .not (.t 27)⟩, ⟨some 19, none, .mov (.t 28)⟩] none)
 (.cond (.t 19) (.seq (.reg [⟨some 4, none, .mov (.c (.sl 1 [] (.exact 0)))⟩, ⟨some 5, none, .mov (.c (.int .i64 7))⟩] none)
 .ret) .skip)))))))
 (.seq (.reg [⟨some 6, none, .mov (.c (.sl 1 [] (.exact 0)))⟩] none)
 (.seq (.seq (.reg [⟨some 29, none, .mov (.c (.int .i64 0))⟩] none)
 (.block 1 (.loop (.seq (.reg [⟨some 30, none, .bin .lss (.t 29) (.c (.int .i64 8))⟩] none)
 (.seq (.cond (.t 30) .skip (.exit 1))
 (.seq (.block 2 (.seq (.reg [⟨some 31, none, .mov (.t 29)⟩, ⟨some 7, none, .mov (.t 31)⟩] none)
 (.seq (.reg [⟨some 33, none, .mov (.t 0)⟩, ⟨some 34, none, .nilck (.t 33)⟩, ⟨some 35, none, .faddr 1 (.t 34)⟩, ⟨some 36, none, .load none (.t 35)⟩, ⟨some 37, none, .mov (.t 0)⟩, ⟨some 38, none, .nilck (.t 37)⟩, ⟨some 39, none, .faddr 2 (.t 38)⟩, ⟨some 40, none, .load none (.t 39)⟩, ⟨some 41, none, .mov (.t 1)⟩, ⟨some 42, none, .bin .mul (.t 41) (.c (.int .i64 8))⟩, ⟨some 43, none, .bin .add (.t 40) (.t 42)⟩, ⟨some 44, none, .mov (.t 7)⟩, ⟨some 45, none, .bin .add (.t 43) (.t 44)⟩, ⟨some 46, none, .call 224 [(.t 36), (.t 45)]⟩, ⟨some 32, none, .mov (.t 46)⟩, ⟨some 47, none, .ext (.t 32) 0⟩, ⟨some 48, none, .ext (.t 32) 1⟩, ⟨some 8, none, .mov (.t 47)⟩, ⟨some 9, none, .mov (.t 48)⟩] (some [(3, 7)]))
 (.seq (.seq (.reg [⟨some 49, none, .mov (.t 9)⟩, ⟨some 50, none, .bin .neq (.t 49) (.c (.int .i64 0))⟩] none)
 (.cond (.t 50) (.seq (.reg [⟨some 51, none, .mov (.t 9)⟩, ⟨some 4, none, .mov (.c (.sl 1 [] (.exact 0)))⟩, ⟨some 5, none, .mov (.t 51)⟩] none)
 .ret) .skip))
 (.reg [⟨some 52, none, .mov (.t 6)⟩, ⟨some 53, none, .mov (.t 8)⟩, ⟨some 54, none, .app false 1 1 (.t 52) (.t 53)⟩, ⟨some 6, none, .mov (.t 54)⟩] none)))))
 (.reg [⟨some 55, none, .bin .add (.t 29) (.c (.int .i64 1))⟩, ⟨some 29, none, .mov (.t 55)⟩] none)))))))
 (.seq (.reg [⟨some 56, none, .mov (.t 6)⟩, ⟨some 4, none, .mov (.t 56)⟩, ⟨some 5, none, .mov (.c (.int .i64 0))⟩] none)
 .ret)))))
theorem f140 : FnIs Tryz.prog 140 57 c140 [.tmp 4, .tmp 5] := ⟨_, Tryz.func140, rfl, by kernel_rfl, rfl⟩
def c141 : AC := (.seq (.reg [⟨some 2, none, .alloc [.bool false, .sl 1 [] (.exact 0), .sl 1 [] (.exact 0), .sl 1 [] (.exact 0)]⟩, ⟨some 3, none, .mov (.c (.int .i64 0))⟩] none)
 (.seq (.seq (.reg [⟨some 8, none, .mov (.t 0)⟩, ⟨some 9, none, .len false (.t 8)⟩, ⟨some 10, none, .bin .neq (.t 9) (.c (.int .i64 1024))⟩, ⟨some 11, none, .mov (.t 10)⟩, ⟨some 12, some (11, false), .mov (.t 0)⟩, ⟨some 13, some (11, false), .iaddr 1 (.t 12) (.c (.int .i64 0))⟩, ⟨some 14, some (11, false), .load none (.t 13)⟩, ⟨some 15, some (11, false), .bin .neq (.t 14) (.c (.int .u8 76))⟩, ⟨some 16, some (11, false), .mov (.t 15)⟩, ⟨some 17, some (16, true), .mov (.t 0)⟩, ⟨some 18, some (16, true), .iaddr 1 (.t 17) (.c (.int .i64 0))⟩, ⟨some 19, some (16, true), .load none (.t 18)⟩, ⟨some 20, some (16, true), .bin .neq (.t 19) (.c (.int .u8 73))⟩, ⟨some 21, some (11, false), .pick (.t 16) (.t 20) (.c (.bool false))⟩, ⟨some 22, none, .pick (.t 11) (.c (.bool true)) (.t 21)⟩] none)
 (.cond (.t 22) (.seq (.reg [⟨some 23, none, .build [.bool false, .sl 1 [] (.exact 0), .sl 1 [] (.exact 0), .sl 1 [] (.exact 0)] []⟩, ⟨none, none, .store 4 (.t 2) (.t 23)⟩, ⟨some 3, none, .mov (.c (.int .i64 4))⟩] none)
 .ret) .skip))
 (.seq (.reg [⟨some 24, none, .mov (.t 0)⟩, ⟨some 25, none, .build [.sl 1 [] (.exact 0), .int .i64 0, .bool false] [(0, 1, (.t 24)), (1, 1, (.c (.int .i64 1))), (2, 1, (.c (.bool true)))]⟩, ⟨some 26, none, .box (.t 25)⟩, ⟨some 4, none, .mov (.t 26)⟩] none)
 (.seq (.reg [⟨some 27, none, .mov (.t 0)⟩, ⟨some 28, none, .iaddr 1 (.t 27) (.c (.int .i64 0))⟩, ⟨some 29, none, .load none (.t 28)⟩, ⟨some 30, none, .bin .eql (.t 29) (.c (.int .u8 76))⟩, ⟨some 31, none, .build [.bool false, .sl 1 [] (.exact 0), .sl 1 [] (.exact 0), .sl 1 [] (.exact 0)] [(0, 1, (.t 30))]⟩, ⟨some 5, none, .alloc [.bool false, .sl 1 [] (.exact 0), .sl 1 [] (.exact 0), .sl 1 [] (.exact 0)]⟩, ⟨none, none, .store 4 (.t 5) (.t 31)⟩] none)
 (.seq (.reg [⟨some 32, none, .mov (.t 4)⟩, ⟨some 33, none, .call 225 [(.t 32), (.c (.int .i64 2))]⟩, ⟨some 6, none, .mov (.t 33)⟩] none)
 (.seq (.seq (.reg [⟨some 34, none, .faddr 0 (.t 5)⟩, ⟨some 35, none, .load none (.t 34)⟩, ⟨some 36, none, .un .not (.t 35)⟩] none)
 (.cond (.t 36) (.reg [⟨some 37, none, .faddr 3 (.t 5)⟩, ⟨some 38, none, .load none (.t 37)⟩, ⟨some 39, none, .mov (.t 4)⟩, ⟨some 40, none, .call 225 [(.t 39), (.c (.int .i64 4))]⟩, ⟨some 41, none, .buildSl 1 [(.t 40)]⟩, ⟨some 42, none, .app false 1 8 (.t 38) (.t 41)⟩, ⟨some 43, none, .faddr 3 (.t 5)⟩, ⟨none, none, .store 1 (.t 43) (.t 42)⟩] (some [(1, 3), (1, 4)])) .skip))
 (.seq (.block 0 (.loop (.seq (.seq (.reg [⟨some 44, none, .mov (.t 6)⟩, ⟨some 45, none, .bin .gtr (.t 44) (.c (.int .i64 0))⟩, ⟨some 46, none, .mov (.t 45)⟩, ⟨some 47, some (46, true), .mov (.t 4)⟩, ⟨some 48, some (46, true), .nilck (.t 47)⟩, ⟨some 49, some (46, true), .faddr 2 (.t 48)⟩, ⟨some 50, some (46, true), .load none (.t 49)⟩, ⟨some 51, none, .pick (.t 46) (.t 50) (.c (.bool false))⟩] none)
 (.cond (.t 51) .skip (.exit 0)))
 (.seq (.block 1 (.seq (.reg [⟨some 54, none, .faddr 1 (.t 5)⟩, ⟨some 55, none, .load none (.t 54)⟩, ⟨some 56, none, .mov (.t 4)⟩, ⟨some 57, none, .call 226 [(.t 56), (.c (.int .i64 1))]⟩, ⟨some 58, none, .buildSl 1 [(.t 57)]⟩, ⟨some 59, none, .app false 1 16 (.t 55) (.t 58)⟩, ⟨some 60, none, .faddr 1 (.t 5)⟩, ⟨none, none, .store 1 (.t 60) (.t 59)⟩] (some [(1, 3), (1, 4)]))
 (.seq (.reg [⟨some 61, none, .faddr 0 (.t 5)⟩, ⟨some 62, none, .load none (.t 61)⟩] none)
 (.cond (.t 62) (.reg [⟨some 63, none, .faddr 2 (.t 5)⟩, ⟨some 64, none, .load none (.t 63)⟩, ⟨some 65, none, .mov (.t 4)⟩, ⟨some 66, none, .call 226 [(.t 65), (.c (.int .i64 2))]⟩, ⟨some 67, none, .buildSl 1 [(.t 66)]⟩, ⟨some 68, none, .app false 1 16 (.t 64) (.t 67)⟩, ⟨some 69, none, .faddr 2 (.t 5)⟩, ⟨none, none, .store 1 (.t 69) (.t 68)⟩] (some [(1, 3), (1, 4)])) (.reg [⟨some 70, none, .faddr 3 (.t 5)⟩, ⟨some 71, none, .load none (.t 70)⟩, ⟨some 72, none, .mov (.t 4)⟩, ⟨some 73, none, .call 225 [(.t 72), (.c (.int .i64 4))]⟩, ⟨some 74, none, .buildSl 1 [(.t 73)]⟩, ⟨some 75, none, .app false 1 8 (.t 71) (.t 74)⟩, ⟨some 76, none, .faddr 3 (.t 5)⟩, ⟨none, none, .store 1 (.t 76) (.t 75)⟩] (some [(1, 3), (1, 4)]))))))
 (.reg [⟨some 52, none, .mov (.t 6)⟩, ⟨some 53, none, .bin .sub (.t 52) (.c (.int .i64 1))⟩, ⟨some 6, none, .mov (.t 53)⟩] none)))))
 (.seq (.reg [⟨some 7, none, .mov (.c (.clo (.func 227) [] []))⟩] none)
 (.seq (.seq (.reg [⟨some 77, none, .mov (.t 4)⟩, ⟨some 78, none, .nilck (.t 77)⟩, ⟨some 79, none, .faddr 2 (.t 78)⟩, ⟨some 80, none, .load none (.t 79)⟩, ⟨some 81, none, .un .not (.t 80)⟩, ⟨some 82, none, .mov (.t 81)⟩, ⟨some 83, some (82, false), .load (some 4) (.t 5)⟩, ⟨some 84, some (82, false), .call 228 [(.t 83)]⟩, ⟨some 85, some (82, false), .bin .neq (.t 84) (.c (.int .i64 0))⟩, ⟨some 86, none, .pick (.t 82) (.c (.bool true)) (.t 85)⟩, ⟨some 87, none, .mov (.t 86)⟩, ⟨some 88, some (87, false), .mov (.t 0)⟩, ⟨some 89, some (87, false), .mov (.t 4)⟩, ⟨some 90, some (87, false), .nilck (.t 89)⟩, ⟨some 91, some (87, false), .faddr 1 (.t 90)⟩, ⟨some 92, some (87, false), .load none (.t 91)⟩, ⟨some 93, some (87, false), .slc false 1 (.t 88) (some (.t 92)) none none⟩, ⟨some 94, some (87, false), .mov (.t 7)⟩, ⟨some 95, some (87, false), .call 229 [(.t 93), (.t 94)]⟩, ⟨some 96, none, .pick (.t 87) (.c (.bool true)) (.t 95)⟩] none)
 (.cond (.t 96) (.seq (.reg [⟨some 97, none, .build [.bool false, .sl 1 [] (.exact 0), .sl 1 [] (.exact 0), .sl 1 [] (.exact 0)] []⟩, ⟨none, none, .store 4 (.t 2) (.t 97)⟩, ⟨some 3, none, .mov (.c (.int .i64 4))⟩] none)
 .ret) .skip))
 (.seq (.reg [⟨some 98, none, .load (some 4) (.t 5)⟩, ⟨none, none, .store 4 (.t 2) (.t 98)⟩, ⟨some 3, none, .mov (.c (.int .i64 0))⟩] none)
 .ret))))))))))
theorem f141 : FnIs Tryz.prog 141 99 c141 [.cell 2 (some 4), .tmp 3] := ⟨_, Tryz.func141, rfl, by kernel_rfl, rfl⟩
def c142 : AC := (.seq (.reg [⟨some 1, none, .box (.t 0)⟩, ⟨some 2, none, .mov (.c (.bool false))⟩] none)
 (.seq (.seq (.reg [⟨some 7, none, .faddr 1 (.t 1)⟩, ⟨some 8, none, .load none (.t 7)⟩, ⟨some 9, none, .len false (.t 8)⟩, ⟨some 10, none, .mov (.c (.int .i64 0))⟩] none)
 (.block 0 (.loop (.seq (.reg [⟨some 11, none, .bin .lss (.t 10) (.t 9)⟩] none)
 (.seq (.cond (.t 11) .skip (.exit 0))
 (.seq (.block 1 (.seq (.reg [⟨some 12, none, .mov (.t 10)⟩, ⟨some 13, none, .iaddr 1 (.t 8) (.t 10)⟩, ⟨some 14, none, .load none (.t 13)⟩, ⟨some 3, none, .mov (.t 12)⟩, ⟨some 4, none, .mov (.t 14)⟩] none)
 (.seq (.reg [⟨some 15, none, .mov (.t 4)⟩, ⟨some 16, none, .len true (.t 15)⟩, ⟨some 17, none, .bin .gtr (.t 16) (.c (.int .i64 128))⟩, ⟨some 18, none, .mov (.t 17)⟩, ⟨some 19, some (18, false), .mov (.t 3)⟩, ⟨some 20, some (18, false), .bin .gtr (.t 19) (.c (.int .i64 0))⟩, ⟨some 21, some (18, false), .mov (.t 20)⟩, ⟨some 22, some (21, true), .faddr 1 (.t 1)⟩, ⟨some 23, some (21, true), .load none (.t 22)⟩, ⟨some 24, some (21, true), .mov (.t 3)⟩, ⟨some 25, some (21, true), .bin .sub (.t 24) (.c (.int .i64 1))⟩, ⟨some 26, some (21, true), .iaddr 1 (.t 23) (.t 25)⟩, ⟨some 27, some (21, true), .load none (.t 26)⟩, ⟨some 28, some (21, true), .mov (.t 4)⟩, ⟨some 29, some (21, true), .bin .geq (.t 27) (.t 28)⟩, ⟨some 30, some (18, false), .pick (.t 21) (.t 29) (.c (.bool false))⟩, ⟨some 31, none, .pick (.t 18) (.c (.bool true)) (.t 30)⟩] none)
 (.cond (.t 31) (.seq (.reg [⟨some 2, none, .mov (.c (.bool false))⟩] none)
 .ret) .skip))))
 (.reg [⟨some 32, none, .bin .add (.t 10) (.c (.int .i64 1))⟩, ⟨some 10, none, .mov (.t 32)⟩] none)))))))
 (.seq (.seq (.reg [⟨some 33, none, .faddr 0 (.t 1)⟩, ⟨some 34, none, .load none (.t 33)⟩] none)
 (.cond (.t 34) (.seq (.reg [⟨some 5, none, .mov (.c (.clo (.func 230) [] []))⟩] none)
 (.seq (.reg [⟨some 35, none, .faddr 2 (.t 1)⟩, ⟨some 36, none, .load none (.t 35)⟩, ⟨some 37, none, .len false (.t 36)⟩, ⟨some 38, none, .faddr 1 (.t 1)⟩, ⟨some 39, none, .load none (.t 38)⟩, ⟨some 40, none, .len false (.t 39)⟩, ⟨some 41, none, .bin .eql (.t 37) (.t 40)⟩, ⟨some 42, none, .mov (.t 41)⟩, ⟨some 43, some (42, true), .faddr 3 (.t 1)⟩, ⟨some 44, some (42, true), .load none (.t 43)⟩, ⟨some 45, some (42, true), .len false (.t 44)⟩, ⟨some 46, some (42, true), .bin .eql (.t 45) (.c (.int .i64 0))⟩, ⟨some 47, none, .pick (.t 42) (.t 46) (.c (.bool false))⟩, ⟨some 48, none, .mov (.t 47)⟩, ⟨some 49, some (48, true), .faddr 2 (.t 1)⟩, ⟨some 50, some (48, true), .load none (.t 49)⟩, ⟨some 51, some (48, true), .mov (.t 5)⟩, ⟨some 52, some (48, true), .call 231 [(.t 50), (.t 51)]⟩, ⟨some 53, some (48, true), .un .not (.t 52)⟩, ⟨some 54, none, .pick (.t 48) (.t 53) (.c (.bool false))⟩, ⟨some 2, none, .mov (.t 54)⟩] none)
 .ret)) .skip))
 (.seq (.reg [⟨some 6, none, .mov (.c (.clo (.func 232) [] []))⟩] none)
 (.seq (.reg [⟨some 55, none, .faddr 2 (.t 1)⟩, ⟨some 56, none, .load none (.t 55)⟩, ⟨some 57, none, .len false (.t 56)⟩, ⟨some 58, none, .bin .eql (.t 57) (.c (.int .i64 0))⟩, ⟨some 59, none, .mov (.t 58)⟩, ⟨some 60, some (59, true), .faddr 3 (.t 1)⟩, ⟨some 61, some (59, true), .load none (.t 60)⟩, ⟨some 62, some (59, true), .len false (.t 61)⟩, ⟨some 63, some (59, true), .faddr 1 (.t 1)⟩, ⟨some 64, some (59, true), .load none (.t 63)⟩, ⟨some 65, some (59, true), .len false (.t 64)⟩, ⟨some 66, some (59, true), .bin .add (.t 65) (.c (.int .i64 1))⟩, ⟨some 67, some (59, true), .bin .eql (.t 62) (.t 66)⟩, ⟨some 68, none, .pick (.t 59) (.t 67) (.c (.bool false))⟩, ⟨some 69, none, .mov (.t 68)⟩, ⟨some 70, some (69, true), .faddr 3 (.t 1)⟩, ⟨some 71, some (69, true), .load none (.t 70)⟩, ⟨some 72, some (69, true), .mov (.t 6)⟩, ⟨some 73, some (69, true), .call 132 [(.t 71), (.t 72)]⟩, ⟨some 74, some (69, true), .un .not (.t 73)⟩, ⟨some 75, none, .pick (.t 69) (.t 74) (.c (.bool false))⟩, ⟨some 2, none, .mov (.t 75)⟩] none)
 .ret)))))
theorem f142 : FnIs Tryz.prog 142 76 c142 [.tmp 2] := ⟨_, Tryz.func142, rfl, by kernel_rfl, rfl⟩
def c143 : AC := (.seq (.reg [⟨some 4, none, .mov (.c (.int .i64 0))⟩] none)
 (.seq (.reg [⟨some 8, none, .mov (.t 0)⟩, ⟨some 5, none, .mov (.c (.int .i64 0))⟩, ⟨some 6, none, .mov (.t 8)⟩] none)
 (.seq (.block 0 (.loop (.seq (.seq (.reg [⟨some 9, none, .mov (.t 5)⟩, ⟨some 10, none, .mov (.t 6)⟩, ⟨some 11, none, .bin .lss (.t 9) (.t 10)⟩] none)
 (.cond (.t 11) .skip (.exit 0)))
 (.block 1 (.seq (.reg [⟨some 12, none, .mov (.t 5)⟩, ⟨some 13, none, .mov (.t 6)⟩, ⟨some 14, none, .bin .add (.t 12) (.t 13)⟩, ⟨some 15, none, .conv (.toInt .u64) (.t 14)⟩, ⟨some 16, none, .bin .shr (.t 15) (.c (.int .u64 1))⟩, ⟨some 17, none, .conv (.toInt .i64) (.t 16)⟩, ⟨some 7, none, .mov (.t 17)⟩] none)
 (.seq (.reg [⟨some 18, none, .mov (.t 1)⟩, ⟨some 19, none, .mov (.t 7)⟩, ⟨some 20, none, .callv (.t 18) [(.t 19)]⟩, ⟨some 21, none, .un .not (.t 20)⟩] none)
 (.cond (.t 21) (.reg [⟨some 22, none, .mov (.t 7)⟩, ⟨some 23, none, .bin .add (.t 22) (.c (.int .i64 1))⟩, ⟨some 5, none, .mov (.t 23)⟩] none) (.reg [⟨some 24, none, .mov (.t 7)⟩, ⟨some 6, none, .mov (.t 24)⟩] none))))))))
 (.seq (.reg [⟨some 25, none, .mov (.t 5)⟩, ⟨some 4, none, .mov (.t 25)⟩] none)
 .ret))))
theorem f143 : FnIs Tryz.prog 143 26 c143 [.tmp 4] := ⟨_, Tryz.func143, rfl, by kernel_rfl, rfl⟩
def c145 : AC := (.seq (.reg [⟨some 4, none, .mov (.c (.bool false))⟩] none)
 (.seq (.reg [⟨some 5, none, .faddr 1 (.t 1)⟩, ⟨some 6, none, .load none (.t 5)⟩, ⟨some 7, none, .mov (.t 0)⟩, ⟨some 8, none, .iaddr 1 (.t 6) (.t 7)⟩, ⟨some 9, none, .load none (.t 8)⟩, ⟨some 10, none, .load none (.t 2)⟩, ⟨some 11, none, .bin .geq (.t 9) (.t 10)⟩, ⟨some 4, none, .mov (.t 11)⟩] (some [(1, 5), (4, 5)]))
 .ret))
theorem f145 : FnIs Tryz.prog 145 12 c145 [.tmp 4] := ⟨_, Tryz.func145, rfl, by kernel_rfl, rfl⟩
def c148 : AC := (.seq (.reg [⟨some 2, none, .box (.t 0)⟩, ⟨some 4, none, .mov (.c (.bool false))⟩] none)
 (.seq (.reg [⟨some 5, none, .mov (.t 1)⟩, ⟨some 6, none, .faddr 0 (.t 2)⟩, ⟨some 7, none, .load none (.t 6)⟩, ⟨some 8, none, .bin .geq (.t 5) (.t 7)⟩, ⟨some 9, none, .mov (.t 8)⟩, ⟨some 10, some (9, true), .faddr 2 (.t 2)⟩, ⟨some 11, some (9, true), .load none (.t 10)⟩, ⟨some 12, some (9, true), .mov (.t 11)⟩, ⟨some 13, some (12, false), .mov (.t 1)⟩, ⟨some 14, some (12, false), .faddr 1 (.t 2)⟩, ⟨some 15, some (12, false), .load none (.t 14)⟩, ⟨some 16, some (12, false), .bin .lss (.t 13) (.t 15)⟩, ⟨some 17, some (9, true), .pick (.t 12) (.c (.bool true)) (.t 16)⟩, ⟨some 18, none, .pick (.t 9) (.t 17) (.c (.bool false))⟩, ⟨some 4, none, .mov (.t 18)⟩] none)
 .ret))
theorem f148 : FnIs Tryz.prog 148 19 c148 [.tmp 4] := ⟨_, Tryz.func148, rfl, by kernel_rfl, rfl⟩
def c149 : AC := (.seq (.reg [⟨some 1, none, .box (.t 0)⟩, ⟨some 2, none, .mov (.c (.sl 1 [] (.exact 0)))⟩, ⟨some 3, none, .mov (.c (.int .i64 0))⟩] none)
 (.seq (.seq (.reg [⟨some 8, none, .load (some 4) (.t 1)⟩, ⟨some 9, none, .call 228 [(.t 8)]⟩, ⟨some 4, none, .mov (.t 9)⟩] none)
 (.seq (.reg [⟨some 10, none, .mov (.t 4)⟩, ⟨some 11, none, .bin .neq (.t 10) (.c (.int .i64 0))⟩] none)
 (.cond (.t 11) (.seq (.reg [⟨some 12, none, .mov (.t 4)⟩, ⟨some 2, none, .mov (.c (.sl 1 [] (.exact 0)))⟩, ⟨some 3, none, .mov (.t 12)⟩] none)
 .ret) .skip)))
 (.seq (.reg [⟨some 5, none, .mov (.c (.sl 1 [] (.exact 0)))⟩] none)
 (.seq (.seq (.reg [⟨some 13, none, .faddr 0 (.t 1)⟩, ⟨some 14, none, .load none (.t 13)⟩] none)
 (.cond (.t 14) (.reg [⟨some 15, none, .mov (.t 5)⟩, ⟨some 16, none, .buildSl 1 [(.c (.int .u8 76))]⟩, ⟨some 17, none, .app false 1 1 (.t 15) (.t 16)⟩, ⟨some 18, none, .faddr 1 (.t 1)⟩, ⟨some 19, none, .load none (.t 18)⟩, ⟨some 20, none, .len false (.t 19)⟩, ⟨some 21, none, .call 244 [(.t 17), (.t 20)]⟩, ⟨some 5, none, .mov (.t 21)⟩] (some [(1, 4), (2, 4)])) (.reg [⟨some 22, none, .mov (.t 5)⟩, ⟨some 23, none, .buildSl 1 [(.c (.int .u8 73))]⟩, ⟨some 24, none, .app false 1 1 (.t 22) (.t 23)⟩, ⟨some 25, none, .faddr 1 (.t 1)⟩, ⟨some 26, none, .load none (.t 25)⟩, ⟨some 27, none, .len false (.t 26)⟩, ⟨some 28, none, .call 244 [(.t 24), (.t 27)]⟩, ⟨some 29, none, .faddr 3 (.t 1)⟩, ⟨some 30, none, .load none (.t 29)⟩, ⟨some 31, none, .iaddr 1 (.t 30) (.c (.int .i64 0))⟩, ⟨some 32, none, .load none (.t 31)⟩, ⟨some 33, none, .call 170 [(.t 28), (.t 32)]⟩, ⟨some 5, none, .mov (.t 33)⟩] (some [(1, 4), (2, 4), (1, 8), (2, 8), (4, 8), (6, 8), (1, 10), (2, 10), (4, 10), (6, 10)]))))
 (.seq (.seq (.reg [⟨some 34, none, .faddr 1 (.t 1)⟩, ⟨some 35, none, .load none (.t 34)⟩, ⟨some 36, none, .len false (.t 35)⟩, ⟨some 37, none, .mov (.c (.int .i64 0))⟩] none)
 (.block 0 (.loop (.seq (.reg [⟨some 38, none, .bin .lss (.t 37) (.t 36)⟩] none)
 (.seq (.cond (.t 38) .skip (.exit 0))
 (.seq (.block 1 (.seq (.reg [⟨some 39, none, .mov (.t 37)⟩, ⟨some 40, none, .iaddr 1 (.t 35) (.t 37)⟩, ⟨some 41, none, .load none (.t 40)⟩, ⟨some 6, none, .mov (.t 39)⟩, ⟨some 7, none, .mov (.t 41)⟩] none)
 (.seq (.reg [⟨some 42, none, .mov (.t 5)⟩, ⟨some 43, none, .mov (.t 7)⟩, ⟨some 44, none, .len true (.t 43)⟩, ⟨some 45, none, .call 245 [(.t 42), (.t 44)]⟩, ⟨some 46, none, .mov (.t 7)⟩, ⟨some 47, none, .app true 1 1 (.t 45) (.t 46)⟩, ⟨some 5, none, .mov (.t 47)⟩] none)
 (.seq (.reg [⟨some 48, none, .faddr 0 (.t 1)⟩, ⟨some 49, none, .load none (.t 48)⟩] none)
 (.cond (.t 49) (.reg [⟨some 50, none, .mov (.t 5)⟩, ⟨some 51, none, .faddr 2 (.t 1)⟩, ⟨some 52, none, .load none (.t 51)⟩, ⟨some 53, none, .mov (.t 6)⟩, ⟨some 54, none, .iaddr 1 (.t 52) (.t 53)⟩, ⟨some 55, none, .load none (.t 54)⟩, ⟨some 56, none, .len true (.t 55)⟩, ⟨some 57, none, .call 244 [(.t 50), (.t 56)]⟩, ⟨some 58, none, .faddr 2 (.t 1)⟩, ⟨some 59, none, .load none (.t 58)⟩, ⟨some 60, none, .mov (.t 6)⟩, ⟨some 61, none, .iaddr 1 (.t 59) (.t 60)⟩, ⟨some 62, none, .load none (.t 61)⟩, ⟨some 63, none, .app true 1 1 (.t 57) (.t 62)⟩, ⟨some 5, none, .mov (.t 63)⟩] (some [(2, 9), (5, 9), (7, 9), (2, 12), (5, 12), (7, 12)])) (.reg [⟨some 64, none, .mov (.t 5)⟩, ⟨some 65, none, .faddr 3 (.t 1)⟩, ⟨some 66, none, .load none (.t 65)⟩, ⟨some 67, none, .mov (.t 6)⟩, ⟨some 68, none, .bin .add (.t 67) (.c (.int .i64 1))⟩, ⟨some 69, none, .iaddr 1 (.t 66) (.t 68)⟩, ⟨some 70, none, .load none (.t 69)⟩, ⟨some 71, none, .call 170 [(.t 64), (.t 70)]⟩, ⟨some 5, none, .mov (.t 71)⟩] none))))))
 (.reg [⟨some 72, none, .bin .add (.t 37) (.c (.int .i64 1))⟩, ⟨some 37, none, .mov (.t 72)⟩] none)))))))
 (.seq (.reg [⟨some 73, none, .mov (.t 5)⟩, ⟨some 74, none, .mov (.t 5)⟩, ⟨some 75, none, .len false (.t 74)⟩, ⟨some 76, none, .bin .sub (.c (.int .i64 1024)) (.t 75)⟩, ⟨some 77, none, .appz 1 (.int .u8 0) 1 (.t 73) (.t 76)⟩, ⟨some 2, none, .mov (.t 77)⟩, ⟨some 3, none, .mov (.c (.int .i64 0))⟩] none)
 .ret))))))
theorem f149 : FnIs Tryz.prog 149 78 c149 [.tmp 2, .tmp 3] := ⟨_, Tryz.func149, rfl, by kernel_rfl, rfl⟩
def c150 : AC := (.seq (.reg [⟨some 4, none, .mov (.c (.int .i64 0))⟩, ⟨some 5, none, .mov (.c (.int .i64 0))⟩] none)
 (.seq (.block 0 (.seq (.reg [⟨some 10, none, .mov (.t 0)⟩, ⟨some 11, none, .call 129 [(.t 10)]⟩, ⟨some 12, none, .un .not (.t 11)⟩, ⟨some 9, none, .mov (.t 12)⟩] none)
 (.cond (.t 9) (.seq (.reg [⟨some 4, none, .mov (.c (.int .i64 0))⟩, ⟨some 5, none, .mov (.c (.int .i64 1))⟩] none)
 .ret) (.seq (.reg [⟨some 14, none, .mov (.t 1)⟩, ⟨some 15, none, .len false (.t 14)⟩, ⟨some 16, none, .bin .gtr (.t 15) (.c (.int .i64 1024))⟩, ⟨some 13, none, .mov (.t 16)⟩] none)
 (.cond (.t 13) (.seq (.reg [⟨some 4, none, .mov (.c (.int .i64 0))⟩, ⟨some 5, none, .mov (.c (.int .i64 5))⟩] none)
 .ret) .skip)))))
 (.seq (.reg [⟨some 18, none, .mov (.t 0)⟩, ⟨some 19, none, .nilck (.t 18)⟩, ⟨some 20, none, .faddr 0 (.t 19)⟩, ⟨some 21, none, .load none (.t 20)⟩, ⟨some 22, none, .call 246 [(.t 21), (.c (.int .i64 1))]⟩, ⟨some 17, none, .mov (.t 22)⟩, ⟨some 23, none, .ext (.t 17) 0⟩, ⟨some 24, none, .ext (.t 17) 1⟩, ⟨some 6, none, .mov (.t 23)⟩, ⟨some 7, none, .mov (.t 24)⟩] none)
 (.seq (.seq (.reg [⟨some 25, none, .mov (.t 7)⟩, ⟨some 26, none, .bin .neq (.t 25) (.c (.int .i64 0))⟩] none)
 (.cond (.t 26) (.seq (.reg [⟨some 27, none, .mov (.t 7)⟩, ⟨some 4, none, .mov (.c (.int .i64 0))⟩, ⟨some 5, none, .mov (.t 27)⟩] none)
 .ret) .skip))
 (.seq (.seq (.reg [⟨some 28, none, .mov (.t 0)⟩, ⟨some 29, none, .mov (.t 6)⟩, ⟨some 30, none, .mov (.t 1)⟩, ⟨some 31, none, .call 247 [(.t 28), (.t 29), (.t 30)]⟩, ⟨some 8, none, .mov (.t 31)⟩] none)
 (.seq (.reg [⟨some 32, none, .mov (.t 8)⟩, ⟨some 33, none, .bin .neq (.t 32) (.c (.int .i64 0))⟩] none)
 (.cond (.t 33) (.seq (.reg [⟨some 34, none, .mov (.t 0)⟩, ⟨some 35, none, .nilck (.t 34)⟩, ⟨some 36, none, .faddr 0 (.t 35)⟩, ⟨some 37, none, .load none (.t 36)⟩, ⟨some 38, none, .mov (.t 6)⟩, ⟨some 39, none, .call 248 [(.t 37), (.t 38), (.c (.int .i64 1))]⟩] none)
 (.seq (.reg [⟨some 40, none, .mov (.t 8)⟩, ⟨some 4, none, .mov (.c (.int .i64 0))⟩, ⟨some 5, none, .mov (.t 40)⟩] none)
 .ret)) .skip)))
 (.seq (.reg [⟨some 41, none, .mov (.t 0)⟩, ⟨some 42, none, .nilck (.t 41)⟩, ⟨some 43, none, .faddr 3 (.t 42)⟩, ⟨some 44, none, .load none (.t 43)⟩, ⟨some 45, none, .mov (.t 6)⟩, ⟨some 46, none, .iaddr 1 (.t 44) (.t 45)⟩, ⟨none, none, .store 1 (.t 46) (.c (.int .i64 2))⟩] none)
 (.seq (.reg [⟨some 47, none, .mov (.t 6)⟩, ⟨some 4, none, .mov (.t 47)⟩, ⟨some 5, none, .mov (.c (.int .i64 0))⟩] none)
 .ret)))))))
theorem f150 : FnIs Tryz.prog 150 48 c150 [.tmp 4, .tmp 5] := ⟨_, Tryz.func150, rfl, by kernel_rfl, rfl⟩
def c151 : AC := (.seq (.reg [⟨some 3, none, .box (.t 0)⟩, ⟨some 6, none, .alloc [.bool false, .sl 1 [] (.exact 0), .sl 1 [] (.exact 0), .sl 1 [] (.exact 0)]⟩, ⟨some 7, none, .mov (.c (.int .i64 0))⟩] none)
 (.seq (.seq (.reg [⟨some 11, none, .load (some 4) (.t 3)⟩, ⟨some 12, none, .call 142 [(.t 11)]⟩, ⟨some 13, none, .un .not (.t 12)⟩, ⟨some 14, none, .mov (.t 13)⟩, ⟨some 15, some (14, false), .faddr 0 (.t 3)⟩, ⟨some 16, some (14, false), .load none (.t 15)⟩, ⟨some 17, some (14, false), .un .not (.t 16)⟩, ⟨some 18, none, .pick (.t 14) (.c (.bool true)) (.t 17)⟩, ⟨some 19, none, .mov (.t 18)⟩, ⟨some 20, some (19, false), .mov (.t 1)⟩, ⟨some 21, some (19, false), .len true (.t 20)⟩, ⟨some 22, some (19, false), .bin .gtr (.t 21) (.c (.int .i64 128))⟩, ⟨some 23, none, .pick (.t 19) (.c (.bool true)) (.t 22)⟩, ⟨some 24, none, .mov (.t 23)⟩, ⟨some 25, some (24, false), .mov (.t 2)⟩, ⟨some 26, some (24, false), .len true (.t 25)⟩, ⟨some 27, some (24, false), .bin .gtr (.t 26) (.c (.int .i64 200))⟩, ⟨some 28, none, .pick (.t 24) (.c (.bool true)) (.t 27)⟩] none)
 (.cond (.t 28) (.seq (.reg [⟨some 29, none, .build [.bool false, .sl 1 [] (.exact 0), .sl 1 [] (.exact 0), .sl 1 [] (.exact 0)] []⟩, ⟨none, none, .store 4 (.t 6) (.t 29)⟩, ⟨some 7, none, .mov (.c (.int .i64 2))⟩] none)
 .ret) .skip))
 (.seq (.reg [⟨some 31, none, .load (some 4) (.t 3)⟩, ⟨some 32, none, .mov (.t 1)⟩, ⟨some 33, none, .call 54 [(.t 31), (.t 32)]⟩, ⟨some 30, none, .mov (.t 33)⟩, ⟨some 34, none, .ext (.t 30) 0⟩, ⟨some 35, none, .ext (.t 30) 1⟩, ⟨some 8, none, .mov (.t 34)⟩, ⟨some 9, none, .mov (.t 35)⟩] none)
 (.seq (.seq (.reg [⟨some 36, none, .mov (.t 9)⟩] none)
 (.cond (.t 36) (.seq (.reg [⟨some 37, none, .faddr 1 (.t 3)⟩, ⟨some 38, none, .load none (.t 37)⟩, ⟨some 39, none, .call 208 [(.t 38)]⟩, ⟨some 40, none, .faddr 2 (.t 3)⟩, ⟨some 41, none, .load none (.t 40)⟩, ⟨some 42, none, .call 208 [(.t 41)]⟩, ⟨some 43, none, .build [.bool false, .sl 1 [] (.exact 0), .sl 1 [] (.exact 0), .sl 1 [] (.exact 0)] [(0, 1, (.c (.bool true))), (1, 1, (.t 39)), (2, 1, (.t 42))]⟩, ⟨some 10, none, .alloc [.bool false, .sl 1 [] (.exact 0), .sl 1 [] (.exact 0), .sl 1 [] (.exact 0)]⟩, ⟨none, none, .store 4 (.t 10) (.t 43)⟩] (some [(1, 4), (2, 4), (1, 7), (2, 7), (4, 7), (5, 7)]))
 (.seq (.reg [⟨some 44, none, .faddr 2 (.t 10)⟩, ⟨some 45, none, .load none (.t 44)⟩, ⟨some 46, none, .mov (.t 8)⟩, ⟨some 47, none, .mov (.t 2)⟩, ⟨some 48, none, .iaddr 1 (.t 45) (.t 46)⟩, ⟨none, none, .store 1 (.t 48) (.t 47)⟩] none)
 (.seq (.reg [⟨some 49, none, .load (some 4) (.t 10)⟩, ⟨none, none, .store 4 (.t 6) (.t 49)⟩, ⟨some 7, none, .mov (.c (.int .i64 0))⟩] none)
 .ret))) .skip))
 (.seq (.reg [⟨some 50, none, .faddr 1 (.t 3)⟩, ⟨some 51, none, .load none (.t 50)⟩, ⟨some 52, none, .mov (.t 8)⟩, ⟨some 53, none, .mov (.t 1)⟩, ⟨some 54, none, .call 249 [(.t 51), (.t 52), (.t 53)]⟩, ⟨some 55, none, .faddr 2 (.t 3)⟩, ⟨some 56, none, .load none (.t 55)⟩, ⟨some 57, none, .mov (.t 8)⟩, ⟨some 58, none, .mov (.t 2)⟩, ⟨some 59, none, .call 249 [(.t 56), (.t 57), (.t 58)]⟩, ⟨some 60, none, .build [.bool false, .sl 1 [] (.exact 0), .sl 1 [] (.exact 0), .sl 1 [] (.exact 0)] [(0, 1, (.c (.bool true))), (1, 1, (.t 54)), (2, 1, (.t 59))]⟩, ⟨none, none, .store 4 (.t 6) (.t 60)⟩, ⟨some 7, none, .mov (.c (.int .i64 0))⟩] (some [(1, 6), (4, 6)]))
 .ret)))))
theorem f151 : FnIs Tryz.prog 151 61 c151 [.cell 6 (some 4), .tmp 7] := ⟨_, Tryz.func151, rfl, by kernel_rfl, rfl⟩
def c152 : AC := (.seq (.reg [⟨some 5, none, .box (.t 2)⟩, ⟨some 6, none, .mov (.c (.int .i64 0))⟩, ⟨some 7, none, .alloc [.str [], .int .i64 0]⟩] none)
 (.seq (.seq (.reg [⟨some 13, none, .load (some 4) (.t 5)⟩, ⟨some 14, none, .call 250 [(.t 13)]⟩, ⟨some 15, none, .bin .leq (.t 14) (.c (.int .i64 1024))⟩] none)
 (.cond (.t 15) (.seq (.reg [⟨some 16, none, .mov (.t 0)⟩, ⟨some 17, none, .mov (.t 1)⟩, ⟨some 18, none, .load (some 4) (.t 5)⟩, ⟨some 19, none, .call 157 [(.t 16), (.t 17), (.t 18)]⟩, ⟨some 20, none, .call 153 []⟩, ⟨some 6, none, .mov (.t 19)⟩, ⟨none, none, .store 2 (.t 7) (.t 20)⟩] none)
 .ret) .skip))
 (.seq (.reg [⟨some 22, none, .load (some 4) (.t 5)⟩, ⟨some 23, none, .call 251 [(.t 22)]⟩, ⟨some 21, none, .mov (.t 23)⟩, ⟨some 24, none, .ext (.t 21) 0⟩, ⟨some 25, none, .ext (.t 21) 1⟩, ⟨some 26, none, .ext (.t 21) 2⟩, ⟨some 27, none, .ext (.t 21) 3⟩, ⟨some 8, none, .alloc [.bool false, .sl 1 [] (.exact 0), .sl 1 [] (.exact 0), .sl 1 [] (.exact 0)]⟩, ⟨some 10, none, .alloc [.bool false, .sl 1 [] (.exact 0), .sl 1 [] (.exact 0), .sl 1 [] (.exact 0)]⟩, ⟨none, none, .store 4 (.t 8) (.t 24)⟩, ⟨some 9, none, .mov (.t 25)⟩, ⟨none, none, .store 4 (.t 10) (.t 26)⟩, ⟨some 11, none, .mov (.t 27)⟩] none)
 (.seq (.reg [⟨some 28, none, .mov (.t 0)⟩, ⟨some 29, none, .mov (.t 1)⟩, ⟨some 30, none, .load (some 4) (.t 8)⟩, ⟨some 31, none, .call 157 [(.t 28), (.t 29), (.t 30)]⟩, ⟨some 12, none, .mov (.t 31)⟩] none)
 (.seq (.reg [⟨some 32, none, .mov (.t 12)⟩, ⟨some 33, none, .mov (.t 9)⟩, ⟨some 34, none, .mov (.t 0)⟩, ⟨some 35, none, .load (some 4) (.t 10)⟩, ⟨some 36, none, .call 64 [(.t 34), (.t 35)]⟩, ⟨some 37, none, .build [.str [], .int .i64 0] [(0, 1, (.t 33)), (1, 1, (.t 36))]⟩, ⟨some 6, none, .mov (.t 32)⟩, ⟨none, none, .store 2 (.t 7) (.t 37)⟩] none)
 .ret)))))
theorem f152 : FnIs Tryz.prog 152 38 c152 [.tmp 6, .cell 7 (some 2)] := ⟨_, Tryz.func152, rfl, by kernel_rfl, rfl⟩
def c153 : AC := (.seq (.reg [⟨some 0, none, .alloc [.str [], .int .i64 0]⟩] none)
 (.seq (.reg [⟨some 1, none, .build [.str [], .int .i64 0] [(1, 1, (.c (.int .i64 (-1))))]⟩, ⟨none, none, .store 2 (.t 0) (.t 1)⟩] none)
 .ret))
theorem f153 : FnIs Tryz.prog 153 2 c153 [.cell 0 (some 2)] := ⟨_, Tryz.func153, rfl, by kernel_rfl, rfl⟩
def c156 : AC := (.seq (.reg [⟨some 2, none, .box (.t 0)⟩, ⟨some 4, none, .alloc [.bool false, .sl 1 [] (.exact 0), .sl 1 [] (.exact 0), .sl 1 [] (.exact 0)]⟩, ⟨some 5, none, .mov (.c (.bool false))⟩] none)
 (.seq (.reg [⟨some 9, none, .load (some 4) (.t 2)⟩, ⟨some 10, none, .mov (.t 1)⟩, ⟨some 11, none, .call 54 [(.t 9), (.t 10)]⟩, ⟨some 8, none, .mov (.t 11)⟩, ⟨some 12, none, .ext (.t 8) 0⟩, ⟨some 13, none, .ext (.t 8) 1⟩, ⟨some 6, none, .mov (.t 12)⟩, ⟨some 7, none, .mov (.t 13)⟩] none)
 (.seq (.seq (.reg [⟨some 14, none, .mov (.t 7)⟩, ⟨some 15, none, .un .not (.t 14)⟩] none)
 (.cond (.t 15) (.seq (.reg [⟨some 16, none, .build [.bool false, .sl 1 [] (.exact 0), .sl 1 [] (.exact 0), .sl 1 [] (.exact 0)] []⟩, ⟨none, none, .store 4 (.t 4) (.t 16)⟩, ⟨some 5, none, .mov (.c (.bool false))⟩] none)
 .ret) .skip))
 (.seq (.reg [⟨some 17, none, .faddr 1 (.t 2)⟩, ⟨some 18, none, .load none (.t 17)⟩, ⟨some 19, none, .mov (.t 6)⟩, ⟨some 20, none, .call 256 [(.t 18), (.t 19)]⟩, ⟨some 21, none, .faddr 2 (.t 2)⟩, ⟨some 22, none, .load none (.t 21)⟩, ⟨some 23, none, .mov (.t 6)⟩, ⟨some 24, none, .call 256 [(.t 22), (.t 23)]⟩, ⟨some 25, none, .build [.bool false, .sl 1 [] (.exact 0), .sl 1 [] (.exact 0), .sl 1 [] (.exact 0)] [(0, 1, (.c (.bool true))), (1, 1, (.t 20)), (2, 1, (.t 24))]⟩, ⟨none, none, .store 4 (.t 4) (.t 25)⟩, ⟨some 5, none, .mov (.c (.bool true))⟩] (some [(1, 5), (3, 5)]))
 .ret))))
theorem f156 : FnIs Tryz.prog 156 26 c156 [.cell 4 (some 4), .tmp 5] := ⟨_, Tryz.func156, rfl, by kernel_rfl, rfl⟩
def c157 : AC := (.seq (.reg [⟨some 5, none, .box (.t 2)⟩, ⟨some 6, none, .mov (.c (.int .i64 0))⟩] none)
 (.seq (.reg [⟨some 11, none, .load (some 4) (.t 5)⟩, ⟨some 12, none, .call 149 [(.t 11)]⟩, ⟨some 10, none, .mov (.t 12)⟩, ⟨some 13, none, .ext (.t 10) 0⟩, ⟨some 14, none, .ext (.t 10) 1⟩, ⟨some 7, none, .mov (.t 13)⟩, ⟨some 8, none, .mov (.t 14)⟩] none)
 (.seq (.reg [⟨some 15, none, .mov (.t 8)⟩, ⟨some 16, none, .call 68 [(.t 15)]⟩] none)
 (.seq (.seq (.reg [⟨some 17, none, .mov (.t 0)⟩, ⟨some 18, none, .nilck (.t 17)⟩, ⟨some 19, none, .faddr 0 (.t 18)⟩, ⟨some 20, none, .load none (.t 19)⟩, ⟨some 21, none, .mov (.t 1)⟩, ⟨some 22, none, .mov (.t 7)⟩, ⟨some 23, none, .call 257 [(.t 20), (.t 21), (.t 22)]⟩, ⟨some 8, none, .mov (.t 23)⟩] none)
 (.seq (.reg [⟨some 24, none, .mov (.t 8)⟩, ⟨some 25, none, .bin .eql (.t 24) (.c (.int .i64 0))⟩] none)
 (.cond (.t 25) (.seq (.reg [⟨some 26, none, .mov (.t 1)⟩, ⟨some 6, none, .mov (.t 26)⟩] none)
 .ret) .skip)))
 (.seq (.seq (.reg [⟨some 27, none, .mov (.t 8)⟩, ⟨some 28, none, .bin .neq (.t 27) (.c (.int .i64 7))⟩] none)
 (.cond (.t 28) (.reg [⟨some 29, none, .mov (.t 8)⟩, ⟨some 30, none, .ifc 26 (.t 29)⟩, ⟨none, none, .pan (.t 30)⟩] none) .skip))
 (.seq (.reg [⟨some 31, none, .mov (.t 0)⟩, ⟨some 32, none, .load (some 4) (.t 5)⟩, ⟨some 33, none, .call 64 [(.t 31), (.t 32)]⟩, ⟨some 9, none, .mov (.t 33)⟩] none)
 (.seq (.reg [⟨some 34, none, .mov (.t 0)⟩, ⟨some 35, none, .nilck (.t 34)⟩, ⟨some 36, none, .faddr 0 (.t 35)⟩, ⟨some 37, none, .load none (.t 36)⟩, ⟨some 38, none, .mov (.t 1)⟩, ⟨some 39, none, .call 69 [(.t 37), (.t 38)]⟩, ⟨some 40, none, .call 68 [(.t 39)]⟩] none)
 (.seq (.reg [⟨some 41, none, .mov (.t 9)⟩, ⟨some 6, none, .mov (.t 41)⟩] none)
 .ret))))))))
theorem f157 : FnIs Tryz.prog 157 42 c157 [.tmp 6] := ⟨_, Tryz.func157, rfl, by kernel_rfl, rfl⟩
def c160 : AC := (.seq (.reg [⟨some 4, none, .mov (.t 0)⟩, ⟨some 5, none, .nilck (.t 4)⟩, ⟨some 6, none, .faddr 0 (.t 5)⟩, ⟨some 7, none, .load none (.t 6)⟩, ⟨some 8, none, .mov (.t 1)⟩, ⟨some 9, none, .call 248 [(.t 7), (.t 8), (.c (.int .i64 1))]⟩] none)
 (.reg [⟨some 10, none, .mov (.t 0)⟩, ⟨some 11, none, .nilck (.t 10)⟩, ⟨some 12, none, .faddr 3 (.t 11)⟩, ⟨some 13, none, .load none (.t 12)⟩, ⟨some 14, none, .mov (.t 1)⟩, ⟨some 15, none, .iaddr 1 (.t 13) (.t 14)⟩, ⟨none, none, .store 1 (.t 15) (.c (.int .i64 0))⟩] none))
theorem f160 : FnIs Tryz.prog 160 16 c160 [] := ⟨_, Tryz.func160, rfl, by kernel_rfl, rfl⟩
def c162 : AC := (.seq (.reg [⟨some 2, none, .mov (.c (.bool false))⟩] none)
 (.seq (.reg [⟨some 3, none, .mov (.t 0)⟩, ⟨some 4, none, .eqP true (.t 3) (.c (.sc (.pointer none)))⟩, ⟨some 5, none, .mov (.t 4)⟩, ⟨some 6, some (5, true), .mov (.t 0)⟩, ⟨some 7, some (5, true), .nilck (.t 6)⟩, ⟨some 8, some (5, true), .faddr 0 (.t 7)⟩, ⟨some 9, some (5, true), .load none (.t 8)⟩, ⟨some 10, some (5, true), .len false (.t 9)⟩, ⟨some 11, some (5, true), .bin .gtr (.t 10) (.c (.int .i64 0))⟩, ⟨some 12, none, .pick (.t 5) (.t 11) (.c (.bool false))⟩, ⟨some 2, none, .mov (.t 12)⟩] none)
 .ret))
theorem f162 : FnIs Tryz.prog 162 13 c162 [.tmp 2] := ⟨_, Tryz.func162, rfl, by kernel_rfl, rfl⟩
def c173 : AC := (.seq (.reg [⟨some 4, none, .mov (.c (.int .i64 0))⟩] none)
 (.seq (.seq (.reg [⟨some 6, none, .mov (.t 0)⟩, ⟨some 7, none, .call 175 [(.t 6)]⟩, ⟨some 5, none, .mov (.t 7)⟩] none)
 (.seq (.reg [⟨some 8, none, .mov (.t 5)⟩, ⟨some 9, none, .bin .neq (.t 8) (.c (.int .i64 0))⟩] none)
 (.cond (.t 9) (.seq (.reg [⟨some 10, none, .mov (.t 5)⟩, ⟨some 4, none, .mov (.t 10)⟩] none)
 .ret) .skip)))
 (.seq (.seq (.reg [⟨some 11, none, .mov (.t 1)⟩, ⟨some 12, none, .bin .lss (.t 11) (.c (.int .i64 0))⟩, ⟨some 13, none, .mov (.t 12)⟩, ⟨some 14, some (13, false), .mov (.t 1)⟩, ⟨some 15, some (13, false), .mov (.t 0)⟩, ⟨some 16, some (13, false), .nilck (.t 15)⟩, ⟨some 17, some (13, false), .faddr 0 (.t 16)⟩, ⟨some 18, some (13, false), .load none (.t 17)⟩, ⟨some 19, some (13, false), .len false (.t 18)⟩, ⟨some 20, some (13, false), .bin .geq (.t 14) (.t 19)⟩, ⟨some 21, none, .pick (.t 13) (.c (.bool true)) (.t 20)⟩] none)
 (.cond (.t 21) (.seq (.reg [⟨some 4, none, .mov (.c (.int .i64 6))⟩] none)
 .ret) .skip))
 (.seq (.reg [⟨some 4, none, .mov (.c (.int .i64 0))⟩] none)
 .ret))))
theorem f173 : FnIs Tryz.prog 173 22 c173 [.tmp 4] := ⟨_, Tryz.func173, rfl, by kernel_rfl, rfl⟩
def c174 : AC := (.seq (.reg [⟨some 2, none, .mov (.c (.int .i64 0))⟩] none)
 (.seq (.block 0 (.seq (.reg [⟨some 4, none, .mov (.t 0)⟩, ⟨some 5, none, .nilck (.t 4)⟩, ⟨some 6, none, .faddr 2 (.t 5)⟩, ⟨some 7, none, .load none (.t 6)⟩, ⟨some 8, none, .bin .eql (.t 7) (.c (.int .i64 0))⟩, ⟨some 3, none, .mov (.t 8)⟩] none)
 (.cond (.t 3) (.seq (.reg [⟨some 9, none, .mov (.t 0)⟩, ⟨some 10, none, .nilck (.t 9)⟩, ⟨some 11, none, .faddr 3 (.t 10)⟩, ⟨none, none, .store 1 (.t 11) (.c (.bool true))⟩] none)
 (.seq (.reg [⟨some 2, none, .mov (.c (.int .i64 20))⟩] none)
 .ret)) (.seq (.reg [⟨some 13, none, .mov (.t 0)⟩, ⟨some 14, none, .nilck (.t 13)⟩, ⟨some 15, none, .faddr 2 (.t 14)⟩, ⟨some 16, none, .load none (.t 15)⟩, ⟨some 17, none, .bin .gtr (.t 16) (.c (.int .i64 0))⟩, ⟨some 12, none, .mov (.t 17)⟩] none)
 (.cond (.t 12) (.reg [⟨some 18, none, .mov (.t 0)⟩, ⟨some 19, none, .nilck (.t 18)⟩, ⟨some 20, none, .faddr 2 (.t 19)⟩, ⟨some 21, none, .load none (.t 20)⟩, ⟨some 22, none, .bin .sub (.t 21) (.c (.int .i64 1))⟩, ⟨some 23, none, .nilck (.t 18)⟩, ⟨some 24, none, .faddr 2 (.t 23)⟩, ⟨none, none, .store 1 (.t 24) (.t 22)⟩] none) .skip)))))
 (.seq (.reg [⟨some 2, none, .mov (.c (.int .i64 0))⟩] none)
 .ret)))
theorem f174 : FnIs Tryz.prog 174 25 c174 [.tmp 2] := ⟨_, Tryz.func174, rfl, by kernel_rfl, rfl⟩
def c175 : AC := (.seq (.reg [⟨some 2, none, .mov (.c (.int .i64 0))⟩] none)
 (.seq (.block 0 (.seq (.reg [⟨some 4, none, .mov (.t 0)⟩, ⟨some 5, none, .call 162 [(.t 4)]⟩, ⟨some 6, none, .un .not (.t 5)⟩, ⟨some 3, none, .mov (.t 6)⟩] none)
 (.cond (.t 3) (.seq (.reg [⟨some 2, none, .mov (.c (.int .i64 1))⟩] none)
 .ret) (.seq (.reg [⟨some 8, none, .mov (.t 0)⟩, ⟨some 9, none, .nilck (.t 8)⟩, ⟨some 10, none, .faddr 3 (.t 9)⟩, ⟨some 11, none, .load none (.t 10)⟩, ⟨some 7, none, .mov (.t 11)⟩] none)
 (.cond (.t 7) (.seq (.reg [⟨some 2, none, .mov (.c (.int .i64 20))⟩] none)
 .ret) .skip)))))
 (.seq (.reg [⟨some 2, none, .mov (.c (.int .i64 0))⟩] none)
 .ret)))
theorem f175 : FnIs Tryz.prog 175 12 c175 [.tmp 2] := ⟨_, Tryz.func175, rfl, by kernel_rfl, rfl⟩
def c208 : AC := (.seq (.reg [⟨some 2, none, .mov (.c (.sl 1 [] (.exact 0)))⟩] none)
 (.seq (.seq (.reg [⟨some 3, none, .mov (.t 0)⟩, ⟨some 4, none, .eqN false (.t 3)⟩] none)
 (.cond (.t 4) (.seq (.reg [⟨some 2, none, .mov (.c (.sl 1 [] (.exact 0)))⟩] none)
 .ret) .skip))
 (.seq (.reg [⟨some 5, none, .buildSl 1 []⟩, ⟨some 6, none, .mov (.t 0)⟩, ⟨some 7, none, .app false 1 16 (.t 5) (.t 6)⟩, ⟨some 2, none, .mov (.t 7)⟩] none)
 .ret)))
theorem f208 : FnIs Tryz.prog 208 8 c208 [.tmp 2] := ⟨_, Tryz.func208, rfl, by kernel_rfl, rfl⟩
def c219 : AC := (.seq (.reg [⟨some 4, none, .mov (.c (.int .i64 0))⟩] none)
 (.seq (.seq (.reg [⟨some 6, none, .mov (.t 0)⟩, ⟨some 7, none, .len false (.t 6)⟩, ⟨some 8, none, .mov (.c (.int .i64 0))⟩] none)
 (.block 0 (.loop (.seq (.reg [⟨some 9, none, .bin .lss (.t 8) (.t 7)⟩] none)
 (.seq (.cond (.t 9) .skip (.exit 0))
 (.seq (.block 1 (.seq (.reg [⟨some 10, none, .mov (.t 8)⟩, ⟨some 5, none, .mov (.t 10)⟩] none)
 (.seq (.reg [⟨some 11, none, .mov (.t 1)⟩, ⟨some 12, none, .mov (.t 0)⟩, ⟨some 13, none, .mov (.t 5)⟩, ⟨some 14, none, .iaddr 1 (.t 12) (.t 13)⟩, ⟨some 15, none, .load none (.t 14)⟩, ⟨some 16, none, .callv (.t 11) [(.t 15)]⟩] none)
 (.cond (.t 16) (.seq (.reg [⟨some 17, none, .mov (.t 5)⟩, ⟨some 4, none, .mov (.t 17)⟩] none)
 .ret) .skip))))
 (.reg [⟨some 18, none, .bin .add (.t 8) (.c (.int .i64 1))⟩, ⟨some 8, none, .mov (.t 18)⟩] none)))))))
 (.seq (.reg [⟨some 4, none, .mov (.c (.int .i64 (-1)))⟩] none)
 .ret)))
theorem f219 : FnIs Tryz.prog 219 19 c219 [.tmp 4] := ⟨_, Tryz.func219, rfl, by kernel_rfl, rfl⟩
def c220 : AC := (.seq (.reg [⟨some 2, none, .mov (.c (.bool false))⟩] none)
 (.seq (.reg [⟨some 3, none, .mov (.t 0)⟩, ⟨some 4, none, .eqP true (.t 3) (.c (.sc (.pointer none)))⟩, ⟨some 5, none, .mov (.t 4)⟩, ⟨some 6, some (5, true), .mov (.t 0)⟩, ⟨some 7, some (5, true), .nilck (.t 6)⟩, ⟨some 8, some (5, true), .faddr 0 (.t 7)⟩, ⟨some 9, some (5, true), .load none (.t 8)⟩, ⟨some 10, some (5, true), .bin .gtr (.t 9) (.c (.int .i64 0))⟩, ⟨some 11, none, .pick (.t 5) (.t 10) (.c (.bool false))⟩, ⟨some 2, none, .mov (.t 11)⟩] none)
 .ret))
theorem f220 : FnIs Tryz.prog 220 12 c220 [.tmp 2] := ⟨_, Tryz.func220, rfl, by kernel_rfl, rfl⟩
def c221 : AC := (.seq (.reg [⟨some 4, none, .mov (.c (.bool false))⟩] none)
 (.seq (.reg [⟨some 8, none, .mov (.t 1)⟩, ⟨some 9, none, .call 296 [(.t 8)]⟩, ⟨some 7, none, .mov (.t 9)⟩, ⟨some 10, none, .ext (.t 7) 0⟩, ⟨some 11, none, .ext (.t 7) 1⟩, ⟨some 5, none, .mov (.t 10)⟩, ⟨some 6, none, .mov (.t 11)⟩] none)
 (.seq (.reg [⟨some 12, none, .mov (.t 0)⟩, ⟨some 13, none, .nilck (.t 12)⟩, ⟨some 14, none, .faddr 1 (.t 13)⟩, ⟨some 15, none, .load none (.t 14)⟩, ⟨some 16, none, .mov (.t 5)⟩, ⟨some 17, none, .iaddr 1 (.t 15) (.t 16)⟩, ⟨some 18, none, .load none (.t 17)⟩, ⟨some 19, none, .mov (.t 6)⟩, ⟨some 20, none, .bin .and (.t 18) (.t 19)⟩, ⟨some 21, none, .bin .neq (.t 20) (.c (.int .u64 0))⟩, ⟨some 4, none, .mov (.t 21)⟩] none)
 .ret)))
theorem f221 : FnIs Tryz.prog 221 22 c221 [.tmp 4] := ⟨_, Tryz.func221, rfl, by kernel_rfl, rfl⟩
def c222 : AC := (.seq (.reg [⟨some 11, none, .mov (.t 1)⟩, ⟨some 8, none, .mov (.t 11)⟩] none)
 (.block 0 (.loop (.seq (.seq (.reg [⟨some 12, none, .mov (.t 8)⟩, ⟨some 13, none, .mov (.t 1)⟩, ⟨some 14, none, .mov (.t 2)⟩, ⟨some 15, none, .bin .add (.t 13) (.t 14)⟩, ⟨some 16, none, .bin .lss (.t 12) (.t 15)⟩] none)
 (.cond (.t 16) .skip (.exit 0)))
 (.seq (.block 1 (.seq (.reg [⟨some 20, none, .mov (.t 8)⟩, ⟨some 21, none, .call 296 [(.t 20)]⟩, ⟨some 19, none, .mov (.t 21)⟩, ⟨some 22, none, .ext (.t 19) 0⟩, ⟨some 23, none, .ext (.t 19) 1⟩, ⟨some 9, none, .mov (.t 22)⟩, ⟨some 10, none, .mov (.t 23)⟩] none)
 (.seq (.reg [⟨some 24, none, .mov (.t 3)⟩] none)
 (.cond (.t 24) (.reg [⟨some 25, none, .mov (.t 0)⟩, ⟨some 26, none, .nilck (.t 25)⟩, ⟨some 27, none, .faddr 1 (.t 26)⟩, ⟨some 28, none, .load none (.t 27)⟩, ⟨some 29, none, .mov (.t 9)⟩, ⟨some 30, none, .iaddr 1 (.t 28) (.t 29)⟩, ⟨some 31, none, .load none (.t 30)⟩, ⟨some 32, none, .mov (.t 10)⟩, ⟨some 33, none, .bin .or (.t 31) (.t 32)⟩, ⟨some 34, none, .iaddr 1 (.t 28) (.t 29)⟩, ⟨none, none, .store 1 (.t 34) (.t 33)⟩] none) (.reg [⟨some 35, none, .mov (.t 0)⟩, ⟨some 36, none, .nilck (.t 35)⟩, ⟨some 37, none, .faddr 1 (.t 36)⟩, ⟨some 38, none, .load none (.t 37)⟩, ⟨some 39, none, .mov (.t 9)⟩, ⟨some 40, none, .iaddr 1 (.t 38) (.t 39)⟩, ⟨some 41, none, .load none (.t 40)⟩, ⟨some 42, none, .mov (.t 10)⟩, ⟨some 43, none, .bin .andNot (.t 41) (.t 42)⟩, ⟨some 44, none, .iaddr 1 (.t 38) (.t 39)⟩, ⟨none, none, .store 1 (.t 44) (.t 43)⟩] none)))))
 (.reg [⟨some 17, none, .mov (.t 8)⟩, ⟨some 18, none, .bin .add (.t 17) (.c (.int .i64 1))⟩, ⟨some 8, none, .mov (.t 18)⟩] none))))))
theorem f222 : FnIs Tryz.prog 222 45 c222 [] := ⟨_, Tryz.func222, rfl, by kernel_rfl, rfl⟩
def c223 : AC := (.seq (.reg [⟨some 2, none, .mov (.c (.int .i64 0))⟩] none)
 (.seq (.reg [⟨some 3, none, .mov (.t 0)⟩, ⟨some 4, none, .bin .shr (.t 3) (.c (.int .u64 1))⟩, ⟨some 5, none, .bin .and (.t 4) (.c (.int .u64 6148914691236517205))⟩, ⟨some 6, none, .mov (.t 0)⟩, ⟨some 7, none, .bin .and (.t 6) (.c (.int .u64 6148914691236517205))⟩, ⟨some 8, none, .bin .add (.t 5) (.t 7)⟩, ⟨some 0, none, .mov (.t 8)⟩] none)
 (.seq (.reg [⟨some 9, none, .mov (.t 0)⟩, ⟨some 10, none, .bin .shr (.t 9) (.c (.int .u64 2))⟩, ⟨some 11, none, .bin .and (.t 10) (.c (.int .u64 3689348814741910323))⟩, ⟨some 12, none, .mov (.t 0)⟩, ⟨some 13, none, .bin .and (.t 12) (.c (.int .u64 3689348814741910323))⟩, ⟨some 14, none, .bin .add (.t 11) (.t 13)⟩, ⟨some 0, none, .mov (.t 14)⟩] none)
 (.seq (.reg [⟨some 15, none, .mov (.t 0)⟩, ⟨some 16, none, .bin .shr (.t 15) (.c (.int .u64 4))⟩, ⟨some 17, none, .mov (.t 0)⟩, ⟨some 18, none, .bin .add (.t 16) (.t 17)⟩, ⟨some 19, none, .bin .and (.t 18) (.c (.int .u64 1085102592571150095))⟩, ⟨some 0, none, .mov (.t 19)⟩] none)
 (.seq (.reg [⟨some 20, none, .mov (.t 0)⟩, ⟨some 21, none, .mov (.t 0)⟩, ⟨some 22, none, .bin .shr (.t 21) (.c (.int .u64 8))⟩, ⟨some 23, none, .bin .add (.t 20) (.t 22)⟩, ⟨some 0, none, .mov (.t 23)⟩] none)
 (.seq (.reg [⟨some 24, none, .mov (.t 0)⟩, ⟨some 25, none, .mov (.t 0)⟩, ⟨some 26, none, .bin .shr (.t 25) (.c (.int .u64 16))⟩, ⟨some 27, none, .bin .add (.t 24) (.t 26)⟩, ⟨some 0, none, .mov (.t 27)⟩] none)
 (.seq (.reg [⟨some 28, none, .mov (.t 0)⟩, ⟨some 29, none, .mov (.t 0)⟩, ⟨some 30, none, .bin .shr (.t 29) (.c (.int .u64 32))⟩, ⟨some 31, none, .bin .add (.t 28) (.t 30)⟩, ⟨some 0, none, .mov (.t 31)⟩] none)
 (.seq (.reg [⟨some 32, none, .mov (.t 0)⟩, ⟨some 33, none, .conv (.toInt .i64) (.t 32)⟩, ⟨some 34, none, .bin .and (.t 33) (.c (.int .i64 127))⟩, ⟨some 2, none, .mov (.t 34)⟩] none)
 .ret))))))))
theorem f223 : FnIs Tryz.prog 223 35 c223 [.tmp 2] := ⟨_, Tryz.func223, rfl, by kernel_rfl, rfl⟩
def c224 : AC := (.seq (.reg [⟨some 3, none, .box (.t 1)⟩, ⟨some 4, none, .mov (.c (.sl 1 [] (.exact 0)))⟩, ⟨some 5, none, .mov (.c (.int .i64 0))⟩] none)
 (.seq (.seq (.reg [⟨some 10, none, .mov (.t 0)⟩, ⟨some 11, none, .load none (.t 3)⟩, ⟨some 12, none, .call 173 [(.t 10), (.t 11)]⟩, ⟨some 6, none, .mov (.t 12)⟩] none)
 (.seq (.reg [⟨some 13, none, .mov (.t 6)⟩, ⟨some 14, none, .bin .neq (.t 13) (.c (.int .i64 0))⟩] none)
 (.cond (.t 14) (.seq (.reg [⟨some 15, none, .mov (.t 6)⟩, ⟨some 4, none, .mov (.c (.sl 1 [] (.exact 0)))⟩, ⟨some 5, none, .mov (.t 15)⟩] none)
 .ret) .skip)))
 (.seq (.reg [⟨some 16, none, .mov (.t 0)⟩, ⟨some 17, none, .nilck (.t 16)⟩, ⟨some 18, none, .faddr 0 (.t 17)⟩, ⟨some 19, none, .load none (.t 18)⟩, ⟨some 20, none, .load none (.t 3)⟩, ⟨some 21, none, .iaddr 128 (.t 19) (.t 20)⟩, ⟨some 22, none, .load (some 128) (.t 21)⟩, ⟨some 7, none, .alloc (List.replicate 128 (.int .u8 0))⟩, ⟨none, none, .store 128 (.t 7) (.t 22)⟩] (some [(3, 4), (3, 7), (4, 7), (6, 7)]))
 (.seq (.seq (.reg [⟨some 23, none, .mov (.t 0)⟩, ⟨some 24, none, .nilck (.t 23)⟩, ⟨some 25, none, .faddr 1 (.t 24)⟩, ⟨some 26, none, .load none (.t 25)⟩, ⟨some 27, none, .call 297 [(.t 26)]⟩] none)
 (.block 0 (.rfun (.t 27) [28, 29] (.reg [⟨some 9, none, .alloc (List.replicate 128 (.int .u8 0) ++ [.int .i64 0])⟩, ⟨none, none, .store 129 (.t 9) (.t 29)⟩] none)
 (.block 1 (.seq (.reg [⟨some 30, none, .faddr 128 (.t 9)⟩, ⟨some 31, none, .load none (.t 30)⟩, ⟨some 32, none, .load none (.t 3)⟩, ⟨some 33, none, .bin .eql (.t 31) (.t 32)⟩] none)
 (.cond (.t 33) (.seq (.reg [⟨some 34, none, .faddr 0 (.t 9)⟩, ⟨some 35, none, .load (some 128) (.t 34)⟩, ⟨none, none, .store 128 (.t 7) (.t 35)⟩] none)
 (.exit 0)) .skip))))))
 (.seq (.reg [⟨some 36, none, .raw (.slp 1 128) [(.t 7), (.c (.int .i64 0)), (.c (.int .i64 128))]⟩, ⟨some 4, none, .mov (.t 36)⟩, ⟨some 5, none, .mov (.c (.int .i64 0))⟩] none)
 .ret)))))
theorem f224 : FnIs Tryz.prog 224 37 c224 [.tmp 4, .tmp 5] := ⟨_, Tryz.func224, rfl, by kernel_rfl, rfl⟩
def c225 : AC := (.seq (.reg [⟨some 4, none, .mov (.c (.int .i64 0))⟩] none)
 (.seq (.seq (.reg [⟨some 8, none, .mov (.t 0)⟩, ⟨some 9, none, .mov (.t 0)⟩, ⟨some 10, none, .nilck (.t 9)⟩, ⟨some 11, none, .faddr 2 (.t 10)⟩, ⟨some 12, none, .load none (.t 11)⟩, ⟨some 13, none, .mov (.t 12)⟩, ⟨some 14, some (13, true), .mov (.t 0)⟩, ⟨some 15, some (13, true), .nilck (.t 14)⟩, ⟨some 16, some (13, true), .faddr 0 (.t 15)⟩, ⟨some 17, some (13, true), .load none (.t 16)⟩, ⟨some 18, some (13, true), .len false (.t 17)⟩, ⟨some 19, some (13, true), .mov (.t 0)⟩, ⟨some 20, some (13, true), .nilck (.t 19)⟩, ⟨some 21, some (13, true), .faddr 1 (.t 20)⟩, ⟨some 22, some (13, true), .load none (.t 21)⟩, ⟨some 23, some (13, true), .bin .sub (.t 18) (.t 22)⟩, ⟨some 24, some (13, true), .mov (.t 1)⟩, ⟨some 25, some (13, true), .bin .geq (.t 23) (.t 24)⟩, ⟨some 26, none, .pick (.t 13) (.t 25) (.c (.bool false))⟩, ⟨some 27, none, .nilck (.t 8)⟩, ⟨some 28, none, .faddr 2 (.t 27)⟩, ⟨none, none, .store 1 (.t 28) (.t 26)⟩] (some [(9, 14)]))
 (.seq (.reg [⟨some 29, none, .mov (.t 0)⟩, ⟨some 30, none, .nilck (.t 29)⟩, ⟨some 31, none, .faddr 2 (.t 30)⟩, ⟨some 32, none, .load none (.t 31)⟩, ⟨some 33, none, .un .not (.t 32)⟩] none)
 (.cond (.t 33) (.seq (.reg [⟨some 4, none, .mov (.c (.int .i64 0))⟩] none)
 .ret) .skip)))
 (.seq (.reg [⟨some 5, none, .mov (.c (.int .i64 0))⟩] none)
 (.seq (.seq (.reg [⟨some 34, none, .mov (.t 0)⟩, ⟨some 35, none, .nilck (.t 34)⟩, ⟨some 36, none, .faddr 0 (.t 35)⟩, ⟨some 37, none, .load none (.t 36)⟩, ⟨some 38, none, .mov (.t 0)⟩, ⟨some 39, none, .nilck (.t 38)⟩, ⟨some 40, none, .faddr 1 (.t 39)⟩, ⟨some 41, none, .load none (.t 40)⟩, ⟨some 42, none, .mov (.t 0)⟩, ⟨some 43, none, .nilck (.t 42)⟩, ⟨some 44, none, .faddr 1 (.t 43)⟩, ⟨some 45, none, .load none (.t 44)⟩, ⟨some 46, none, .mov (.t 1)⟩, ⟨some 47, none, .bin .add (.t 45) (.t 46)⟩, ⟨some 48, none, .slc false 1 (.t 37) (some (.t 41)) (some (.t 47)) none⟩, ⟨some 49, none, .len false (.t 48)⟩, ⟨some 50, none, .mov (.c (.int .i64 0))⟩] (some [(3, 7), (3, 11), (7, 11)]))
 (.block 0 (.loop (.seq (.reg [⟨some 51, none, .bin .lss (.t 50) (.t 49)⟩] none)
 (.seq (.cond (.t 51) .skip (.exit 0))
 (.seq (.block 1 (.seq (.reg [⟨some 52, none, .iaddr 1 (.t 48) (.t 50)⟩, ⟨some 53, none, .load none (.t 52)⟩, ⟨some 7, none, .mov (.t 53)⟩] none)
 (.reg [⟨some 54, none, .mov (.t 5)⟩, ⟨some 55, none, .bin .shl (.t 54) (.c (.int .u64 8))⟩, ⟨some 56, none, .mov (.t 7)⟩, ⟨some 57, none, .conv (.toInt .i64) (.t 56)⟩, ⟨some 58, none, .bin .or (.t 55) (.t 57)⟩, ⟨some 5, none, .mov (.t 58)⟩] none)))
 (.reg [⟨some 59, none, .bin .add (.t 50) (.c (.int .i64 1))⟩, ⟨some 50, none, .mov (.t 59)⟩] none)))))))
 (.seq (.reg [⟨some 60, none, .mov (.t 0)⟩, ⟨some 61, none, .nilck (.t 60)⟩, ⟨some 62, none, .faddr 1 (.t 61)⟩, ⟨some 63, none, .load none (.t 62)⟩, ⟨some 64, none, .mov (.t 1)⟩, ⟨some 65, none, .bin .add (.t 63) (.t 64)⟩, ⟨some 66, none, .nilck (.t 60)⟩, ⟨some 67, none, .faddr 1 (.t 66)⟩, ⟨none, none, .store 1 (.t 67) (.t 65)⟩] none)
 (.seq (.reg [⟨some 68, none, .mov (.t 5)⟩, ⟨some 4, none, .mov (.t 68)⟩] none)
 .ret))))))
theorem f225 : FnIs Tryz.prog 225 69 c225 [.tmp 4] := ⟨_, Tryz.func225, rfl, by kernel_rfl, rfl⟩
def c226 : AC := (.seq (.reg [⟨some 4, none, .mov (.c (.str []))⟩] none)
 (.seq (.reg [⟨some 6, none, .mov (.t 0)⟩, ⟨some 7, none, .mov (.t 1)⟩, ⟨some 8, none, .call 225 [(.t 6), (.t 7)]⟩, ⟨some 5, none, .mov (.t 8)⟩] none)
 (.seq (.seq (.reg [⟨some 9, none, .mov (.t 0)⟩, ⟨some 10, none, .mov (.t 0)⟩, ⟨some 11, none, .nilck (.t 10)⟩, ⟨some 12, none, .faddr 2 (.t 11)⟩, ⟨some 13, none, .load none (.t 12)⟩, ⟨some 14, none, .mov (.t 13)⟩, ⟨some 15, some (14, true), .mov (.t 0)⟩, ⟨some 16, some (14, true), .nilck (.t 15)⟩, ⟨some 17, some (14, true), .faddr 0 (.t 16)⟩, ⟨some 18, some (14, true), .load none (.t 17)⟩, ⟨some 19, some (14, true), .len false (.t 18)⟩, ⟨some 20, some (14, true), .mov (.t 0)⟩, ⟨some 21, some (14, true), .nilck (.t 20)⟩, ⟨some 22, some (14, true), .faddr 1 (.t 21)⟩, ⟨some 23, some (14, true), .load none (.t 22)⟩, ⟨some 24, some (14, true), .bin .sub (.t 19) (.t 23)⟩, ⟨some 25, some (14, true), .mov (.t 5)⟩, ⟨some 26, some (14, true), .bin .geq (.t 24) (.t 25)⟩, ⟨some 27, none, .pick (.t 14) (.t 26) (.c (.bool false))⟩, ⟨some 28, none, .nilck (.t 9)⟩, ⟨some 29, none, .faddr 2 (.t 28)⟩, ⟨none, none, .store 1 (.t 29) (.t 27)⟩] (some [(9, 14)]))
 (.seq (.reg [⟨some 30, none, .mov (.t 0)⟩, ⟨some 31, none, .nilck (.t 30)⟩, ⟨some 32, none, .faddr 2 (.t 31)⟩, ⟨some 33, none, .load none (.t 32)⟩, ⟨some 34, none, .un .not (.t 33)⟩] none)
 (.cond (.t 34) (.seq (.reg [⟨some 4, none, .mov (.c (.str []))⟩] none)
 .ret) .skip)))
 (.seq (.reg [⟨some 35, none, .mov (.t 0)⟩, ⟨some 36, none, .nilck (.t 35)⟩, ⟨some 37, none, .faddr 1 (.t 36)⟩, ⟨some 38, none, .load none (.t 37)⟩, ⟨some 39, none, .mov (.t 5)⟩, ⟨some 40, none, .bin .add (.t 38) (.t 39)⟩, ⟨some 41, none, .nilck (.t 35)⟩, ⟨some 42, none, .faddr 1 (.t 41)⟩, ⟨none, none, .store 1 (.t 42) (.t 40)⟩] none)
 (.seq (.reg [⟨some 43, none, .mov (.t 0)⟩, ⟨some 44, none, .nilck (.t 43)⟩, ⟨some 45, none, .faddr 0 (.t 44)⟩, ⟨some 46, none, .load none (.t 45)⟩, ⟨some 47, none, .mov (.t 0)⟩, ⟨some 48, none, .nilck (.t 47)⟩, ⟨some 49, none, .faddr 1 (.t 48)⟩, ⟨some 50, none, .load none (.t 49)⟩, ⟨some 51, none, .mov (.t 5)⟩, ⟨some 52, none, .bin .sub (.t 50) (.t 51)⟩, ⟨some 53, none, .mov (.t 0)⟩, ⟨some 54, none, .nilck (.t 53)⟩, ⟨some 55, none, .faddr 1 (.t 54)⟩, ⟨some 56, none, .load none (.t 55)⟩, ⟨some 57, none, .slc false 1 (.t 46) (some (.t 52)) (some (.t 56)) none⟩, ⟨some 58, none, .conv .b2s (.t 57)⟩, ⟨some 4, none, .mov (.t 58)⟩] (some [(3, 7), (3, 13), (7, 13)]))
 .ret)))))
theorem f226 : FnIs Tryz.prog 226 59 c226 [.tmp 4] := ⟨_, Tryz.func226, rfl, by kernel_rfl, rfl⟩
def c227 : AC := (.seq (.reg [⟨some 2, none, .mov (.c (.bool false))⟩] none)
 (.seq (.reg [⟨some 3, none, .mov (.t 0)⟩, ⟨some 4, none, .bin .neq (.t 3) (.c (.int .u8 0))⟩, ⟨some 2, none, .mov (.t 4)⟩] none)
 .ret))
theorem f227 : FnIs Tryz.prog 227 5 c227 [.tmp 2] := ⟨_, Tryz.func227, rfl, by kernel_rfl, rfl⟩
def c228 : AC := (.seq (.reg [⟨some 1, none, .box (.t 0)⟩, ⟨some 2, none, .mov (.c (.int .i64 0))⟩] none)
 (.seq (.block 0 (.seq (.reg [⟨some 4, none, .load (some 4) (.t 1)⟩, ⟨some 5, none, .call 142 [(.t 4)]⟩, ⟨some 6, none, .un .not (.t 5)⟩, ⟨some 3, none, .mov (.t 6)⟩] none)
 (.cond (.t 3) (.seq (.reg [⟨some 2, none, .mov (.c (.int .i64 2))⟩] none)
 .ret) (.seq (.reg [⟨some 8, none, .load (some 4) (.t 1)⟩, ⟨some 9, none, .call 250 [(.t 8)]⟩, ⟨some 10, none, .bin .gtr (.t 9) (.c (.int .i64 1024))⟩, ⟨some 7, none, .mov (.t 10)⟩] none)
 (.cond (.t 7) (.seq (.reg [⟨some 2, none, .mov (.c (.int .i64 5))⟩] none)
 .ret) .skip)))))
 (.seq (.reg [⟨some 2, none, .mov (.c (.int .i64 0))⟩] none)
 .ret)))
theorem f228 : FnIs Tryz.prog 228 11 c228 [.tmp 2] := ⟨_, Tryz.func228, rfl, by kernel_rfl, rfl⟩
def c229 : AC := (.seq (.reg [⟨some 4, none, .mov (.c (.bool false))⟩] none)
 (.seq (.reg [⟨some 5, none, .mov (.t 0)⟩, ⟨some 6, none, .mov (.t 1)⟩, ⟨some 7, none, .call 298 [(.t 5), (.t 6)]⟩, ⟨some 8, none, .bin .geq (.t 7) (.c (.int .i64 0))⟩, ⟨some 4, none, .mov (.t 8)⟩] none)
 .ret))
theorem f229 : FnIs Tryz.prog 229 9 c229 [.tmp 4] := ⟨_, Tryz.func229, rfl, by kernel_rfl, rfl⟩
def c230 : AC := (.seq (.reg [⟨some 2, none, .mov (.c (.bool false))⟩] none)
 (.seq (.reg [⟨some 3, none, .mov (.t 0)⟩, ⟨some 4, none, .len true (.t 3)⟩, ⟨some 5, none, .bin .gtr (.t 4) (.c (.int .i64 200))⟩, ⟨some 2, none, .mov (.t 5)⟩] none)
 .ret))
theorem f230 : FnIs Tryz.prog 230 6 c230 [.tmp 2] := ⟨_, Tryz.func230, rfl, by kernel_rfl, rfl⟩
def c231 : AC := (.seq (.reg [⟨some 4, none, .mov (.c (.bool false))⟩] none)
 (.seq (.reg [⟨some 5, none, .mov (.t 0)⟩, ⟨some 6, none, .mov (.t 1)⟩, ⟨some 7, none, .call 299 [(.t 5), (.t 6)]⟩, ⟨some 8, none, .bin .geq (.t 7) (.c (.int .i64 0))⟩, ⟨some 4, none, .mov (.t 8)⟩] none)
 .ret))
theorem f231 : FnIs Tryz.prog 231 9 c231 [.tmp 4] := ⟨_, Tryz.func231, rfl, by kernel_rfl, rfl⟩
def c244 : AC := (.seq (.reg [⟨some 4, none, .mov (.c (.sl 1 [] (.exact 0)))⟩] none)
 (.seq (.reg [⟨some 5, none, .mov (.t 0)⟩, ⟨some 6, none, .mov (.t 1)⟩, ⟨some 7, none, .conv (.toInt .u16) (.t 6)⟩, ⟨some 8, none, .call 306 [(.t 5), (.t 7), (.c (.int .i64 2))]⟩, ⟨some 4, none, .mov (.t 8)⟩] none)
 .ret))
theorem f244 : FnIs Tryz.prog 244 9 c244 [.tmp 4] := ⟨_, Tryz.func244, rfl, by kernel_rfl, rfl⟩
def c245 : AC := (.seq (.reg [⟨some 4, none, .mov (.c (.sl 1 [] (.exact 0)))⟩] none)
 (.seq (.reg [⟨some 5, none, .mov (.t 0)⟩, ⟨some 6, none, .mov (.t 1)⟩, ⟨some 7, none, .conv (.toInt .u8) (.t 6)⟩, ⟨some 8, none, .call 307 [(.t 5), (.t 7), (.c (.int .i64 1))]⟩, ⟨some 4, none, .mov (.t 8)⟩] none)
 .ret))
theorem f245 : FnIs Tryz.prog 245 9 c245 [.tmp 4] := ⟨_, Tryz.func245, rfl, by kernel_rfl, rfl⟩
def c246 : AC := (.seq (.reg [⟨some 4, none, .mov (.c (.int .i64 0))⟩, ⟨some 5, none, .mov (.c (.int .i64 0))⟩] none)
 (.seq (.block 0 (.seq (.reg [⟨some 9, none, .mov (.t 0)⟩, ⟨some 10, none, .call 220 [(.t 9)]⟩, ⟨some 11, none, .un .not (.t 10)⟩, ⟨some 8, none, .mov (.t 11)⟩] none)
 (.cond (.t 8) (.seq (.reg [⟨some 4, none, .mov (.c (.int .i64 0))⟩, ⟨some 5, none, .mov (.c (.int .i64 1))⟩] none)
 .ret) (.seq (.reg [⟨some 13, none, .mov (.t 1)⟩, ⟨some 14, none, .bin .lss (.t 13) (.c (.int .i64 1))⟩, ⟨some 12, none, .mov (.t 14)⟩] none)
 (.cond (.t 12) (.seq (.reg [⟨some 4, none, .mov (.c (.int .i64 0))⟩, ⟨some 5, none, .mov (.c (.int .i64 2))⟩] none)
 .ret) .skip)))))
 (.seq (.reg [⟨some 16, none, .mov (.t 0)⟩, ⟨some 17, none, .mov (.t 1)⟩, ⟨some 18, none, .call 308 [(.t 16), (.t 17)]⟩, ⟨some 15, none, .mov (.t 18)⟩, ⟨some 19, none, .ext (.t 15) 0⟩, ⟨some 20, none, .ext (.t 15) 1⟩, ⟨some 6, none, .mov (.t 19)⟩, ⟨some 7, none, .mov (.t 20)⟩] none)
 (.seq (.seq (.reg [⟨some 21, none, .mov (.t 7)⟩, ⟨some 22, none, .un .not (.t 21)⟩] none)
 (.cond (.t 22) (.seq (.reg [⟨some 4, none, .mov (.c (.int .i64 0))⟩, ⟨some 5, none, .mov (.c (.int .i64 10))⟩] none)
 .ret) .skip))
 (.seq (.reg [⟨some 23, none, .mov (.t 0)⟩, ⟨some 24, none, .mov (.t 6)⟩, ⟨some 25, none, .mov (.t 1)⟩, ⟨some 26, none, .call 222 [(.t 23), (.t 24), (.t 25), (.c (.bool true))]⟩] none)
 (.seq (.reg [⟨some 27, none, .mov (.t 6)⟩, ⟨some 4, none, .mov (.t 27)⟩, ⟨some 5, none, .mov (.c (.int .i64 0))⟩] none)
 .ret))))))
theorem f246 : FnIs Tryz.prog 246 28 c246 [.tmp 4, .tmp 5] := ⟨_, Tryz.func246, rfl, by kernel_rfl, rfl⟩
def c247 : AC := (.seq (.reg [⟨some 6, none, .mov (.c (.int .i64 0))⟩] none)
 (.seq (.reg [⟨some 7, none, .alloc (List.replicate 1024 (.int .u8 0))⟩] none)
 (.seq (.reg [⟨some 11, none, .raw (.slp 1 1024) [(.t 7), (.c (.int .i64 0)), (.c (.int .i64 1024))]⟩, ⟨some 12, none, .mov (.t 2)⟩, ⟨some 13, none, .raw .cpy [(.t 11), (.t 12)]⟩] none)
 (.seq (.seq (.reg [⟨some 14, none, .mov (.c (.int .i64 0))⟩] none)
 (.block 0 (.loop (.seq (.reg [⟨some 15, none, .bin .lss (.t 14) (.c (.int .i64 8))⟩] none)
 (.seq (.cond (.t 15) .skip (.exit 0))
 (.seq (.block 1 (.seq (.reg [⟨some 16, none, .mov (.t 14)⟩, ⟨some 8, none, .mov (.t 16)⟩] none)
 (.seq (.reg [⟨some 17, none, .mov (.t 8)⟩, ⟨some 18, none, .bin .mul (.t 17) (.c (.int .i64 128))⟩, ⟨some 19, none, .mov (.t 8)⟩, ⟨some 20, none, .bin .add (.t 19) (.c (.int .i64 1))⟩, ⟨some 21, none, .bin .mul (.t 20) (.c (.int .i64 128))⟩, ⟨some 22, none, .raw (.slp 1 1024) [(.t 7), (.t 18), (.t 21)]⟩, ⟨some 9, none, .mov (.t 22)⟩] none)
 (.seq (.reg [⟨some 23, none, .mov (.t 0)⟩, ⟨some 24, none, .nilck (.t 23)⟩, ⟨some 25, none, .faddr 1 (.t 24)⟩, ⟨some 26, none, .load none (.t 25)⟩, ⟨some 27, none, .mov (.t 0)⟩, ⟨some 28, none, .nilck (.t 27)⟩, ⟨some 29, none, .faddr 2 (.t 28)⟩, ⟨some 30, none, .load none (.t 29)⟩, ⟨some 31, none, .mov (.t 1)⟩, ⟨some 32, none, .bin .mul (.t 31) (.c (.int .i64 8))⟩, ⟨some 33, none, .bin .add (.t 30) (.t 32)⟩, ⟨some 34, none, .mov (.t 8)⟩, ⟨some 35, none, .bin .add (.t 33) (.t 34)⟩, ⟨some 36, none, .mov (.t 9)⟩, ⟨some 37, none, .call 86 [(.t 26), (.t 35), (.t 36)]⟩, ⟨some 10, none, .mov (.t 37)⟩] (some [(3, 7)]))
 (.seq (.reg [⟨some 38, none, .mov (.t 10)⟩, ⟨some 39, none, .bin .neq (.t 38) (.c (.int .i64 0))⟩] none)
 (.cond (.t 39) (.seq (.reg [⟨some 40, none, .mov (.t 10)⟩, ⟨some 6, none, .mov (.t 40)⟩] none)
 .ret) .skip))))))
 (.reg [⟨some 41, none, .bin .add (.t 14) (.c (.int .i64 1))⟩, ⟨some 14, none, .mov (.t 41)⟩] none)))))))
 (.seq (.reg [⟨some 6, none, .mov (.c (.int .i64 0))⟩] none)
 .ret)))))
theorem f247 : FnIs Tryz.prog 247 42 c247 [.tmp 6] := ⟨_, Tryz.func247, rfl, by kernel_rfl, rfl⟩
def c248 : AC := (.seq (.reg [⟨some 6, none, .mov (.c (.int .i64 0))⟩] none)
 (.seq (.block 0 (.seq (.reg [⟨some 9, none, .mov (.t 0)⟩, ⟨some 10, none, .call 220 [(.t 9)]⟩, ⟨some 11, none, .un .not (.t 10)⟩, ⟨some 8, none, .mov (.t 11)⟩] none)
 (.cond (.t 8) (.seq (.reg [⟨some 6, none, .mov (.c (.int .i64 1))⟩] none)
 .ret) (.seq (.reg [⟨some 13, none, .mov (.t 2)⟩, ⟨some 14, none, .bin .lss (.t 13) (.c (.int .i64 1))⟩, ⟨some 12, none, .mov (.t 14)⟩] none)
 (.cond (.t 12) (.seq (.reg [⟨some 6, none, .mov (.c (.int .i64 2))⟩] none)
 .ret) (.seq (.reg [⟨some 16, none, .mov (.t 1)⟩, ⟨some 17, none, .bin .lss (.t 16) (.c (.int .i64 0))⟩, ⟨some 18, none, .mov (.t 17)⟩, ⟨some 19, some (18, false), .mov (.t 2)⟩, ⟨some 20, some (18, false), .mov (.t 0)⟩, ⟨some 21, some (18, false), .nilck (.t 20)⟩, ⟨some 22, some (18, false), .faddr 0 (.t 21)⟩, ⟨some 23, some (18, false), .load none (.t 22)⟩, ⟨some 24, some (18, false), .bin .gtr (.t 19) (.t 23)⟩, ⟨some 25, none, .pick (.t 18) (.c (.bool true)) (.t 24)⟩, ⟨some 26, none, .mov (.t 25)⟩, ⟨some 27, some (26, false), .mov (.t 1)⟩, ⟨some 28, some (26, false), .mov (.t 0)⟩, ⟨some 29, some (26, false), .nilck (.t 28)⟩, ⟨some 30, some (26, false), .faddr 0 (.t 29)⟩, ⟨some 31, some (26, false), .load none (.t 30)⟩, ⟨some 32, some (26, false), .mov (.t 2)⟩, ⟨some 33, some (26, false), .bin .sub (.t 31) (.t 32)⟩, ⟨some 34, some (26, false), .bin .gtr (.t 27) (.t 33)⟩, ⟨some 35, none, .pick (.t 26) (.c (.bool true)) (.t 34)⟩, ⟨some 15, none, .mov (.t 35)⟩] none)
 (.cond (.t 15) (.seq (.reg [⟨some 6, none, .mov (.c (.int .i64 6))⟩] none)
 .ret) .skip)))))))
 (.seq (.seq (.reg [⟨some 36, none, .mov (.t 1)⟩, ⟨some 7, none, .mov (.t 36)⟩] none)
 (.block 1 (.loop (.seq (.seq (.reg [⟨some 37, none, .mov (.t 7)⟩, ⟨some 38, none, .mov (.t 1)⟩, ⟨some 39, none, .mov (.t 2)⟩, ⟨some 40, none, .bin .add (.t 38) (.t 39)⟩, ⟨some 41, none, .bin .lss (.t 37) (.t 40)⟩] none)
 (.cond (.t 41) .skip (.exit 1)))
 (.seq (.block 2 (.seq (.reg [⟨some 44, none, .mov (.t 0)⟩, ⟨some 45, none, .mov (.t 7)⟩, ⟨some 46, none, .call 221 [(.t 44), (.t 45)]⟩, ⟨some 47, none, .un .not (.t 46)⟩] none)
 (.cond (.t 47) (.seq (.reg [⟨some 6, none, .mov (.c (.int .i64 7))⟩] none)
 .ret) .skip)))
 (.reg [⟨some 42, none, .mov (.t 7)⟩, ⟨some 43, none, .bin .add (.t 42) (.c (.int .i64 1))⟩, ⟨some 7, none, .mov (.t 43)⟩] none))))))
 (.seq (.reg [⟨some 48, none, .mov (.t 0)⟩, ⟨some 49, none, .mov (.t 1)⟩, ⟨some 50, none, .mov (.t 2)⟩, ⟨some 51, none, .call 222 [(.t 48), (.t 49), (.t 50), (.c (.bool false))]⟩] none)
 (.seq (.reg [⟨some 6, none, .mov (.c (.int .i64 0))⟩] none)
 .ret)))))
theorem f248 : FnIs Tryz.prog 248 52 c248 [.tmp 6] := ⟨_, Tryz.func248, rfl, by kernel_rfl, rfl⟩
def c249 : AC := (.seq (.reg [⟨some 6, none, .mov (.c (.sl 1 [] (.exact 0)))⟩] none)
 (.seq (.reg [⟨some 7, none, .mov (.t 0)⟩, ⟨some 8, none, .call 208 [(.t 7)]⟩, ⟨some 9, none, .mov (.t 1)⟩, ⟨some 10, none, .mov (.t 2)⟩, ⟨some 11, none, .buildSl 1 [(.t 10)]⟩, ⟨some 12, none, .call 154 [(.t 8), (.t 9), (.t 11)]⟩, ⟨some 6, none, .mov (.t 12)⟩] none)
 .ret))
theorem f249 : FnIs Tryz.prog 249 13 c249 [.tmp 6] := ⟨_, Tryz.func249, rfl, by kernel_rfl, rfl⟩
def c250 : AC := (.seq (.reg [⟨some 1, none, .box (.t 0)⟩, ⟨some 2, none, .mov (.c (.int .i64 0))⟩] none)
 (.seq (.reg [⟨some 3, none, .mov (.c (.int .i64 3))⟩, ⟨some 4, none, .mov (.c (.int .i64 3))⟩] none)
 (.seq (.seq (.reg [⟨some 9, none, .faddr 0 (.t 1)⟩, ⟨some 10, none, .load none (.t 9)⟩, ⟨some 11, none, .un .not (.t 10)⟩] none)
 (.cond (.t 11) (.reg [⟨some 3, none, .mov (.c (.int .i64 7))⟩, ⟨some 4, none, .mov (.c (.int .i64 5))⟩] none) .skip))
 (.seq (.seq (.reg [⟨some 12, none, .faddr 1 (.t 1)⟩, ⟨some 13, none, .load none (.t 12)⟩, ⟨some 14, none, .len false (.t 13)⟩, ⟨some 15, none, .mov (.c (.int .i64 0))⟩] none)
 (.block 0 (.loop (.seq (.reg [⟨some 16, none, .bin .lss (.t 15) (.t 14)⟩] none)
 (.seq (.cond (.t 16) .skip (.exit 0))
 (.seq (.block 1 (.seq (.reg [⟨some 17, none, .iaddr 1 (.t 13) (.t 15)⟩, ⟨some 18, none, .load none (.t 17)⟩, ⟨some 6, none, .mov (.t 18)⟩] none)
 (.reg [⟨some 19, none, .mov (.t 3)⟩, ⟨some 20, none, .mov (.t 4)⟩, ⟨some 21, none, .mov (.t 6)⟩, ⟨some 22, none, .len true (.t 21)⟩, ⟨some 23, none, .bin .add (.t 20) (.t 22)⟩, ⟨some 24, none, .bin .add (.t 19) (.t 23)⟩, ⟨some 3, none, .mov (.t 24)⟩] none)))
 (.reg [⟨some 25, none, .bin .add (.t 15) (.c (.int .i64 1))⟩, ⟨some 15, none, .mov (.t 25)⟩] none)))))))
 (.seq (.seq (.reg [⟨some 26, none, .faddr 0 (.t 1)⟩, ⟨some 27, none, .load none (.t 26)⟩] none)
 (.cond (.t 27) (.seq (.reg [⟨some 28, none, .faddr 2 (.t 1)⟩, ⟨some 29, none, .load none (.t 28)⟩, ⟨some 30, none, .len false (.t 29)⟩, ⟨some 31, none, .mov (.c (.int .i64 0))⟩] none)
 (.block 2 (.loop (.seq (.reg [⟨some 32, none, .bin .lss (.t 31) (.t 30)⟩] none)
 (.seq (.cond (.t 32) .skip (.exit 2))
 (.seq (.block 3 (.seq (.reg [⟨some 33, none, .iaddr 1 (.t 29) (.t 31)⟩, ⟨some 34, none, .load none (.t 33)⟩, ⟨some 8, none, .mov (.t 34)⟩] none)
 (.reg [⟨some 35, none, .mov (.t 3)⟩, ⟨some 36, none, .mov (.t 8)⟩, ⟨some 37, none, .len true (.t 36)⟩, ⟨some 38, none, .bin .add (.t 35) (.t 37)⟩, ⟨some 3, none, .mov (.t 38)⟩] none)))
 (.reg [⟨some 39, none, .bin .add (.t 31) (.c (.int .i64 1))⟩, ⟨some 31, none, .mov (.t 39)⟩] none))))))) .skip))
 (.seq (.reg [⟨some 40, none, .mov (.t 3)⟩, ⟨some 2, none, .mov (.t 40)⟩] none)
 .ret))))))
theorem f250 : FnIs Tryz.prog 250 41 c250 [.tmp 2] := ⟨_, Tryz.func250, rfl, by kernel_rfl, rfl⟩
def c256 : AC := (.seq (.reg [⟨some 4, none, .mov (.c (.sl 1 [] (.exact 0)))⟩] none)
 (.seq (.reg [⟨some 5, none, .mov (.t 0)⟩, ⟨some 6, none, .call 208 [(.t 5)]⟩, ⟨some 7, none, .mov (.t 1)⟩, ⟨some 8, none, .mov (.t 1)⟩, ⟨some 9, none, .bin .add (.t 8) (.c (.int .i64 1))⟩, ⟨some 10, none, .call 159 [(.t 6), (.t 7), (.t 9)]⟩, ⟨some 4, none, .mov (.t 10)⟩] none)
 .ret))
theorem f256 : FnIs Tryz.prog 256 11 c256 [.tmp 4] := ⟨_, Tryz.func256, rfl, by kernel_rfl, rfl⟩
def c257 : AC := (.seq (.reg [⟨some 6, none, .mov (.c (.int .i64 0))⟩] none)
 (.seq (.block 0 (.seq (.reg [⟨some 8, none, .mov (.t 0)⟩, ⟨some 9, none, .call 129 [(.t 8)]⟩, ⟨some 10, none, .un .not (.t 9)⟩, ⟨some 7, none, .mov (.t 10)⟩] none)
 (.cond (.t 7) (.seq (.reg [⟨some 6, none, .mov (.c (.int .i64 1))⟩] none)
 .ret) (.seq (.reg [⟨some 12, none, .mov (.t 2)⟩, ⟨some 13, none, .len false (.t 12)⟩, ⟨some 14, none, .bin .gtr (.t 13) (.c (.int .i64 1024))⟩, ⟨some 11, none, .mov (.t 14)⟩] none)
 (.cond (.t 11) (.seq (.reg [⟨some 6, none, .mov (.c (.int .i64 5))⟩] none)
 .ret) (.seq (.reg [⟨some 16, none, .mov (.t 0)⟩, ⟨some 17, none, .mov (.t 1)⟩, ⟨some 18, none, .call 130 [(.t 16), (.t 17)]⟩, ⟨some 19, none, .un .not (.t 18)⟩, ⟨some 20, none, .mov (.t 19)⟩, ⟨some 21, some (20, false), .mov (.t 0)⟩, ⟨some 22, some (20, false), .nilck (.t 21)⟩, ⟨some 23, some (20, false), .faddr 3 (.t 22)⟩, ⟨some 24, some (20, false), .load none (.t 23)⟩, ⟨some 25, some (20, false), .mov (.t 1)⟩, ⟨some 26, some (20, false), .iaddr 1 (.t 24) (.t 25)⟩, ⟨some 27, some (20, false), .load none (.t 26)⟩, ⟨some 28, some (20, false), .bin .neq (.t 27) (.c (.int .i64 2))⟩, ⟨some 29, none, .pick (.t 20) (.c (.bool true)) (.t 28)⟩, ⟨some 15, none, .mov (.t 29)⟩] none)
 (.cond (.t 15) (.seq (.reg [⟨some 6, none, .mov (.c (.int .i64 7))⟩] none)
 .ret) .skip)))))))
 (.seq (.reg [⟨some 30, none, .mov (.t 0)⟩, ⟨some 31, none, .mov (.t 1)⟩, ⟨some 32, none, .mov (.t 2)⟩, ⟨some 33, none, .call 247 [(.t 30), (.t 31), (.t 32)]⟩, ⟨some 6, none, .mov (.t 33)⟩] none)
 .ret)))
theorem f257 : FnIs Tryz.prog 257 34 c257 [.tmp 6] := ⟨_, Tryz.func257, rfl, by kernel_rfl, rfl⟩
def c296 : AC := (.seq (.reg [⟨some 2, none, .mov (.c (.int .i64 0))⟩, ⟨some 3, none, .mov (.c (.int .u64 0))⟩] none)
 (.seq (.reg [⟨some 4, none, .mov (.t 0)⟩, ⟨some 5, none, .bin .quo (.t 4) (.c (.int .i64 64))⟩, ⟨some 6, none, .mov (.t 0)⟩, ⟨some 7, none, .bin .rem (.t 6) (.c (.int .i64 64))⟩, ⟨some 8, none, .bin .shl (.c (.int .u64 1)) (.t 7)⟩, ⟨some 2, none, .mov (.t 5)⟩, ⟨some 3, none, .mov (.t 8)⟩] (some []))
 .ret))
theorem f296 : FnIs Tryz.prog 296 9 c296 [.tmp 2, .tmp 3] := ⟨_, Tryz.func296, rfl, by kernel_rfl, rfl⟩
def c297 : AC := (.seq (.reg [⟨some 1, none, .box (.t 0)⟩, ⟨some 2, none, .mov (.c (.sc .nilFunc))⟩] none)
 (.seq (.reg [⟨some 3, none, .mkfn (.func 354) [] [(.t 1)]⟩, ⟨some 2, none, .mov (.t 3)⟩] none)
 .ret))
theorem f297 : FnIs Tryz.prog 297 4 c297 [.tmp 2] := ⟨_, Tryz.func297, rfl, by kernel_rfl, rfl⟩
def c298 : AC := (.seq (.reg [⟨some 4, none, .mov (.c (.int .i64 0))⟩] none)
 (.seq (.seq (.reg [⟨some 6, none, .mov (.t 0)⟩, ⟨some 7, none, .len false (.t 6)⟩, ⟨some 8, none, .mov (.c (.int .i64 0))⟩] none)
 (.block 0 (.loop (.seq (.reg [⟨some 9, none, .bin .lss (.t 8) (.t 7)⟩] none)
 (.seq (.cond (.t 9) .skip (.exit 0))
 (.seq (.block 1 (.seq (.reg [⟨some 10, none, .mov (.t 8)⟩, ⟨some 5, none, .mov (.t 10)⟩] none)
 (.seq (.reg [⟨some 11, none, .mov (.t 1)⟩, ⟨some 12, none, .mov (.t 0)⟩, ⟨some 13, none, .mov (.t 5)⟩, ⟨some 14, none, .iaddr 1 (.t 12) (.t 13)⟩, ⟨some 15, none, .load none (.t 14)⟩, ⟨some 16, none, .callv (.t 11) [(.t 15)]⟩] none)
 (.cond (.t 16) (.seq (.reg [⟨some 17, none, .mov (.t 5)⟩, ⟨some 4, none, .mov (.t 17)⟩] none)
 .ret) .skip))))
 (.reg [⟨some 18, none, .bin .add (.t 8) (.c (.int .i64 1))⟩, ⟨some 8, none, .mov (.t 18)⟩] none)))))))
 (.seq (.reg [⟨some 4, none, .mov (.c (.int .i64 (-1)))⟩] none)
 .ret)))
theorem f298 : FnIs Tryz.prog 298 19 c298 [.tmp 4] := ⟨_, Tryz.func298, rfl, by kernel_rfl, rfl⟩
def c299 : AC := (.seq (.reg [⟨some 4, none, .mov (.c (.int .i64 0))⟩] none)
 (.seq (.seq (.reg [⟨some 6, none, .mov (.t 0)⟩, ⟨some 7, none, .len false (.t 6)⟩, ⟨some 8, none, .mov (.c (.int .i64 0))⟩] none)
 (.block 0 (.loop (.seq (.reg [⟨some 9, none, .bin .lss (.t 8) (.t 7)⟩] none)
 (.seq (.cond (.t 9) .skip (.exit 0))
 (.seq (.block 1 (.seq (.reg [⟨some 10, none, .mov (.t 8)⟩, ⟨some 5, none, .mov (.t 10)⟩] none)
 (.seq (.reg [⟨some 11, none, .mov (.t 1)⟩, ⟨some 12, none, .mov (.t 0)⟩, ⟨some 13, none, .mov (.t 5)⟩, ⟨some 14, none, .iaddr 1 (.t 12) (.t 13)⟩, ⟨some 15, none, .load none (.t 14)⟩, ⟨some 16, none, .callv (.t 11) [(.t 15)]⟩] none)
 (.cond (.t 16) (.seq (.reg [⟨some 17, none, .mov (.t 5)⟩, ⟨some 4, none, .mov (.t 17)⟩] none)
 .ret) .skip))))
 (.reg [⟨some 18, none, .bin .add (.t 8) (.c (.int .i64 1))⟩, ⟨some 8, none, .mov (.t 18)⟩] none)))))))
 (.seq (.reg [⟨some 4, none, .mov (.c (.int .i64 (-1)))⟩] none)
 .ret)))
theorem f299 : FnIs Tryz.prog 299 19 c299 [.tmp 4] := ⟨_, Tryz.func299, rfl, by kernel_rfl, rfl⟩
def c306 : AC := (.seq (.reg [⟨some 6, none, .mov (.c (.sl 1 [] (.exact 0)))⟩] none)
 (.seq (.seq (.reg [⟨some 8, none, .mov (.t 2)⟩, ⟨some 9, none, .bin .sub (.t 8) (.c (.int .i64 1))⟩, ⟨some 7, none, .mov (.t 9)⟩] none)
 (.block 0 (.loop (.seq (.seq (.reg [⟨some 10, none, .mov (.t 7)⟩, ⟨some 11, none, .bin .geq (.t 10) (.c (.int .i64 0))⟩] none)
 (.cond (.t 11) .skip (.exit 0)))
 (.seq (.block 1 (.reg [⟨some 14, none, .mov (.t 0)⟩, ⟨some 15, none, .mov (.t 1)⟩, ⟨some 16, none, .conv (.toInt .u64) (.t 15)⟩, ⟨some 17, none, .mov (.t 7)⟩, ⟨some 18, none, .bin .mul (.c (.int .i64 8)) (.t 17)⟩, ⟨some 19, none, .bin .shr (.t 16) (.t 18)⟩, ⟨some 20, none, .conv (.toInt .u8) (.t 19)⟩, ⟨some 21, none, .buildSl 1 [(.t 20)]⟩, ⟨some 22, none, .app false 1 1 (.t 14) (.t 21)⟩, ⟨some 0, none, .mov (.t 22)⟩] none))
 (.reg [⟨some 12, none, .mov (.t 7)⟩, ⟨some 13, none, .bin .sub (.t 12) (.c (.int .i64 1))⟩, ⟨some 7, none, .mov (.t 13)⟩] none))))))
 (.seq (.reg [⟨some 23, none, .mov (.t 0)⟩, ⟨some 6, none, .mov (.t 23)⟩] none)
 .ret)))
theorem f306 : FnIs Tryz.prog 306 24 c306 [.tmp 6] := ⟨_, Tryz.func306, rfl, by kernel_rfl, rfl⟩
def c307 : AC := (.seq (.reg [⟨some 6, none, .mov (.c (.sl 1 [] (.exact 0)))⟩] none)
 (.seq (.seq (.reg [⟨some 8, none, .mov (.t 2)⟩, ⟨some 9, none, .bin .sub (.t 8) (.c (.int .i64 1))⟩, ⟨some 7, none, .mov (.t 9)⟩] none)
 (.block 0 (.loop (.seq (.seq (.reg [⟨some 10, none, .mov (.t 7)⟩, ⟨some 11, none, .bin .geq (.t 10) (.c (.int .i64 0))⟩] none)
 (.cond (.t 11) .skip (.exit 0)))
 (.seq (.block 1 (.reg [⟨some 14, none, .mov (.t 0)⟩, ⟨some 15, none, .mov (.t 1)⟩, ⟨some 16, none, .conv (.toInt .u64) (.t 15)⟩, ⟨some 17, none, .mov (.t 7)⟩, ⟨some 18, none, .bin .mul (.c (.int .i64 8)) (.t 17)⟩, ⟨some 19, none, .bin .shr (.t 16) (.t 18)⟩, ⟨some 20, none, .conv (.toInt .u8) (.t 19)⟩, ⟨some 21, none, .buildSl 1 [(.t 20)]⟩, ⟨some 22, none, .app false 1 1 (.t 14) (.t 21)⟩, ⟨some 0, none, .mov (.t 22)⟩] none))
 (.reg [⟨some 12, none, .mov (.t 7)⟩, ⟨some 13, none, .bin .sub (.t 12) (.c (.int .i64 1))⟩, ⟨some 7, none, .mov (.t 13)⟩] none))))))
 (.seq (.reg [⟨some 23, none, .mov (.t 0)⟩, ⟨some 6, none, .mov (.t 23)⟩] none)
 .ret)))
theorem f307 : FnIs Tryz.prog 307 24 c307 [.tmp 6] := ⟨_, Tryz.func307, rfl, by kernel_rfl, rfl⟩
def c308 : AC := (.seq (.reg [⟨some 4, none, .mov (.c (.int .i64 0))⟩, ⟨some 5, none, .mov (.c (.bool false))⟩] none)
 (.scope (.seq (.reg [⟨some 6, none, .mov (.c (.int .i64 0))⟩] none)
 (.seq (.label 0)
 (.seq (.block 0 (.loop (.seq (.seq (.reg [⟨some 10, none, .mov (.t 6)⟩, ⟨some 11, none, .mov (.t 0)⟩, ⟨some 12, none, .nilck (.t 11)⟩, ⟨some 13, none, .faddr 0 (.t 12)⟩, ⟨some 14, none, .load none (.t 13)⟩, ⟨some 15, none, .bin .lss (.t 10) (.t 14)⟩] none)
 (.cond (.t 15) .skip (.exit 0)))
 (.block 1 (.seq (.seq (.reg [⟨some 17, none, .mov (.t 6)⟩, ⟨some 18, none, .call 296 [(.t 17)]⟩, ⟨some 16, none, .mov (.t 18)⟩, ⟨some 19, none, .ext (.t 16) 0⟩, ⟨some 20, none, .ext (.t 16) 1⟩, ⟨some 7, none, .mov (.t 19)⟩, ⟨some 8, none, .mov (.t 20)⟩] none)
 (.seq (.reg [⟨some 21, none, .mov (.t 6)⟩, ⟨some 22, none, .bin .rem (.t 21) (.c (.int .i64 64))⟩, ⟨some 23, none, .bin .eql (.t 22) (.c (.int .i64 0))⟩, ⟨some 24, none, .mov (.t 23)⟩, ⟨some 25, some (24, true), .mov (.t 0)⟩, ⟨some 26, some (24, true), .nilck (.t 25)⟩, ⟨some 27, some (24, true), .faddr 1 (.t 26)⟩, ⟨some 28, some (24, true), .load none (.t 27)⟩, ⟨some 29, some (24, true), .mov (.t 7)⟩, ⟨some 30, some (24, true), .iaddr 1 (.t 28) (.t 29)⟩, ⟨some 31, some (24, true), .load none (.t 30)⟩, ⟨some 32, some (24, true), .bin .eql (.t 31) (.c (.int .u64 18446744073709551615))⟩, ⟨some 33, none, .pick (.t 24) (.t 32) (.c (.bool false))⟩] none)
 (.cond (.t 33) (.seq (.reg [⟨some 34, none, .mov (.t 6)⟩, ⟨some 35, none, .bin .add (.t 34) (.c (.int .i64 64))⟩, ⟨some 6, none, .mov (.t 35)⟩] none)
 (.exit 1)) .skip)))
 (.seq (.reg [⟨some 36, none, .mov (.t 0)⟩, ⟨some 37, none, .mov (.t 6)⟩, ⟨some 38, none, .mov (.t 1)⟩, ⟨some 39, none, .call 356 [(.t 36), (.t 37), (.t 38)]⟩, ⟨some 9, none, .mov (.t 39)⟩] none)
 (.seq (.seq (.reg [⟨some 40, none, .mov (.t 9)⟩, ⟨some 41, none, .mov (.t 1)⟩, ⟨some 42, none, .bin .eql (.t 40) (.t 41)⟩] none)
 (.cond (.t 42) (.seq (.reg [⟨some 43, none, .mov (.t 6)⟩, ⟨some 4, none, .mov (.t 43)⟩, ⟨some 5, none, .mov (.c (.bool true))⟩] none)
 .ret) .skip))
 (.reg [⟨some 44, none, .mov (.t 6)⟩, ⟨some 45, none, .mov (.t 9)⟩, ⟨some 46, none, .bin .add (.t 45) (.c (.int .i64 1))⟩, ⟨some 47, none, .bin .add (.t 44) (.t 46)⟩, ⟨some 6, none, .mov (.t 47)⟩] none))))))))
 (.seq (.reg [⟨some 4, none, .mov (.c (.int .i64 0))⟩, ⟨some 5, none, .mov (.c (.bool false))⟩] none)
 .ret))))))
theorem f308 : FnIs Tryz.prog 308 48 c308 [.tmp 4, .tmp 5] := ⟨_, Tryz.func308, rfl, by kernel_rfl, rfl⟩
def c354 : AC := (.seq (.reg [⟨some 4, none, .load none (.t 1)⟩, ⟨some 5, none, .len false (.t 4)⟩, ⟨some 6, none, .bin .sub (.t 5) (.c (.int .i64 1))⟩, ⟨some 3, none, .mov (.t 6)⟩] none)
 (.block 0 (.loop (.seq (.seq (.reg [⟨some 7, none, .mov (.t 3)⟩, ⟨some 8, none, .bin .geq (.t 7) (.c (.int .i64 0))⟩] none)
 (.cond (.t 8) .skip (.exit 0)))
 (.seq (.block 1 (.seq (.reg [⟨some 11, none, .mov (.t 0)⟩, ⟨some 12, none, .mov (.t 3)⟩, ⟨some 13, none, .load none (.t 1)⟩, ⟨some 14, none, .mov (.t 3)⟩, ⟨some 15, none, .iaddr 129 (.t 13) (.t 14)⟩, ⟨some 16, none, .load (some 129) (.t 15)⟩, ⟨some 17, none, .callv (.t 11) [(.t 12), (.t 16)]⟩, ⟨some 18, none, .un .not (.t 17)⟩] none)
 (.cond (.t 18) .ret .skip)))
 (.reg [⟨some 9, none, .mov (.t 3)⟩, ⟨some 10, none, .bin .sub (.t 9) (.c (.int .i64 1))⟩, ⟨some 3, none, .mov (.t 10)⟩] none))))))
theorem f354 : FnIs Tryz.prog 354 19 c354 [] := ⟨_, Tryz.func354, rfl, by kernel_rfl, rfl⟩
def c356 : AC := (.seq (.reg [⟨some 6, none, .mov (.c (.int .i64 0))⟩] none)
 (.seq (.reg [⟨some 7, none, .mov (.c (.int .i64 0))⟩] none)
 (.seq (.block 0 (.loop (.seq (.seq (.reg [⟨some 8, none, .mov (.t 7)⟩, ⟨some 9, none, .mov (.t 2)⟩, ⟨some 10, none, .bin .lss (.t 8) (.t 9)⟩, ⟨some 11, none, .mov (.t 10)⟩, ⟨some 12, some (11, true), .mov (.t 1)⟩, ⟨some 13, some (11, true), .mov (.t 7)⟩, ⟨some 14, some (11, true), .bin .add (.t 12) (.t 13)⟩, ⟨some 15, some (11, true), .mov (.t 0)⟩, ⟨some 16, some (11, true), .nilck (.t 15)⟩, ⟨some 17, some (11, true), .faddr 0 (.t 16)⟩, ⟨some 18, some (11, true), .load none (.t 17)⟩, ⟨some 19, some (11, true), .bin .lss (.t 14) (.t 18)⟩, ⟨some 20, none, .pick (.t 11) (.t 19) (.c (.bool false))⟩, ⟨some 21, none, .mov (.t 20)⟩, ⟨some 22, some (21, true), .mov (.t 0)⟩, ⟨some 23, some (21, true), .mov (.t 1)⟩, ⟨some 24, some (21, true), .mov (.t 7)⟩, ⟨some 25, some (21, true), .bin .add (.t 23) (.t 24)⟩, ⟨some 26, some (21, true), .call 221 [(.t 22), (.t 25)]⟩, ⟨some 27, some (21, true), .un .not (.t 26)⟩, ⟨some 28, none, .pick (.t 21) (.t 27) (.c (.bool false))⟩] none)
 (.cond (.t 28) .skip (.exit 0)))
 (.block 1 (.reg [⟨some 29, none, .mov (.t 7)⟩, ⟨some 30, none, .bin .add (.t 29) (.c (.int .i64 1))⟩, ⟨some 7, none, .mov (.t 30)⟩] none)))))
 (.seq (.reg [⟨some 31, none, .mov (.t 7)⟩, ⟨some 6, none, .mov (.t 31)⟩] none)
 .ret))))
theorem f356 : FnIs Tryz.prog 356 32 c356 [.tmp 6] := ⟨_, Tryz.func356, rfl, by kernel_rfl, rfl⟩
end Go.Proofs.YtehhdhadmapplaaGreat.C
end
section
set_option linter.unusedVariables false
set_option linter.unusedSimpArgs false
namespace Go.Av
section
variable {P : Program} {N : Nat}
def PanCalls (P : Program) (f : FuncId) (args : List AV) (h : H) (v : Value) (h' : H) : Prop :=
  ∀ G w vs, VRels G w args vs → RepH G h w → Fresh G h h' → Calls P f vs.toArray w fun e w' => ∃ G', e = .panicked [{ v := v, recovered := false }] ∧ Trans G w h G' w' h' ∧ RepH G' h' w'
theorem upon_pan {o : Oper} {f : FuncId} {vals : List AV} {h1 h1' : H} {v : Value} (hc : PanCalls P f vals h1 v h1') {G : Ghost} {w : World} {a : Act} {vs : List Value} (hv : VRels G w vals vs) (R : RepH G h1 w) (F : Fresh G h1 h1') {K : Act → World → Prop} {Q : Exit → Act → World → Prop} {ro : Option Nat} (hd : ∀ c, o.op ≠ .defer c)
    (hK : ∀ G' w', Trans G w h1 G' w' h1' → RepH G' h1' w' → Q (.panic [{ v := v, recovered := false }]) a w') (hrun : (execOp a.eval o).run P w = .ok (.enter f vs.toArray) w) : o.wpIn (rd ro) 0 P a w K Q := by
  refine ⟨fun _ _ => trivial, ?_⟩
  rw [Oper.semAt_eq _ _ _ hd, hrun, Oper.uponIn_enter]
  refine ⟨fun h => by simp [rd, Fence.wide] at h, callsIn_rd ?_⟩
  refine (hc G w vs hv R F).mono ?_
  rintro e w' ⟨G', rfl, T, R'⟩
  exact hK G' w' T R'
theorem panrun_call {ops : Array Oper} {i : Nat} {o : Oper} {it : AItem} {t : Tm} {f : FuncId} {l : List Opd} {vals : List AV} {h1 h1' : H} {v : Value} (ho : ops[i]? = some o) (hit : cItem P N ops o = some it) (hg : guardOf t it.guard = some true) (hop : it.op = .call f l)
    (hs : VSubs (l.map (ev t)) vals) (hc : PanCalls P f vals h1 v h1') : PanRun P ops i o t h1 v h1' := by
  unfold cItem at hit
  split at hit
  · rename_i op g hcop hgd
    split at hit <;> cases hit
    rename_i hcond
    simp only [Bool.and_eq_true] at hcond
    simp only at hop
    subst hop
    have hcop := cOpD_of hcop (by simp) rfl
    obtain ⟨c, fn, e1, e2, e3, e4, e5, e6⟩ := cOp_call hcop
    intro G w a ht R F K Q hK ro
    unfold wpOpIn
    rw [ho]
    simp only [guard_wanted hgd ht hg, if_true]
    have rr := opds_rel (P := P) (cut_rel ht) e3
    have el : l.map (ev (cutTo (names ops o) t)) = l.map (ev t) := List.map_congr_left fun x hx => cut_ev hcond.2 x (by simpa [opdsOf] using hx)
    rw [el] at rr
    refine upon_pan hc (hs G w _ rr) R F (cOp_plain hcop) hK ?_
    have hargs : (c.args.map a.eval) = (c.args.toList.map a.eval).toArray := by cases c.args; simp
    simp [execOp, e1, resolve, e2, Act.eval, Deferred.ofValue, invoke, hargs, run_callFunc w e4 e5 e6]
  · cases hit
theorem panrun_callv {ops : Array Oper} {i : Nat} {o : Oper} {it : AItem} {t : Tm} {f : FuncId} {fn : Func} {y : Opd} {l : List Opd} {first caps vals : List AV} {h1 h1' : H} {v : Value} (ho : ops[i]? = some o) (hit : cItem P N ops o = some it) (hg : guardOf t it.guard = some true) (hop : it.op = .callv y l)
    (hy : ev t y = .clo (.func f) first caps) (hf : P.funcs[f]? = some fn) (hb : fn.body.isSome = true) (hn : fn.name ≠ "runtime.NumGoroutine")
    (hs : VSubs (first ++ l.map (ev t) ++ caps) vals) (hc : PanCalls P f vals h1 v h1') : PanRun P ops i o t h1 v h1' := by
  unfold cItem at hit
  split at hit
  · rename_i op g hcop hgd
    split at hit <;> cases hit
    rename_i hcond
    simp only [Bool.and_eq_true] at hcond
    simp only at hop
    subst hop
    have hcop := cOpD_of hcop (by simp) rfl
    obtain ⟨c, z, e1, e2, e3, e4⟩ := cOp_callv hcop
    intro G w a ht R F K Q hK ro
    unfold wpOpIn
    rw [ho]
    simp only [guard_wanted hgd ht hg, if_true]
    have rr := opds_rel (P := P) (cut_rel ht) e4
    have rz := opd_rel (P := P) e3 (cut_rel ht)
    have hcut := cut_ev (t := t) hcond.2
    have el : l.map (ev (cutTo (names ops o) t)) = l.map (ev t) := List.map_congr_left fun x hx => hcut x (by simp [opdsOf, hx])
    rw [el] at rr
    rw [hcut y (by simp [opdsOf]), hy] at rz
    simp only [VRel] at rz
    obtain ⟨vs, us, q1, q2, q3⟩ := rz
    refine upon_pan hc (hs G w _ ((q2.append rr).append q3)) R F (cOp_plain hcop) hK ?_
    have hargs : (c.args.map a.eval) = (c.args.toList.map a.eval).toArray := by cases c.args; simp
    simp [execOp, e1, resolve, e2, q1, Deferred.ofValue, invoke, hargs, run_callFunc w hf hb hn]
  · cases hit
theorem cOp_pan {o : Oper} {y : Opd} (h : cOp P o = some (.pan y)) : ∃ x, o.op = .panic x ∧ opd P 0 x = some y := by
  unfold cOp at h
  split at h
  all_goals first
    | (cases h; done)
    | (simp only [Option.map_eq_some_iff, AOp.pan.injEq] at h; obtain ⟨a, h1, rfl⟩ := h; exact ⟨_, ‹_›, h1⟩)
    | (simp at h; done)
    | ((repeat' split at h) <;> (try cases h) <;> (try simp at h) ; done)
    | skip
theorem panrun_pan {ops : Array Oper} {i : Nat} {o : Oper} {it : AItem} {t : Tm} {y : Opd} {ty : TypeId} {k : IntKind} {z : Int} {n m : Nat} (ho : ops[i]? = some o) (hit : cItem P N ops o = some it) (hg : guardOf t it.guard = some true) (hop : it.op = .pan y)
    (hy : ev t y = .ifc ty (.int k z)) : PanRun P ops i o t (H0 n m) (.iface ty (.int k z)) (H0 n m) := by
  unfold cItem at hit
  split at hit
  · rename_i op g hcop hgd
    split at hit <;> cases hit
    rename_i hcond
    simp only [Bool.and_eq_true] at hcond
    simp only at hop
    subst hop
    have hcop := cOpD_of hcop (by simp) rfl
    obtain ⟨x, e1, e2⟩ := cOp_pan hcop
    intro G w a ht R F K Q hK ro
    unfold wpOpIn
    rw [ho]
    simp only [guard_wanted hgd ht hg, if_true]
    have rz := opd_rel (P := P) e2 (cut_rel ht)
    rw [cut_ev (t := t) hcond.2 y (by simp [opdsOf]), hy] at rz
    simp only [VRel] at rz
    obtain ⟨u, q1, q2⟩ := rz
    subst q2
    refine ⟨fun _ _ => trivial, ?_⟩
    have hrun : (execOp a.eval o).run P w = .halt (.panic (.iface ty (.int k z))) w := by
      simp [execOp, e1, q1, run_panic_iface]
    rw [Oper.semAt_eq _ _ _ (cOp_plain hcop), hrun, Oper.uponIn_panic]
    exact hK G w (Trans.refl _ _ _) R
  · cases hit
theorem ChainD.congr {ops : Array Oper} {D D' : Nat → Bool} {i : Nat} {recs : List Rec} {t t' : Tm} {h h' : H} (hc : ChainD P ops D i recs t h t' h') (hD : ∀ k, i ≤ k → D' k = D k) : ChainD P ops D' i recs t h t' h' := by
  induction hc with
  | nil hi => exact .nil hi
  | @cons i o r rs t t' h h' ho e1 e2 tc run rest ih => exact .cons ho e1 e2 tc (fun hf => run (by rw [← hD i (Nat.le_refl _)]; exact hf)) (ih fun k hk => hD k (by omega))
theorem chain_seqP (ro : Option Nat) {ops : Array Oper} {D : Nat → Bool} {j : Nat} {rj : Rec} {oj : Oper} {v : Value} {Q : Exit → Act → World → Prop} (hN : ∀ (i : Nat) o d, ops[i]? = some o → o.dst = some d → d < N) (hoj : ops[j]? = some oj) (hpan : PanRun P ops j oj rj.t rj.h1 v rj.h1') (hDj : D j = true) (hDk : ∀ k, D k = true → j ≤ k) :
    ∀ {i : Nat} {recs : List Rec} {t t' : Tm} {h h' : H}, i ≤ j → ChainD P ops D i recs t h t' h' → recs[j - i]? = some rj →
    ∀ (G : Ghost) (w : World) (a : Act), a.tmps.size = N → TRel G w t a → RepH G h w → Fresh G h h' →
      (∀ G' w' a', Trans G w h G' w' { rj.h' with n := h'.n, m := h'.m } → RepH G' { rj.h' with n := h'.n, m := h'.m } w' → a'.tmps.size = N → a'.defers = a.defers → Q (.panic [{ v := v, recovered := false }]) a' w') → wpOpsIn (rd ro) 0 P ops Q (List.range' i (ops.size - i)) a w := by
  intro i recs t t' h h' hij hc
  induction hc with
  | nil hi =>
    intro hr
    simp at hr
  | @cons i o r rs t t' h h' ho e1 e2 tc run rest ih =>
    intro hr G w a hs ht R U hq
    have hi : i < ops.size := (Array.getElem?_eq_some_iff.1 ho).1
    have : ops.size - i = (ops.size - (i + 1)) + 1 := by omega
    rw [this, List.range'_succ, wpOpsIn_cons]
    have nm := (chain_nm rest).1
    have e3 : r.h'.n = r.h1'.n := by rw [tc.eq]; rfl
    have e4 : r.h'.m = r.h1'.m := by rw [tc.eq]; rfl
    have F : Fresh G r.h1 r.h1' := U.sub (by rw [tc.n]; exact Nat.le_refl _) (by omega) (by rw [tc.m]; exact Nat.le_refl _) (by omega)
    by_cases hji : i = j
    · subst hji
      simp at hr
      subst hr
      rw [hoj] at ho; cases ho
      refine hpan G w a (fun k _ => by rw [e1]; exact ht k) (R.sub tc.sub) F _ Q (fun G' w' T1 R1 => ?_) ro
      obtain ⟨R2, T2⟩ := frame R tc.sub tc.n tc.m R1 T1 F
      rw [← tc.eq] at R2 T2
      refine hq G' w' a ?_ (R2.same rfl fun _ x => x) hs rfl
      exact T2.same rfl (fun _ => Iff.rfl) rfl (fun _ => Iff.rfl) (Nat.le_refl _) nm.1 (Nat.le_trans T2.n_le nm.1) (Nat.le_refl _) nm.2 (Nat.le_trans T2.m_le nm.2)
    · have hDi : D i = false := by
        cases hd : D i with
        | false => rfl
        | true => have := hDk i hd; omega
      refine run hDi G w a (fun k _ => ht k) (R.sub tc.sub) F _ Q (fun G' w' v T1 R1 V => ?_) ro
      obtain ⟨R2, T2⟩ := frame R tc.sub tc.n tc.m R1 T1 F
      rw [← tc.eq] at R2 T2
      refine ih (by omega) (by rw [show j - i = (j - (i + 1)) + 1 by omega] at hr; simpa using hr) G' w' _ (by rw [put_size]; exact hs) (put_rel (ht.mono R T2) V fun k hk => by rw [hs]; exact hN i o k ho hk) R2 (U.step T2) fun G'' w'' a'' T3 h2 h3 h4 => ?_
      exact hq G'' w'' a'' (T2.trans R R2 T3) h2 h3 (h4.trans (put_defers _ _ _))
def deadB (l : List (Nat × Nat)) (j k : Nat) (ds : List Nat) (it : AItem) : Bool :=
  (touchy it.op && !l.contains (j, k)) || (tmpsOf (opdsOf it.op)).any ds.contains || (match it.guard with | some (d, _) => ds.contains d | none => false)
def quietOp : AOp → Bool
  | .load _ _ => true
  | op => !touchy op
def restP (l : List (Nat × Nat)) (j : Nat) : List AItem → Nat → List Nat → Tm → H → Option (List Ent)
  | [], _, _, _, _ => some []
  | it :: its, k, ds, t, h =>
    if deadB l j k ds it then (restP l j its (k + 1) (it.dst.toList ++ ds) (putT t it.dst .any) h).map (ent0 :: ·)
    else match guardOf t it.guard with
      | some false => (restP l j its (k + 1) ds (putT t it.dst (.sc undef)) h).map (ent0 :: ·)
      | some true => if quietOp it.op then (match aop (ev t) h it.op with
        | some (x, _, en) => (restP l j its (k + 1) ds (putT t it.dst x) h).map (en :: ·)
        | none => none) else none
      | none => none
def stillE (e : Ent) : Bool := e.wr.isEmpty && e.tk.isEmpty
theorem aop_quiet {ρ : Opd → AV} {h h' : H} {op : AOp} {x : AV} {en : Ent} (ht : quietOp op = true) (hx : aop ρ h op = some (x, h', en)) : h' = h ∧ en.wr = [] ∧ en.tk = [] ∧ (touchy op = false → en = ent0) := by
  cases op <;> simp [quietOp, touchy] at ht <;> simp only [aop] at hx <;> first
    | (simp only [Option.some.injEq, Prod.mk.injEq] at hx; obtain ⟨-, rfl, rfl⟩ := hx; exact ⟨rfl, rfl, rfl, fun _ => rfl⟩)
    | (simp only [Option.map_eq_some_iff, Prod.mk.injEq] at hx; obtain ⟨_, _, _, rfl, rfl⟩ := hx; exact ⟨rfl, rfl, rfl, fun _ => rfl⟩)
    | ((repeat' split at hx) <;> (first | (cases hx; done) | (cases hx; first | exact ⟨rfl, rfl, rfl, fun _ => rfl⟩ | exact ⟨rfl, rfl, rfl, fun h => by simp [touchy] at h⟩) | (simp only [Option.map_eq_some_iff, Prod.mk.injEq] at hx; obtain ⟨_, _, _, rfl, rfl⟩ := hx; first | exact ⟨rfl, rfl, rfl, fun _ => rfl⟩ | exact ⟨rfl, rfl, rfl, fun h => by simp [touchy] at h⟩) | skip))
  all_goals simp_all
def PairsMean (P : Program) (N : Nat) (ops : Array Oper) (l : List (Nat × Nat)) : Prop :=
  ∀ (a b : Nat) oa ob ia ib, a < b → ops[a]? = some oa → ops[b]? = some ob → cItem P N ops oa = some ia → cItem P N ops ob = some ib → touchy ia.op = true → touchy ib.op = true → (a, b) ∉ l → isAnc ops a b = true
theorem rest_ok {l : List (Nat × Nat)} {j : Nat} {ops : Array Oper} {itj : AItem} {oj : Oper} (hoj : ops[j]? = some oj) (hij : cItem P N ops oj = some itj) (htj : touchy itj.op = true) :
    ∀ (its : List AItem) (k : Nat) (ds : List Nat) (t : Tm) (h : H) (ents : List Ent), restP l j its k ds t h = some ents → j < k → k ≤ ops.size → cItems P N ops (ops.toList.drop k) = some its →
    ∃ (D : Nat → Bool) (recs : List Rec) (t' : Tm) (h' : H), ChainD P ops D k recs t h t' h' ∧ h' = h ∧ recs.map (·.en) = ents ∧ (∀ i, D i = true → k ≤ i) ∧
      (∀ (i : Nat) r it, recs[i]? = some r → its[i]? = some it → touchy it.op = false → r.en = ent0) ∧
      (Tidy ops → PairsMean P N ops l → ∀ (E : Nat → Bool), (∀ d ∈ ds, ∃ k' o', k' < k ∧ ops[k']? = some o' ∧ o'.dst = some d ∧ E k' = true) → E j = true → (∀ i, k ≤ i → D i = true → E i = true) → ∀ i, D i = true → ∃ k', E k' = true ∧ isAnc ops k' i = true)
  | [], k, ds, t, h, ents, he, hjk, hk, hc => by
    simp only [restP, Option.some.injEq] at he
    subst he
    have : k = ops.size := by
      cases hd : ops.toList.drop k with
      | nil => have := List.drop_eq_nil_iff.1 hd; simp at this; omega
      | cons o l =>
        rw [hd] at hc
        simp only [cItems] at hc
        split at hc <;> simp at hc
    exact ⟨fun _ => false, [], t, h, .nil this, rfl, rfl, fun i h => by (cases h), by simp, fun _ _ _ _ _ _ i h => by (cases h)⟩
  | it :: its, k, ds, t, h, ents, he, hjk, hk, hc => by
    obtain ⟨o, ho, hit, hk', hc'⟩ := items_cons hk hc
    have hdst : it.dst = o.dst := by
      unfold cItem at hit
      split at hit
      · split at hit <;> cases hit; rfl
      · cases hit
    have hsub : (tmpsOf (opdsOf it.op)).all (fun i => (names ops o).contains i) = true ∧ cGuard ops o.guard = some it.guard := by
      unfold cItem at hit
      split at hit
      · rename_i hg
        split at hit <;> cases hit
        rename_i hcond
        simp only [Bool.and_eq_true] at hcond
        exact ⟨hcond.2, hg⟩
      · cases hit
    simp only [restP] at he
    split at he
    · rename_i hdead
      simp only [Option.map_eq_some_iff] at he
      obtain ⟨es, he, rfl⟩ := he
      obtain ⟨D, recs, t', h', ch, hh, hr, hD, hE0, hX⟩ := rest_ok hoj hij htj its (k + 1) _ _ h es he (by omega) hk' hc'
      have hDk : D k = false := by
        cases hd : D k with
        | false => rfl
        | true => have := hD k hd; omega
      refine ⟨fun i => D i || i == k, ⟨t, h, H0 h.n h.m, H0 h.n h.m, h, .any, ent0⟩ :: recs, t', h', ?_, hh, by simp [hr], ?_, ?_, ?_⟩
      · refine .cons ho rfl rfl (touch_none h) (fun hf => by simp at hf) ?_
        rw [← hdst]
        exact ch.congr fun i hi => by
          have : (i == k) = false := by simp; omega
          simp [this]
      · intro i hi
        simp only [Bool.or_eq_true, beq_iff_eq] at hi
        rcases hi with hi | hi
        · have := hD i hi; omega
        · omega
      · intro i r it' hri hiti ht
        cases i with
        | zero => simp at hri; subst hri; rfl
        | succ i => simp at hri hiti; exact hE0 i r it' hri hiti ht
      · intro T M E hds hEj hDE i hi
        simp only [Bool.or_eq_true, beq_iff_eq] at hi
        have hEk : E k = true := hDE k (Nat.le_refl _) (by simp)
        rcases hi with hi | hi
        · refine hX T M E ?_ hEj (fun i h1 h2 => hDE i (by omega) (by simp [h2])) i hi
          intro d hd
          simp only [List.mem_append, Option.mem_toList] at hd
          rcases hd with hd | hd
          · exact ⟨k, o, by omega, ho, by rw [← hdst]; exact hd, hEk⟩
          · obtain ⟨k', o', h1, h2⟩ := hds d hd
            exact ⟨k', o', by omega, h2⟩
        · subst hi
          unfold deadB at hdead
          simp only [Bool.or_eq_true, Bool.and_eq_true, Bool.not_eq_true', List.any_eq_true] at hdead
          have byname : ∀ d, d ∈ ds → d ∈ names ops o → ∃ k', E k' = true ∧ isAnc ops k' i = true := by
            intro d hd hn
            obtain ⟨k', o', h1, h2, h3, h4⟩ := hds d hd
            refine ⟨k', h4, ?_⟩
            rcases T.tmp k' i o' o h2 ho (by omega) d h3 hn with h | h
            · exact h
            · have := anc_lt T k' _ h2 h; omega
          rcases hdead with (⟨h1, h2⟩ | ⟨d, h1, h2⟩) | h1
          · exact ⟨j, hEj, M j i oj o itj it hjk hoj ho hij hit htj h1 (by simpa using h2)⟩
          · have := List.all_eq_true.1 hsub.1 d h1
            exact byname d (by simpa using h2) (by simpa using this)
          · split at h1
            · rename_i d w hg
              refine byname d (by simpa using h1) ?_
              have hg2 := hsub.2
              rw [hg] at hg2
              unfold cGuard at hg2
              split at hg2
              · cases hg2
              · rename_i j' w' hog
                split at hg2
                · rename_i d' hd'
                  cases hg2
                  simp only [names, hog, List.mem_append]
                  right
                  simp [hd']
                · cases hg2
            · cases h1
    · split at he
      · rename_i hg
        simp only [Option.map_eq_some_iff] at he
        obtain ⟨es, he, rfl⟩ := he
        obtain ⟨D, recs, t', h', ch, hh, hr, hD, hE0, hX⟩ := rest_ok hoj hij htj its (k + 1) _ _ h es he (by omega) hk' hc'
        refine ⟨D, ⟨t, h, H0 h.n h.m, H0 h.n h.m, h, .sc undef, ent0⟩ :: recs, t', h', .cons ho rfl rfl (touch_none h) (fun _ => itrun_skip ho hit hg) (by rw [← hdst]; exact ch), hh, by simp [hr], fun i hi => by have := hD i hi; omega, ?_, ?_⟩
        · intro i r it' hri hiti ht
          cases i with
          | zero => simp at hri; subst hri; rfl
          | succ i => simp at hri hiti; exact hE0 i r it' hri hiti ht
        · intro T M E hds hEj hDE i hi
          exact hX T M E (fun d hd => by obtain ⟨k', o', h1, h2⟩ := hds d hd; exact ⟨k', o', by omega, h2⟩) hEj (fun i h1 h2 => hDE i (by omega) h2) i hi
      · rename_i hg
        split at he
        · rename_i hq
          split at he
          · rename_i x h2 en hx
            simp only [Option.map_eq_some_iff] at he
            obtain ⟨es, he, rfl⟩ := he
            obtain ⟨q1, q2, q3, q4⟩ := aop_quiet hq hx
            subst q1
            obtain ⟨h1, h1', tc, run⟩ := itrun_op ho hit hg hx
            obtain ⟨D, recs, t', h', ch, hh, hr, hD, hE0, hX⟩ := rest_ok hoj hij htj its (k + 1) _ _ _ es he (by omega) hk' hc'
            refine ⟨D, ⟨t, _, h1, h1', _, x, en⟩ :: recs, t', h', .cons ho rfl rfl tc (fun _ => run) (by rw [← hdst]; exact ch), hh, by simp [hr], fun i hi => by have := hD i hi; omega, ?_, ?_⟩
            · intro i r it' hri hiti ht
              cases i with
              | zero => simp at hri hiti; subst hri hiti; exact q4 ht
              | succ i => simp at hri hiti; exact hE0 i r it' hri hiti ht
            · intro T M E hds hEj hDE i hi
              exact hX T M E (fun d hd => by obtain ⟨k', o', h1, h2⟩ := hds d hd; exact ⟨k', o', by omega, h2⟩) hEj (fun i h1 h2 => hDE i (by omega) h2) i hi
          · cases he
        · cases he
      · cases he
theorem rest_none {ops : Array Oper} : ∀ (its : List AItem) (k : Nat) (t : Tm) (h : H), k ≤ ops.size → cItems P N ops (ops.toList.drop k) = some its → ∃ (recs : List Rec) (t' : Tm) (D : Nat → Bool), ChainD P ops D k recs t h t' h ∧ (∀ i, D i = true → k ≤ i) ∧ ∀ r ∈ recs, r.en = ent0
  | [], k, t, h, hk, hc => by
    have : k = ops.size := by
      cases hd : ops.toList.drop k with
      | nil => have := List.drop_eq_nil_iff.1 hd; simp at this; omega
      | cons o l =>
        rw [hd] at hc
        simp only [cItems] at hc
        split at hc <;> simp at hc
    exact ⟨[], t, fun _ => false, .nil this, fun i h => by (cases h), by simp⟩
  | it :: its, k, t, h, hk, hc => by
    obtain ⟨o, ho, hit, hk', hc'⟩ := items_cons hk hc
    obtain ⟨recs, t', D, ch, hD, he⟩ := rest_none its (k + 1) (putT t o.dst .any) h hk' hc'
    refine ⟨⟨t, h, H0 h.n h.m, H0 h.n h.m, h, .any, ent0⟩ :: recs, t', fun i => D i || i == k, .cons ho rfl rfl (touch_none h) (fun hf => by simp at hf) (ch.congr fun i hi => by
      have : (i == k) = false := by simp; omega
      simp [this]), fun i hi => ?_, ?_⟩
    · simp only [Bool.or_eq_true, beq_iff_eq] at hi
      rcases hi with hi | hi
      · have := hD i hi; omega
      · omega
    · intro r hr
      rcases List.mem_cons.1 hr with rfl | hr
      · rfl
      · exact he r hr
def panB (l : List (Nat × Nat)) (j : Nat) (log : List Ent) : Bool := l.all fun (a, b) => (!Nat.beq a j || stillE (log.getD b ent0)) && (!Nat.beq b j || stillE (log.getD a ent0))
def panP (l : List (Nat × Nat)) (j : Nat) (log : List Ent) (h' : H) : Prop := ∀ a b, (a, b) ∈ l → (a = j → (log.getD b ent0).tk = [] ∧ ∀ id ∈ (log.getD b ent0).wr, h'.objs id = none) ∧ (b = j → (log.getD a ent0).tk = [] ∧ (log.getD a ent0).wr = [])
theorem panB_P {l : List (Nat × Nat)} {j : Nat} {log : List Ent} {h' : H} (h : panB l j log = true) : panP l j log h' := by
  intro a b hab
  unfold panB at h
  rw [List.all_eq_true] at h
  have := h _ hab
  simp only [Bool.and_eq_true, Bool.or_eq_true, Bool.not_eq_true', stillE, List.isEmpty_iff] at this
  refine ⟨fun e => ?_, fun e => ?_⟩
  · subst e
    obtain ⟨h1, h2⟩ := this.1.resolve_left (by simp)
    exact ⟨h2, fun id hid => by rw [h1] at hid; cases hid⟩
  · subst e
    obtain ⟨h1, h2⟩ := this.2.resolve_left (by simp)
    exact ⟨h2, h1⟩
structure PanAt (P : Program) (N : Nat) (p : Option (List (Nat × Nat))) (ops : Array Oper) (i : Nat) (items : List AItem) (t : Tm) (h : H) (log : List Ent) (D : Nat → Bool) (recs : List Rec) (t' : Tm) (h' : H) (j : Nat) (rj : Rec) (oj : Oper) (itj : AItem) (v : Value) : Prop where
  ch : ChainD P ops D i recs t h t' h'
  hrj : recs[j - i]? = some rj
  ij : i ≤ j
  hoj : ops[j]? = some oj
  it : cItem P N ops oj = some itj
  tj : touchy itj.op = true
  run : PanRun P ops j oj rj.t rj.h1 v rj.h1'
  Dj : D j = true
  Dk : ∀ k, D k = true → j ≤ k
  e0 : ∀ (k : Nat) r it, recs[k]? = some r → items[k]? = some it → touchy it.op = false → r.en = ent0
  pairs : ∀ l, p = some l → (Tidy ops → PairsMean P N ops l → ∀ k, D k = true → k = j ∨ ∃ k', D k' = true ∧ isAnc ops k' k = true) ∧ pairsOk l (log.reverse ++ recs.map (·.en)) ∧ panP l j (log.reverse ++ recs.map (·.en)) rj.h'
def WpItemsP (P : Program) (N : Nat) (p : Option (List (Nat × Nat))) (items : List AItem) (t : Tm) (h : H) (log : List Ent) (R : Value → H → Prop) : Prop :=
  ∀ ops i, i ≤ ops.size → log.length = i → cItems P N ops (ops.toList.drop i) = some items →
    ∃ D recs t' h' j rj oj itj v, PanAt P N p ops i items t h log D recs t' h' j rj oj itj v ∧ R v { rj.h' with n := h'.n, m := h'.m }
theorem WpItemsP.step {p : Option (List (Nat × Nat))} {it : AItem} {its : List AItem} {t : Tm} {h h' h1 h1' : H} {x : AV} {en : Ent} {log : List Ent} {R : Value → H → Prop} (tc : Touch h h1 h1' h' en)
    (run : ∀ (ops : Array Oper) i o, ops[i]? = some o → cItem P N ops o = some it → ItRun P ops i o t h1 x h1') (hen : touchy it.op = false → en = ent0)
    (rest : WpItemsP P N p its (putT t it.dst x) h' (en :: log) R) : WpItemsP P N p (it :: its) t h log R := by
  intro ops i hi hl hc
  obtain ⟨o, ho, hit, hi', hc'⟩ := items_cons hi hc
  obtain ⟨D, recs, t', hh', j, rj, oj, itj, v, A, hR⟩ := rest ops (i + 1) hi' (by simp [hl]) hc'
  have hdst : it.dst = o.dst := by
    unfold cItem at hit
    split at hit
    · split at hit <;> cases hit; rfl
    · cases hit
  have hij := A.ij
  refine ⟨D, ⟨t, h, h1, h1', h', x, en⟩ :: recs, t', hh', j, rj, oj, itj, v, ⟨.cons ho rfl rfl tc (fun _ => run ops i o ho hit) (by rw [← hdst]; exact A.ch), ?_, by omega, A.hoj, A.it, A.tj, A.run, A.Dj, A.Dk, ?_, ?_⟩, hR⟩
  · have e := A.hrj
    rw [show j - i = (j - (i + 1)) + 1 by omega]
    simpa using e
  · intro k r it' hr hit' ht
    cases k with
    | zero => simp at hr hit'; subst hr hit'; exact hen ht
    | succ k => simp at hr hit'; exact A.e0 k r it' hr hit' ht
  · intro l hl'
    have := A.pairs l hl'
    simpa using this
theorem WpItemsP.here {p : Option (List (Nat × Nat))} {it : AItem} {its : List AItem} {t : Tm} {h h' h1 h1' : H} {v : Value} {en : Ent} {log : List Ent} {R : Value → H → Prop} (hj : touchy it.op = true) (tc : Touch h h1 h1' h' en)
    (run : ∀ (ops : Array Oper) i o, ops[i]? = some o → cItem P N ops o = some it → PanRun P ops i o t h1 v h1')
    (hr : ∀ l, p = some l → ∃ ents, restP l log.length its (log.length + 1) it.dst.toList (putT t it.dst .any) h' = some ents ∧ pairsOk l (log.reverse ++ en :: ents) ∧ panB l log.length (log.reverse ++ en :: ents) = true)
    (hq : R v h') : WpItemsP P N p (it :: its) t h log R := by
  intro ops i hi hl hc
  obtain ⟨o, ho, hit, hi', hc'⟩ := items_cons hi hc
  have hdst : it.dst = o.dst := by
    unfold cItem at hit
    split at hit
    · split at hit <;> cases hit; rfl
    · cases hit
  subst hl
  cases p with
  | none =>
    obtain ⟨recs, t', D, ch, hD, he⟩ := rest_none its (log.length + 1) (putT t o.dst .any) h' hi' hc'
    refine ⟨fun i => D i || i == log.length, ⟨t, h, h1, h1', h', .any, en⟩ :: recs, t', h', log.length, ⟨t, h, h1, h1', h', .any, en⟩, o, it, v, ⟨.cons ho rfl rfl tc (fun hf => by simp at hf) (ch.congr fun i hi => by
      have : (i == log.length) = false := by simp; omega
      simp [this]), by simp, Nat.le_refl _, ho, hit, hj, run ops _ o ho hit, by simp, ?_, ?_, by simp⟩, hq⟩
    · intro k hk
      simp only [Bool.or_eq_true, beq_iff_eq] at hk
      rcases hk with hk | hk
      · have := hD k hk; omega
      · omega
    · intro k r it' hr hit' ht
      cases k with
      | zero => simp at hr hit'; subst hr hit'; rw [hj] at ht; cases ht
      | succ k =>
        simp at hr
        exact he r (List.mem_of_getElem? hr)
  | some l =>
    obtain ⟨ents, hrest, hpk, hpb⟩ := hr l rfl
    obtain ⟨D, recs, t', h2, ch, rfl, hre, hD, hE0, hX⟩ := rest_ok ho hit hj its (log.length + 1) _ _ h' ents hrest (by omega) hi' hc'
    refine ⟨fun i => D i || i == log.length, ⟨t, h, h1, h1', h2, .any, en⟩ :: recs, t', h2, log.length, ⟨t, h, h1, h1', h2, .any, en⟩, o, it, v, ⟨.cons ho rfl rfl tc (fun hf => by simp at hf) (by
      rw [← hdst]
      exact ch.congr fun i hi => by
        have : (i == log.length) = false := by simp; omega
        simp [this]), by simp, Nat.le_refl _, ho, hit, hj, run ops _ o ho hit, by simp, ?_, ?_, ?_⟩, hq⟩
    · intro k hk
      simp only [Bool.or_eq_true, beq_iff_eq] at hk
      rcases hk with hk | hk
      · have := hD k hk; omega
      · omega
    · intro k r it' hr hit' ht
      cases k with
      | zero => simp at hr hit'; subst hr hit'; rw [hj] at ht; cases ht
      | succ k =>
        simp at hr hit'
        exact hE0 k r it' hr hit' ht
    · intro l' hl'
      cases hl'
      refine ⟨fun T M k hk => ?_, by simpa [hre] using hpk, panB_P (by simpa [hre] using hpb)⟩
      simp only [Bool.or_eq_true, beq_iff_eq] at hk
      rcases hk with hk | hk
      · right
        refine hX T M (fun i => D i || i == log.length) ?_ (by simp) (fun i _ h => by simp [h]) k hk
        intro d hd
        rw [Option.mem_toList] at hd
        exact ⟨log.length, o, by omega, ho, by rw [← hdst]; exact hd, by simp⟩
      · exact .inl hk
theorem Wp.regP {items : List AItem} {p : Option (List (Nat × Nat))} {s : St} {Q : AExit → St → Prop} (h : WpItemsP P N p items s.t s.h [] fun v h' => Q (.panic v) ⟨fun _ => .any, h'⟩) : Wp P N (.reg items p) s Q := by
  intro code hc
  obtain ⟨id, ops, draw, rfl, hi, hd⟩ := code_reg hc
  obtain ⟨D, recs, t', h', j, rj, oj, itj, v, A, hq⟩ := h ops 0 (Nat.zero_le _) rfl (by simpa using hi)
  have ch := A.ch
  have hrj : recs[j]? = some rj := by simpa using A.hrj
  obtain ⟨nm, nm2, -⟩ := chain_nm ch
  obtain ⟨cl, ci⟩ := cItems_len hi
  have hN : ∀ (i : Nat) o d, ops[i]? = some o → o.dst = some d → d < N := by
    intro i o d ho hdd
    have hlt : i < ops.size := (Array.getElem?_eq_some_iff.1 ho).1
    have hit : i < items.length := by rw [cl]; simpa using hlt
    have := ci i o items[i] (by simpa using ho) (List.getElem?_eq_getElem hit)
    generalize items[i] = it at this
    unfold cItem at this
    split at this
    · split at this <;> cases this
      rename_i hcond
      simp only [Bool.and_eq_true] at hcond
      have := hcond.1
      rw [hdd] at this
      simpa using this
    · cases this
  refine ⟨.panic v, _, ⟨nm, fun ro okc G w a r F => ?_⟩, hq⟩
  rcases hd with ⟨rfl, rfl⟩ | ⟨rfl, hm, ht, rfl⟩
  · refine wpIn_region ?_
    rw [List.range_eq_range']
    have := chain_seqP ro (Q := fun e' a' w' => (AExit.panic v).says e' ∧ NewM w a.defers a'.defers ∧ ∃ G', Trans G w s.h G' w' { rj.h' with n := h'.n, m := h'.m } ∧ Rel N ⟨fun _ => .any, { rj.h' with n := h'.n, m := h'.m }⟩ G' w' a') hN A.hoj A.run A.Dj A.Dk (Nat.zero_le j) ch (by simpa using A.hrj) G w a r.size r.t r.h F
      (fun G' w' a' T1 R1 s1 d1 => ⟨rfl, by rw [d1]; exact .refl, G', T1, ⟨s1, fun _ => by simp [VRel], R1, by rw [d1]; exact r.df.mono T1⟩⟩)
    simpa using this
  · obtain ⟨pD, pk, pb⟩ := A.pairs _ rfl
    simp only [List.reverse_nil, List.nil_append] at pk pb
    refine wpIn_region_any hm ?_
    obtain ⟨a1, a2, -⟩ := chain_facts ch
    rw [Nat.zero_add] at a1
    have ap : ∀ i j, i < j → j < ops.size → isAnc ops i j = false → apart (recs.getD i rec0).en (recs.getD j rec0).en := by
      intro i j hij hj hanc
      have hir : i < recs.length := by omega
      have hjr : j < recs.length := by omega
      have hii : i < items.length := by rw [cl]; simp; omega
      have hjj : j < items.length := by rw [cl]; simp; omega
      have ei : (recs.getD i rec0).en = (recs.map (·.en)).getD i ent0 := by simp [List.getD, List.getElem?_eq_getElem hir]
      have ej : (recs.getD j rec0).en = (recs.map (·.en)).getD j ent0 := by simp [List.getD, List.getElem?_eq_getElem hjr]
      have gi : (recs.getD i rec0) = recs[i] := by simp [List.getD, List.getElem?_eq_getElem hir]
      have gj : (recs.getD j rec0) = recs[j] := by simp [List.getD, List.getElem?_eq_getElem hjr]
      by_cases ti : touchy items[i].op = true
      · by_cases tj : touchy items[j].op = true
        · rw [ei, ej]
          refine pairsOk_mem pk ?_
          unfold pairsOf
          simp only [List.mem_flatMap, List.mem_range, List.mem_filterMap]
          refine ⟨j, hj, i, hij, ?_⟩
          unfold isAnc at hanc
          simp [List.getElem?_eq_getElem hii, List.getElem?_eq_getElem hjj, ti, tj]
          simpa using hanc
        · rw [gj, A.e0 j _ _ (List.getElem?_eq_getElem hjr) (List.getElem?_eq_getElem hjj) (by simpa using tj)]
          exact (apart_ent0 _).2
      · rw [gi, A.e0 i _ _ (List.getElem?_eq_getElem hir) (List.getElem?_eq_getElem hii) (by simpa using ti)]
        exact (apart_ent0 _).1
    have hjs : j < ops.size := (Array.getElem?_eq_some_iff.1 A.hoj).1
    have itemAt : ∀ (k : Nat) (o : Oper), ops[k]? = some o → ∃ it, items[k]? = some it ∧ cItem P N ops o = some it := by
      intro k o ho
      have hlt : k < ops.size := (Array.getElem?_eq_some_iff.1 ho).1
      have hit : k < items.length := by rw [cl]; simpa using hlt
      exact ⟨_, List.getElem?_eq_getElem hit, ci k o items[k] (by simpa using ho) (List.getElem?_eq_getElem hit)⟩
    have inPairs : ∀ (a b : Nat) oa ob ia ib, a < b → ops[a]? = some oa → ops[b]? = some ob → cItem P N ops oa = some ia → cItem P N ops ob = some ib → touchy ia.op = true → touchy ib.op = true → isAnc ops a b = false → (a, b) ∈ pairsOf ops items := by
      intro a b oa ob ia ib hab hoa hob hia hib ta tb hanc
      obtain ⟨ia', p1, p2⟩ := itemAt a oa hoa
      obtain ⟨ib', p3, p4⟩ := itemAt b ob hob
      rw [hia] at p2; rw [hib] at p4
      cases p2; cases p4
      unfold pairsOf
      simp only [List.mem_flatMap, List.mem_range, List.mem_filterMap]
      refine ⟨b, (Array.getElem?_eq_some_iff.1 hob).1, a, hab, ?_⟩
      unfold isAnc at hanc
      simp [p1, p3, ta, tb]
      simpa using hanc
    have M : PairsMean P N ops (pairsOf ops items) := by
      intro a b oa ob ia ib hab hoa hob hia hib ta tb hn
      cases hanc : isAnc ops a b with
      | true => rfl
      | false => exact absurd (inPairs a b oa ob ia ib hab hoa hob hia hib ta tb hanc) hn
    have T := tidy_ok ht
    have pD := pD T M
    let w1 : World := { w with drawn := w.drawn + 1 }
    have hz : ∀ k, (Array.replicate ops.size false).getD k false = false := by intro k; simp [Array.getElem?_replicate]; split <;> rfl
    have hz' : (fun k => (Array.replicate ops.size false).getD k false) = fun _ => false := funext hz
    have vz : ∀ {β : Type} (u : Nat → Option β) (n : Nat) (v : β), val u (fun _ => false) n v = v := by
      intro β u n v
      induction n with
      | zero => rfl
      | succ n ih => simp only [val, Bool.false_eq_true, if_false, ih]
    have R1 : RepH G s.h w1 := r.h.draw rfl rfl rfl
    have hk : ∀ t, t ∈ (HS recs s.h ops.size h'.n h'.m (fun _ => false)).toks ↔ t ∈ s.h.toks := by
      intro t; rw [mem_HS a1.symm, vz]; simp
    have ho : (HS recs s.h ops.size h'.n h'.m (fun _ => false)).objs = s.h.objs := by
      funext id; simp only [HS]; rw [vz]
    have T01 := trans_draw G w w1 s.h rfl rfl rfl
    refine chain_any ro (pj := j) (pv := v) (N := N) (G0 := G) (w0 := w1) (a0 := a) hN T ch ap R1 F (fun hf => absurd A.Dj (by simp [hf j])) ?_ ?_ ops.size (Array.replicate ops.size false) G w1 a (by simp) ?_ ?_ ?_ r.size rfl ?_ ?_ ?_ ?_ ?_
    · intro i hDi
      exact ⟨⟨A.Dj, hjs⟩, pD i hDi⟩
    · intro _ o rr hoo hrr
      rw [A.hoj] at hoo; cases hoo
      rw [hrj] at hrr; cases hrr
      refine ⟨A.run, ?_, ?_⟩
      · intro k hk hne h1 h2
        have hko := Array.getElem?_eq_getElem hk
        obtain ⟨itk, p1, p2⟩ := itemAt k _ hko
        have hkr : k < recs.length := by omega
        have gk : (recs.getD k rec0) = recs[k] := by simp [List.getD, List.getElem?_eq_getElem hkr]
        have ek : (recs.getD k rec0).en = (recs.map (·.en)).getD k ent0 := by simp [List.getD, List.getElem?_eq_getElem hkr]
        by_cases tk : touchy itk.op = true
        · rw [ek]
          rcases Nat.lt_or_ge k j with hlt | hge
          · obtain ⟨q1, q2⟩ := (pb _ _ (inPairs k j _ oj itk itj hlt hko A.hoj p2 A.it tk A.tj h1)).2 rfl
            exact ⟨q1, fun _ => q2, fun id hid => by rw [q2] at hid; cases hid⟩
          · obtain ⟨q1, q2⟩ := (pb _ _ (inPairs j k oj _ itj itk (by omega) A.hoj hko A.it p2 A.tj tk h2)).1 rfl
            exact ⟨q1, fun h => by omega, q2⟩
        · rw [gk, A.e0 k _ _ (List.getElem?_eq_getElem hkr) p1 (by simpa using tk)]
          exact ⟨rfl, fun _ => rfl, fun id hid => by cases hid⟩
      · intro G' w' a' T1 R1' s1 d1
        have T2 := T01.trans r.h R1 T1
        exact ⟨rfl, by rw [d1]; exact .refl, G', T2, ⟨s1, fun _ => by simp [VRel], R1', by rw [d1]; exact r.df.mono T2⟩⟩
    · unfold count
      exact Nat.le_trans (List.length_filter_le _ _) (by simp)
    · rw [hz']; intro i o _ h; cases h
    · intro k _; exact hz k
    · rw [hz']; intro d; rw [vz]; exact VRel.mono r.h T01 _ _ (r.t d)
    · rw [hz']; exact R1.same ho fun t x => (hk t).1 x
    · rw [hz']
      exact (Trans.refl G w1 s.h).same rfl (fun _ => Iff.rfl) ho hk (Nat.le_refl _) nm.1 nm.1 (Nat.le_refl _) nm.2 nm.2
    · exact fun id x => .inl x
    · exact fun id x => .inl x
end
end Go.Av
end
section
set_option linter.unusedVariables false
set_option linter.unusedSimpArgs false
namespace Go.Av
section
variable {P : Program} {N : Nat}
theorem leaves_marksP {F : Fence} {n : Nat} {fn : Func} {tmps : Array Value} {R : Ending → World → Prop} {chain : List PanicEntry} (Ds : Nat → Prop) (I : World → Prop)
    (hI : ∀ w D, Ds D → I w → w.heap[D]? = some (.deferred (some [])) → I (w.putObj D (.deferred none))) (hend : ∀ w, I w → R (.panicked chain) w) :
    ∀ (l : List Deferred) (w : World), l.Nodup → (∀ d ∈ l, ∃ D, Ds D ∧ d = { target := .collected D, args := #[] } ∧ w.heap[D]? = some (.deferred (some []))) → I w → LeavesInM F n P fn tmps R l (.panicking chain) w := by
  intro l
  induction l with
  | nil => intro w _ _ hi; exact hend w hi
  | cons d l ih =>
    intro w hn hm hi
    obtain ⟨D, h1, h2, h3⟩ := hm d (by simp)
    refine ⟨by simp, .inl ⟨D, _, by rw [h2], run_takeDeferred h3, ih _ (List.nodup_cons.1 hn).2 (fun d' hd' => ?_) (hI w D h1 hi h3)⟩⟩
    obtain ⟨D', k1, k2, k3⟩ := hm d' (by simp [hd'])
    refine ⟨D', k1, k2, ?_⟩
    rw [World.putObj_heap_other ?_]
    · exact k3
    · rintro rfl
      exact (List.nodup_cons.1 hn).1 (by rw [h2, ← k2]; exact hd')
theorem pans_of {f : FuncId} {fn : Func} {code : Code} {ac : AC} {args : List AV} {h : H} {Q : Value → H → Prop} (hf : P.funcs[f]? = some fn) (hb : fn.body = some code) (hc : cCode P fn.ntmps code = some ac) (hl : args.length ≤ fn.ntmps)
    (hw : Wp P fn.ntmps ac ⟨initT args, h⟩ fun e s' => ∃ v, e = .panic v ∧ Q v s'.h) : ∃ v h', PanCalls P f args h v h' ∧ Q v h' := by
  obtain ⟨e, s', run, v, rfl, hq⟩ := hw code hc
  refine ⟨v, s'.h, ?_, hq⟩
  intro G w vs hv R F
  have hlen := hv.length
  refine callsIn_wide.1 (callsIn_of_wp_marks (F := rd none) (n := 0) hf hb trivial (wpIn_mono (run.2 none (.inl rfl) G w _ ⟨?_, init_rel hv, R, ⟨by simp, by simp⟩⟩ F) ?_) rfl)
  · simp; omega
  · rintro e' a' w' ⟨h1, h2, G', T, r'⟩
    have key : LeavesInM (rd none) 0 P fn a'.tmps (fun e w' => ∃ G', e = .panicked [{ v := v, recovered := false }] ∧ Trans G w h G' w' s'.h ∧ RepH G' s'.h w') a'.defers (.panicking [{ v := v, recovered := false }]) w' := by
      refine leaves_marksP (fun D => w.heap.size ≤ D ∧ ¬ s'.h.O G' D ∧ ¬ s'.h.T G' D) (fun w2 => Trans G w h G' w2 s'.h ∧ RepH G' s'.h w2) ?_ ?_ _ _ r'.df.1 ?_ ⟨T, r'.h⟩
      · rintro w2 D ⟨d1, d2, d3⟩ ⟨T2, R2⟩ hD
        have tu := Turned.results hD
        exact ⟨T2.turn tu d1, R2.turn tu d2⟩
      · rintro w2 ⟨T2, R2⟩
        exact ⟨G', rfl, T2, R2⟩
      · intro d hd
        obtain ⟨D, e, k1, k2, k3⟩ := r'.df.2 d hd
        rcases h2 d hd with h | ⟨D', k4, e'⟩
        · simp at h
        · rw [e] at e'
          simp only [Deferred.mk.injEq, Target.collected.injEq, and_true] at e'
          subst e'
          exact ⟨D, ⟨k4, k2, k3⟩, e, k1⟩
    cases e' <;> simp only [AExit.says] at h1
    subst h1
    exact key
theorem FnIs.pans {f : FuncId} {ac : AC} {args : List AV} {h : H} {ds : List RV} {Q : Value → H → Prop} (hF : FnIs P f N ac ds) (hl : args.length ≤ N) (hw : Wp P N ac ⟨initT args, h⟩ fun e s' => ∃ v, e = .panic v ∧ Q v s'.h) : ∃ v h', PanCalls P f args h v h' ∧ Q v h' := by
  obtain ⟨fn, h1, h2, h3, h4⟩ := hF
  subst h2
  obtain ⟨code, hb, hc⟩ := Option.bind_eq_some_iff.1 h3
  exact pans_of h1 hb hc hl hw
end
end Go.Av
end
section
set_option linter.unusedVariables false
set_option linter.unusedSimpArgs false
namespace Go.Av
structure SetO (D : Nat) (G : Ghost) (w w' : World) : Prop where
  size : w'.heap.size = w.heap.size
  same : ∀ B, B ≠ D → w'.heap[B]? = w.heap[B]?
  own : G.own D
  form : ∀ c T fr, w.heap[D]? = some (.cells c T fr) → ∃ c', w'.heap[D]? = some (.cells c' T fr) ∧ c'.size = c.size
  os : w'.os = w.os
  out : w'.output = w.output
section
variable {D : Nat} {G : Ghost} {w w' : World}
theorem SetO.cell (t : SetO D G w w') {B off : Nat} {v : Value} (hB : B ≠ D) (h : w.cell? ⟨B, off, none⟩ = some v) : w'.cell? ⟨B, off, none⟩ = some v := by
  have := t.same B hB
  unfold World.cell? at h ⊢
  simpa [this] using h
theorem SetO.heap (t : SetO D G w w') {B : Nat} {c : Array Value} {T : TypeId} {fr : Nat × Nat} (h : w.heap[B]? = some (.cells c T fr)) : ∃ c', w'.heap[B]? = some (.cells c' T fr) ∧ c'.size = c.size := by
  by_cases e : B = D
  · subst e; exact t.form _ _ _ h
  · rw [t.same B e]; exact ⟨c, h, rfl⟩
theorem Imm.set (t : SetO D G w w') {B off : Nat} {vs : List Value} (h : Imm G w B off vs) : Imm G w' B off vs := fun i v hv =>
  ⟨t.cell (fun e => (h i v hv).2.2.1 (by rw [e]; exact t.own)) (h i v hv).1, (h i v hv).2⟩
theorem CapOk.set (t : SetO D G w w') {c : Cap} {B off len C sz : Nat} (h : CapOk G w c B off len C sz) : CapOk G w' c B off len C sz := by
  cases c with
  | any => trivial
  | exact c => exact h
  | own k =>
    rcases h with h | ⟨h1, h2, cs, T, fr, h3, h4, h5⟩
    · exact .inl h
    · obtain ⟨c', k1, k2⟩ := t.heap h3
      exact .inr ⟨h1, h2, c', T, fr, k1, by rw [k2]; exact h4, by rw [k2]; exact h5⟩
mutual
theorem VRel.set (t : SetO D G w w') : ∀ (x : AV) (v : Value), VRel G w x v → VRel G w' x v
  | .any, _, _ => trivial
  | .int k n, _, hv => hv
  | .bool b, _, hv => hv
  | .str l, _, hv => hv
  | .sc x, _, hv => hv
  | .sl sz xs c, v, hv => by
    simp only [VRel] at hv ⊢
    rcases hv with hv | ⟨B, off, C, vs, h1, h2, h3, h4, h5, h6⟩
    · exact .inl hv
    · exact .inr ⟨B, off, C, vs, h1, h2, h3, VElems.set t sz xs vs h4, h5.set t, h6.set t⟩
  | .ref cs, v, hv => by
    simp only [VRel] at hv ⊢
    obtain ⟨B, off, vs, h1, h2, h3⟩ := hv
    exact ⟨B, off, vs, h1, VRels.set t cs vs h2, h3.set t⟩
  | .agg cs, v, hv => by
    simp only [VRel] at hv ⊢
    obtain ⟨vs, h1, h2⟩ := hv
    exact ⟨vs, h1, VRels.set t cs vs h2⟩
  | .tup cs, v, hv => by
    simp only [VRel] at hv ⊢
    obtain ⟨vs, h1, h2⟩ := hv
    exact ⟨vs, h1, VRels.set t cs vs h2⟩
  | .ptr id off, v, hv => by simpa only [VRel] using hv
  | .tsl sz id off len cap, v, hv => by
    simp only [VRel] at hv ⊢
    obtain ⟨hd, hv⟩ := hv
    refine ⟨hd, ?_⟩
    rcases hv with ⟨C, c, Tt, fr, h1, h2, h3, h4, h5⟩ | hv
    · obtain ⟨c', k1, k2⟩ := t.heap h4
      exact .inl ⟨C, c', Tt, fr, h1, h2, h3, k1, by rw [k2]; exact h5⟩
    · exact .inr hv
  | .clo fn a b, v, hv => by
    simp only [VRel] at hv ⊢
    obtain ⟨vs, us, h1, h2, h3⟩ := hv
    exact ⟨vs, us, h1, VRels.set t a vs h2, VRels.set t b us h3⟩
  | .ifc k x, v, hv => by
    simp only [VRel] at hv ⊢
    obtain ⟨u, h1, h2⟩ := hv
    exact ⟨u, h1, VRel.set t x u h2⟩
  | .mp id, v, hv => by simpa only [VRel] using hv
  | .yld id, v, hv => by simpa only [VRel] using hv
  | .slt sz xs ys, v, hv => by
    simp only [VRel] at hv ⊢
    obtain ⟨B, off, C, us, vs, h1, h2, h3, h4, h5, h6⟩ := hv
    exact ⟨B, off, C, us, vs, h1, h2, h3, VElems.set t sz xs us h4, VElems.set t sz ys vs h5, h6.set t⟩
  | .sup B, v, hv => by simpa only [VRel] using hv
  | .supb B, v, hv => by
    simp only [VRel] at hv ⊢
    obtain ⟨l, h1, h2 | ⟨D, off, C, h2, h3, h4⟩⟩ := hv
    · exact ⟨l, h1, .inl h2⟩
    · exact ⟨l, h1, .inr ⟨D, off, C, h2, h3, h4.set t⟩⟩
  | .wint k, v, hv => by simpa only [VRel] using hv
  | .one, v, hv => by simpa only [VRel] using hv
theorem VRels.set (t : SetO D G w w') : ∀ (x : List AV) (v : List Value), VRels G w x v → VRels G w' x v
  | [], _, hv => by simpa only [VRels] using hv
  | x :: xs, vs, hv => by
    simp only [VRels] at hv ⊢
    obtain ⟨v, us, h1, h2, h3⟩ := hv
    exact ⟨v, us, h1, VRel.set t x v h2, VRels.set t xs us h3⟩
theorem VElems.set (t : SetO D G w w') (sz : Nat) : ∀ (x : List AV) (v : List Value), VElems G w sz x v → VElems G w' sz x v
  | [], _, hv => by simpa only [VElems] using hv
  | x :: xs, vs, hv => by
    simp only [VElems] at hv ⊢
    obtain ⟨v, us, h1, h2, h3, h4⟩ := hv
    exact ⟨v, us, h1, h2, VRel.set t x v h3, VElems.set t sz xs us h4⟩
end
theorem Entries.setO (t : SetO D G w w') : ∀ (l : List (AV × AV)) (e : List MapEntry), Entries G w l e → Entries G w' l e
  | [], _, hv => hv
  | (k, v) :: l, es, hv => by
    obtain ⟨e, r, h1, h2, h3, h4⟩ := hv
    exact ⟨e, r, h1, VRel.set t k _ h2, VRel.set t v _ h3, Entries.setO t l r h4⟩
theorem ORel.set (t : SetO D G w w') {o : Obj} {x : Option Go.Obj} (hx : ORel G w o x) : ORel G w' o x := by
  cases o with
  | cells cs =>
    obtain ⟨vs, rest, Tt, fr, h1, h2, h3⟩ := hx
    exact ⟨vs, rest, Tt, fr, h1, VRels.set t _ _ h2, h3⟩
  | map es =>
    obtain ⟨en, k, h1, h2⟩ := hx
    exact ⟨en, k, h1, Entries.setO t _ _ h2⟩
  | loop N tt ps asg body st pend =>
    obtain ⟨r, h1, h2, h3, h4⟩ := hx
    exact ⟨r, h1, h2, fun i => VRel.set t _ _ (h3 i), h4⟩
  | raw c => exact hx
  | bk c => exact hx
theorem RepH.set {h : H} (R : RepH G h w) (t : SetO D G w w') (hD : ¬ h.O G D) : RepH G h w' where
  obj id o ho := by
    obtain ⟨a, b, c, d⟩ := R.obj id o ho
    have hne : G.ι id ≠ D := fun e => hD ⟨id, o, ho, e⟩
    exact ⟨a, b, by rw [t.size]; exact c, by rw [t.same _ hne]; exact d.set t⟩
  inj := R.inj
  tok k hk := ⟨(R.tok k hk).1, fun B e he => by rw [t.size]; exact (R.tok k hk).2 B e he⟩
  tinj := R.tinj
theorem Trans.set {G0 : Ghost} {w0 : World} {h0 h : H} (T : Trans G0 w0 h0 G w h) (t : SetO D G w w') (hD : w0.heap.size ≤ D) : Trans G0 w0 h0 G w' h where
  dom_le := T.dom_le
  dom_new := T.dom_new
  ι_eq := T.ι_eq
  tdom_le := T.tdom_le
  tdom_new := T.tdom_new
  τ_eq := T.τ_eq
  n_le := T.n_le
  m_le := T.m_le
  size_le := by rw [t.size]; exact T.size_le
  os := t.os.trans T.os
  output := t.out.trans T.output
  form B hB := by rw [t.same B (by omega)]; exact T.form B hB
  keep B hB h1 h2 := by rw [t.same B (by omega)]; exact T.keep B hB h1 h2
  own_keep := T.own_keep
  lim_keep := T.lim_keep
  tok_keep B hB h1 h2 e he := ⟨fun j hj => by
    have := (T.tok_keep B hB h1 h2 e he).1 j hj
    rw [← this]
    have hs := t.same B (by omega)
    unfold World.cell?
    simp only [hs], (T.tok_keep B hB h1 h2 e he).2⟩
  O_new := T.O_new
  T_new := T.T_new
  objs_new := T.objs_new
  toks_new := T.toks_new
def ownB (G : Ghost) (D : Nat) : Ghost := { G with own := fun B => B = D ∨ G.own B }
theorem push_own {o : Go.Obj} {h : H} (R : RepH G h w) (hp : Pushed w w' o) : Trans G w h (ownB G w.heap.size) w' h ∧ RepH (ownB G w.heap.size) h w' ∧ ¬ h.O (ownB G w.heap.size) w.heap.size ∧ ¬ h.T (ownB G w.heap.size) w.heap.size := by
  have T : Trans G w h (ownB G w.heap.size) w' h := by
    constructor
    · exact fun _ x => x
    · exact fun _ x => .inl x
    · exact fun _ _ => rfl
    · exact fun _ x => x
    · exact fun _ x => .inl x
    · exact fun _ _ => rfl
    · exact Nat.le_refl _
    · exact Nat.le_refl _
    · rw [hp.size]; omega
    · exact hp.2.1
    · exact hp.2.2
    · intro B hB; rw [hp.old hB]; exact SameForm.refl _
    · exact fun B hB _ _ => hp.old hB
    · intro B hB _
      simp only [ownB]
      constructor
      · rintro (e | x)
        · omega
        · exact x
      · exact .inr
    · exact fun _ _ _ _ => rfl
    · intro B hB ht _ e he
      refine ⟨fun j _ => by unfold World.cell?; simp only [hp.old hB], fun e' he' => ?_⟩
      have he' : G.lim B = some e' := he'
      rw [he] at he'; cases he'; exact Nat.le_refl _
    · exact fun _ _ x => x
    · exact fun _ _ x => x
    · exact fun j o x => .inl ⟨o, x⟩
    · exact fun t x => .inl x
  refine ⟨T, ⟨?_, R.inj, ?_, R.tinj⟩, ?_, ?_⟩
  · intro id o ho
    obtain ⟨a, b, c, d⟩ := R.obj id o ho
    refine ⟨a, .inr b, by rw [hp.size]; show G.ι id < _; omega, ?_⟩
    show ORel _ w' o w'.heap[G.ι id]?
    rw [hp.old c]
    exact ORel.mono R T d
  · intro t ht
    refine ⟨(R.tok t ht).1, fun B e he => ?_⟩
    obtain ⟨a, b, c⟩ := (R.tok t ht).2 B e he
    refine ⟨a, ?_, by rw [hp.size]; omega⟩
    rintro (e | x)
    · omega
    · exact b x
  · rintro ⟨id, o, ho, e⟩
    have := (R.obj id o ho).2.2.1
    have e : G.ι id = w.heap.size := e
    omega
  · rintro ⟨t, ht, e, he⟩
    have := ((R.tok t ht).2 _ e he).2.2
    omega
theorem setO_cell {D : Nat} {v x : Value} {T : TypeId} {fr : Nat × Nat} (hh : w.heap[D]? = some (.cells #[v] T fr)) (ho : G.own D) : SetO D G w (w.setCell ⟨D, 0, none⟩ x) where
  size := by simp [World.setCell]
  same B hB := by
    simp only [World.setCell, Array.getElem?_modify]
    rw [if_neg (fun e => hB e.symm)]
  own := ho
  form c T fr hc := by
    simp only [World.setCell, Array.getElem?_modify, if_true, hc, Option.map_some]
    exact ⟨_, rfl, by simp⟩
  os := rfl
  out := rfl
theorem set_new {D : Nat} {v x : Value} {T : TypeId} {fr : Nat × Nat} (hh : w.heap[D]? = some (.cells #[v] T fr)) : (w.setCell ⟨D, 0, none⟩ x).heap[D]? = some (.cells #[x] T fr) := by
  simp only [World.setCell, Array.getElem?_modify, if_true, hh, Option.map_some]
  rfl
end
end Go.Av
end
section
set_option linter.unusedVariables false
set_option linter.unusedSimpArgs false
namespace Go.Av
section
variable {P : Program} {N : Nat} {s : St} {Q : AExit → St → Prop}
theorem Wp.seqReg {items : List AItem} {p : Option (List (Nat × Nat))} {y : AC} {t' : Tm} {h' : H} {log : List Ent} (he : evalOps items s.t s.h [] = ([], t', h', log)) (hp : pairsQ p log.reverse) (h : Wp P N y ⟨t', h'⟩ Q) : Wp P N (.seq (.reg items p) y) s Q :=
  Wp.seq (Wp.reg (WpItems.eval he (WpItems.nil ⟨hp, h⟩)))
theorem Wp.reg1 {items : List AItem} {p : Option (List (Nat × Nat))} {t' : Tm} {h' : H} {log : List Ent} (he : evalOps items s.t s.h [] = ([], t', h', log)) (hp : pairsQ p log.reverse) (h : Q .normal ⟨t', h'⟩) : Wp P N (.reg items p) s Q :=
  Wp.reg (WpItems.eval he (WpItems.nil ⟨hp, h⟩))
theorem Wp.seqItems {items its : List AItem} {p : Option (List (Nat × Nat))} {y : AC} {t' : Tm} {h' : H} {log : List Ent} (he : evalOps items s.t s.h [] = (its, t', h', log)) (h : WpItems P N its t' h' log fun t h l => pairsQ p l ∧ Wp P N y ⟨t, h⟩ Q) : Wp P N (.seq (.reg items p) y) s Q :=
  Wp.seq (Wp.reg (WpItems.eval he h))
theorem Wp.items {items its : List AItem} {p : Option (List (Nat × Nat))} {t' : Tm} {h' : H} {log : List Ent} (he : evalOps items s.t s.h [] = (its, t', h', log)) (h : WpItems P N its t' h' log fun t h l => pairsQ p l ∧ Q .normal ⟨t, h⟩) : Wp P N (.reg items p) s Q :=
  Wp.reg (WpItems.eval he h)
def tm : List (Nat × AV) → Tm
  | [] => fun _ => .any
  | (i, v) :: l => upd (tm l) i v
def AllSub (t : Tm) : List (Nat × AV) → Prop
  | [] => True
  | (i, v) :: l => VSub (t i) v ∧ AllSub t l
theorem tm_le {t : Tm} : ∀ {l : List (Nat × AV)}, AllSub t l → ∀ i, VSub (t i) (tm l i)
  | [], _, i => VSub.any _
  | (k, v) :: l, h, i => by
    simp only [tm, upd]
    split
    · rename_i e; subst e; exact h.1
    · exact tm_le h.2 i
theorem StLe.tm {t : Tm} {h : H} {l : List (Nat × AV)} (hs : AllSub t l) : StLe ⟨t, h⟩ ⟨Av.tm l, h⟩ := StLe.mk' (tm_le hs) h.sub_refl.le (Nat.le_refl _) (Nat.le_refl _)
theorem Wp.loopT {β : Type} (S : β → List (Nat × AV)) (I : β → Prop) (μ : β → Nat) {c : AC} {h : H} {t : Tm} (b0 : β) (h0 : I b0) (hs : AllSub t (S b0))
    (round : ∀ b, I b → Wp P N c ⟨tm (S b), h⟩ (AExit.andThen (fun s' => ∃ b', I b' ∧ μ b' < μ b ∧ StLe s' ⟨tm (S b'), h⟩) Q)) : Wp P N (.loop c) ⟨t, h⟩ Q :=
  Wp.loop (fun b => ⟨tm (S b), h⟩) I μ b0 h0 (StLe.tm hs) round
theorem AllSub.append {t : Tm} : ∀ {l m : List (Nat × AV)}, AllSub t l → AllSub t m → AllSub t (l ++ m)
  | [], _, _, h => h
  | (_, _) :: _, _, h, h' => ⟨h.1, AllSub.append h.2 h'⟩
theorem AllSub.self {t : Tm} : ∀ (L : List Nat), AllSub t (L.map fun i => (i, t i))
  | [] => trivial
  | _ :: L => ⟨VSub.refl _, AllSub.self L⟩
theorem Wp.loopK {β : Type} (L : List Nat) {K : List (Nat × AV)} {c : AC} {h : H} {t : Tm} (hK : (L.map fun i => (i, t i)) = K) (ch : β → List (Nat × AV)) (I : β → Prop) (μ : β → Nat) (b0 : β) (h0 : I b0) (hs : AllSub t (ch b0))
    (round : ∀ b, I b → Wp P N c ⟨tm (K ++ ch b), h⟩ (AExit.andThen (fun s' => ∃ b', I b' ∧ μ b' < μ b ∧ StLe s' ⟨tm (K ++ ch b'), h⟩) Q)) : Wp P N (.loop c) ⟨t, h⟩ Q :=
  Wp.loopT (fun b => K ++ ch b) I μ b0 h0 (AllSub.append (hK ▸ AllSub.self L) hs) round
theorem VSub.int {k : IntKind} {a b : Int} (h : a = b) : VSub (.int k a) (.int k b) := h ▸ VSub.refl _
theorem VSub.of_eq {x y : AV} (h : x = y) : VSub x y := h ▸ VSub.refl _
def capPure : Cap → Bool
  | .own _ => false
  | _ => true
mutual
def isPure : AV → Bool
  | .sl _ xs c => capPure c && allPure xs
  | .ref cs => allPure cs
  | .agg cs => allPure cs
  | .tup cs => allPure cs
  | .ptr _ _ | .tsl _ _ _ _ _ | .mp _ | .yld _ => false
  | .clo _ a b => allPure a && allPure b
  | .ifc _ x => isPure x
  | .slt _ xs ys => allPure xs && allPure ys
  | _ => true
def allPure : List AV → Bool
  | [] => true
  | x :: xs => isPure x && allPure xs
end
mutual
theorem isPure_ok : ∀ (x : AV), isPure x = true → VPure x
  | .any, _ => fun _ _ _ _ _ _ h => h
  | .int _ _, _ => fun _ _ _ _ _ _ h => h
  | .bool _, _ => fun _ _ _ _ _ _ h => h
  | .str _, _ => fun _ _ _ _ _ _ h => h
  | .sc _, _ => fun _ _ _ _ _ _ h => h
  | .sl sz xs c, hp => by
    simp only [isPure, Bool.and_eq_true] at hp
    intro G G' w v e1 e2 h
    simp only [VRel] at h ⊢
    rcases h with h | ⟨B, off, C, vs, h1, h2, h3, h4, h5, h6⟩
    · exact .inl h
    · refine .inr ⟨B, off, C, vs, h1, h2, h3, allPure_els xs hp.2 G G' w sz vs e1 e2 h4, fun i v hv => ?_, ?_⟩
      · rw [e1, e2]; exact h5 i v hv
      · cases c with
        | own t => simp [capPure] at hp
        | any => trivial
        | exact k => exact h6
  | .ref cs, hp => by
    simp only [isPure] at hp
    intro G G' w v e1 e2 h
    simp only [VRel] at h ⊢
    obtain ⟨B, off, vs, h1, h2, h3⟩ := h
    exact ⟨B, off, vs, h1, allPure_ok cs hp G G' w vs e1 e2 h2, fun i v hv => by rw [e1, e2]; exact h3 i v hv⟩
  | .agg cs, hp => by
    simp only [isPure] at hp
    intro G G' w v e1 e2 h
    simp only [VRel] at h ⊢
    obtain ⟨vs, h1, h2⟩ := h
    exact ⟨vs, h1, allPure_ok cs hp G G' w vs e1 e2 h2⟩
  | .tup cs, hp => by
    simp only [isPure] at hp
    intro G G' w v e1 e2 h
    simp only [VRel] at h ⊢
    obtain ⟨vs, h1, h2⟩ := h
    exact ⟨vs, h1, allPure_ok cs hp G G' w vs e1 e2 h2⟩
  | .ptr _ _, hp => by simp [isPure] at hp
  | .tsl _ _ _ _ _, hp => by simp [isPure] at hp
  | .mp _, hp => by simp [isPure] at hp
  | .yld _, hp => by simp [isPure] at hp
  | .slt sz xs ys, hp => by
    simp only [isPure, Bool.and_eq_true] at hp
    intro G G' w v e1 e2 h
    simp only [VRel] at h ⊢
    obtain ⟨B, off, C, us, vs, h1, h2, h3, h4, h5, h6⟩ := h
    exact ⟨B, off, C, us, vs, h1, h2, h3, allPure_els xs hp.1 G G' w sz us e1 e2 h4, allPure_els ys hp.2 G G' w sz vs e1 e2 h5, fun i v hv => by rw [e1, e2]; exact h6 i v hv⟩
  | .clo f a b, hp => by
    simp only [isPure, Bool.and_eq_true] at hp
    intro G G' w v e1 e2 h
    simp only [VRel] at h ⊢
    obtain ⟨vs, us, h1, h2, h3⟩ := h
    exact ⟨vs, us, h1, allPure_ok a hp.1 G G' w vs e1 e2 h2, allPure_ok b hp.2 G G' w us e1 e2 h3⟩
  | .sup B, _ => fun _ _ _ _ _ _ h => by simpa only [VRel] using h
  | .supb B, _ => fun G G' w v e1 e2 h => by
    simp only [VRel] at h ⊢
    obtain ⟨l, h1, h2 | ⟨D, off, C, h2, h3, h4⟩⟩ := h
    · exact ⟨l, h1, .inl h2⟩
    · exact ⟨l, h1, .inr ⟨D, off, C, h2, h3, fun i v hv => by rw [e1, e2]; exact h4 i v hv⟩⟩
  | .wint k, _ => fun _ _ _ _ _ _ h => by simpa only [VRel] using h
  | .one, _ => fun _ _ _ _ _ _ h => by simpa only [VRel] using h
  | .ifc t x, hp => by
    simp only [isPure] at hp
    intro G G' w v e1 e2 h
    simp only [VRel] at h ⊢
    obtain ⟨u, h1, h2⟩ := h
    exact ⟨u, h1, isPure_ok x hp G G' w u e1 e2 h2⟩
theorem allPure_ok : ∀ (l : List AV), allPure l = true → VPures l
  | [], _ => fun _ _ _ _ _ _ h => by simpa only [VRels] using h
  | x :: xs, hp => by
    simp only [allPure, Bool.and_eq_true] at hp
    intro G G' w vs e1 e2 h
    simp only [VRels] at h ⊢
    obtain ⟨v, us, h1, h2, h3⟩ := h
    exact ⟨v, us, h1, isPure_ok x hp.1 G G' w v e1 e2 h2, allPure_ok xs hp.2 G G' w us e1 e2 h3⟩
theorem allPure_els : ∀ (l : List AV), allPure l = true → ∀ (G G' : Ghost) (w : World) (sz : Nat) (vs : List Value), G'.own = G.own → G'.lim = G.lim → VElems G w sz l vs → VElems G' w sz l vs
  | [], _ => fun _ _ _ _ _ _ _ h => by simpa only [VElems] using h
  | x :: xs, hp => by
    simp only [allPure, Bool.and_eq_true] at hp
    intro G G' w sz vs e1 e2 h
    simp only [VElems] at h ⊢
    obtain ⟨v, us, h1, h2, h3, h4⟩ := h
    exact ⟨v, us, h1, h2, isPure_ok x hp.1 G G' w v e1 e2 h3, allPure_els xs hp.2 G G' w sz us e1 e2 h4⟩
end
theorem allPure_map {α : Type} {f : α → AV} (h : ∀ x, isPure (f x) = true) : ∀ l : List α, allPure (l.map f) = true
  | [] => rfl
  | x :: l => by simp [allPure, h x, allPure_map h l]
def strs (l : List (List UInt8)) : List AV := l.map .str
def ints (l : List Int) : List AV := l.map (.int .i64)
theorem strs_pure (l : List (List UInt8)) : allPure (strs l) = true := allPure_map (fun _ => rfl) l
theorem strs_length (l : List (List UInt8)) : (strs l).length = l.length := by simp [strs]
theorem ints_length (l : List Int) : (ints l).length = l.length := by simp [ints]
theorem bytes_length (l : List UInt8) : (bytesAV l).length = l.length := by simp [bytesAV]
end
def lit : Bool → Bool
  | true => true
  | false => true
def pk : Bool → AC → AC → AC
  | true, x, _ => x
  | false, _, y => y
theorem Wp.cond_lit {P : Program} {N : Nat} {s : St} {Q : AExit → St → Prop} {c : Opd} {x y : AC} {b : Bool} (hb : ev s.t c = .bool b) (_ : lit b = true) (h : Wp P N (pk b x y) s Q) : Wp P N (.cond c x y) s Q := by
  cases b
  · exact Wp.cond_false hb h
  · exact Wp.cond_true hb h
theorem bx : ((false = true) = False) ∧ (∀ b : Bool, (true == b) = b) ∧ (∀ b : Bool, (false == b) = !b) ∧ ((!true) = false) ∧ ((!false) = true) :=
  ⟨Bool.false_eq_true, Bool.true_beq, Bool.false_beq, Bool.not_true, Bool.not_false⟩
theorem ax : (∀ p : Prop, (p ∧ p) = p) ∧ (∀ p : Prop, (True ∧ p) = p) ∧ (∀ p : Prop, (p ∧ True) = p) ∧ (∀ p : Prop, (True ∨ p) = True) ∧ (∀ p : Prop, (p ∨ True) = True) ∧ (∀ n : Nat, 0 * n = 0) ∧ (∀ n : Nat, 1 * n = n) ∧ (∀ n : Nat, 0 ≤ n)
    ∧ (∀ h : Decidable True, @decide True h = true) ∧ (∀ h : Decidable False, @decide False h = false) ∧ (∀ n : Nat, ((n : Nat) : Int).toNat = n) ∧ (∀ (α : Type) (a b : List α), (a ++ b).length = a.length + b.length)
    ∧ (∀ (α : Type) (p : α → Bool) (x : α) (l : List α), List.filter p (x :: l) = if p x = true then x :: List.filter p l else List.filter p l) ∧ (∀ (α : Type) (p : α → Bool), List.filter p [] = []) ∧ (∀ (α : Type) (a b : α), (a ≠ b) = ¬ (a = b)) ∧ ((¬ True) = False) ∧ ((¬ False) = True) :=
  ⟨and_self, true_and, and_true, true_or, or_true, Nat.zero_mul, Nat.one_mul, Nat.zero_le, fun _ => decide_true _, fun _ => decide_false _, Int.toNat_natCast, fun _ _ _ => List.length_append, fun _ _ _ _ => List.filter_cons, fun _ _ => List.filter_nil, fun _ _ _ => rfl, not_true_eq_false, not_false_eq_true⟩
attribute [go_sem] undef evalOps guardOf aop ev putT upd initT H0 H.only none' isCell cellsOf shaped part bin binF binC rawAV putVals binInt binStr binShift isShift unop eqB eqP eqN eqA eqCells eqCell mm mfind lookAV putEs putEsK delEs eqM slice bound capCut setAt putParts tm
  strs_length ints_length bytes_length List.getElem?_cons_zero List.getElem?_cons_succ List.getD_cons_zero List.getD_cons_succ Option.map_some Option.map_none Option.bind_some Option.bind_none List.all_cons List.all_nil Bool.and_self Bool.true_and Bool.and_true
  List.length_cons List.length_nil List.map_cons List.map_nil List.drop_succ_cons List.drop_zero List.take_succ_cons List.take_zero List.drop_nil List.take_nil Nat.zero_add Nat.add_zero List.append_nil List.nil_append List.cons_append Bool.or_false Bool.false_or Bool.or_true Bool.true_or
end Go.Av
end
section
set_option linter.unusedVariables false
set_option linter.unusedSimpArgs false
namespace Go.Av
section
variable {P : Program} {N : Nat}
variable {s : St} {Q : AExit → St → Prop}
end
section
variable {P : Program} {N : Nat}
def RCalls (P : Program) (f : FuncId) (args : List AV) (objs : Nat → Option Obj) (r : AV) : Prop := ∀ n m, ACalls P f args (.only objs [] n m) r (.only objs [] n m)
end
theorem filter_self (t : Nat) : List.filter (fun x => decide (x ≠ t)) [t] = [] := by simp
theorem id_ne1 (k : Nat) : (k = k + 1) = False := by simp
theorem id_ne2 (k : Nat) : (k + 1 = k) = False := by simp
attribute [go_sem] id_ne1 id_ne2 filter_self List.mem_singleton List.mem_cons true_or
end Go.Av
end
section
set_option linter.unusedVariables false
set_option linter.unusedSimpArgs false
namespace Go.Av
structure Fun where
  N : Nat
  ac : AC
  ds : List RV
inductive FT where
  | leaf
  | node (k : Nat) (F : Fun) (l r : FT)
def FT.get (f : Nat) : FT → Option Fun
  | .leaf => none
  | .node k F l r => match Nat.beq f k with
    | true => some F
    | false => match Nat.ble f k with
      | true => FT.get f l
      | false => FT.get f r
def FT.Ok (P : Program) : FT → Prop
  | .leaf => True
  | .node k F l r => FnIs P k F.N F.ac F.ds ∧ l.Ok P ∧ r.Ok P
def FT.named (P : Program) : FT → Bool
  | .leaf => true
  | .node k F l r => ((P.funcs[k]?).any fun fn => fn.name != "runtime.NumGoroutine") && l.named P && r.named P
theorem FT.get_ok {P : Program} {f : Nat} {F : Fun} : ∀ {T : FT}, T.Ok P → T.named P = true → T.get f = some F → FnIs P f F.N F.ac F.ds ∧ ∃ fn, P.funcs[f]? = some fn ∧ fn.body.isSome = true ∧ fn.name ≠ "runtime.NumGoroutine"
  | .leaf, _, _, h => by cases h
  | .node k F' l r, ok, nm, h => by
    simp only [FT.named, Bool.and_eq_true] at nm
    simp only [FT.get] at h
    split at h
    · rename_i e
      cases h
      have e := Nat.eq_of_beq_eq_true e
      subst e
      refine ⟨ok.1, ?_⟩
      obtain ⟨fn, h1, h2, h3, h4⟩ := ok.1
      refine ⟨fn, h1, ?_, ?_⟩
      · obtain ⟨code, hb, _⟩ := Option.bind_eq_some_iff.1 h3
        rw [hb]; rfl
      · have := nm.1.1
        rw [h1] at this
        simpa using this
    · split at h
      · exact FT.get_ok ok.2.1 nm.1.2 h
      · exact FT.get_ok ok.2.2 nm.2 h
mutual
def idsA : AV → List Nat
  | .sl _ xs _ => idsAs xs
  | .ref cs => idsAs cs
  | .agg cs => idsAs cs
  | .tup cs => idsAs cs
  | .ptr i _ => [i]
  | .tsl _ i _ _ _ => [i]
  | .mp i => [i]
  | .yld i => [i]
  | .slt _ xs ys => idsAs xs ++ idsAs ys
  | .clo _ a b => idsAs a ++ idsAs b
  | .ifc _ x => idsA x
  | _ => []
def idsAs : List AV → List Nat
  | [] => []
  | x :: xs => match idsA x with
    | [] => idsAs xs
    | l => l ++ idsAs xs
end
def toksC : Cap → List Nat
  | .own t => [t]
  | _ => []
mutual
def toksA : AV → List Nat
  | .sl _ xs c => toksC c ++ toksAs xs
  | .ref cs => toksAs cs
  | .agg cs => toksAs cs
  | .tup cs => toksAs cs
  | .clo _ a b => toksAs a ++ toksAs b
  | .ifc _ x => toksA x
  | .slt _ xs ys => toksAs xs ++ toksAs ys
  | _ => []
def toksAs : List AV → List Nat
  | [] => []
  | x :: xs => match toksA x with
    | [] => toksAs xs
    | l => l ++ toksAs xs
end
def reach (objs : Nat → Option Obj) : Nat → List Nat → List Nat → List Nat
  | 0, _, seen => seen
  | _ + 1, [], seen => seen
  | k + 1, i :: todo, seen => match seen.contains i with
    | true => reach objs k todo seen
    | false => match objs i with
      | some (.cells cs) => reach objs k (idsAs cs ++ todo) (i :: seen)
      | some (.map es) => reach objs k (es.flatMap (fun e => idsA e.1 ++ idsA e.2) ++ todo) (i :: seen)
      | some (.loop _ _ _ _ _ _ _) => reach objs k todo seen
      | some (.raw _) => reach objs k todo seen
      | some (.bk _) => reach objs k todo seen
      | none => reach objs k todo seen
def toksIn (objs : Nat → Option Obj) (l : List Nat) : List Nat := l.flatMap fun j => match objs j with
  | some (.cells cs) => toksAs cs
  | some (.map es) => es.flatMap fun e => toksA e.1 ++ toksA e.2
  | some (.loop _ _ _ _ _ _ _) => []
  | some (.raw _) => []
  | some (.bk _) => []
  | none => []
def H.cut (h : H) (ids toks : List Nat) : H := ⟨fun j => match ids.contains j with | true => h.objs j | false => none, h.n, h.toks.filter fun t => toks.contains t, h.m⟩
def isEndB : AExit → Bool
  | .normal | .ret => true
  | _ => false
def pairsB : List (Nat × Nat) → List Ent → Bool
  | [], _ => true
  | (i, j) :: l, log =>
    let e := log.getD i ent0
    let f := log.getD j ent0
    e.wr.all (fun id => !f.rd.contains id && !f.wr.contains id) && f.wr.all (fun id => !e.rd.contains id && !e.wr.contains id) && e.tk.all (fun t => !f.tk.contains t) && pairsB l log
def pairsQB : Option (List (Nat × Nat)) → List Ent → Bool
  | none, _ => true
  | some l, log => pairsB l log
theorem pairsB_ok : ∀ {l : List (Nat × Nat)} {log : List Ent}, pairsB l log = true → pairsOk l log
  | [], _, _ => trivial
  | (i, j) :: l, log, h => by
    simp only [pairsB, Bool.and_eq_true, List.all_eq_true, Bool.not_eq_true', List.contains_eq_mem, decide_eq_false_iff_not] at h
    exact ⟨⟨fun id hid => h.1.1.1 id hid, fun id hid => h.1.1.2 id hid, fun t ht => h.1.2 t ht⟩, pairsB_ok h.2⟩
abbrev Prims := Nat → List AV → H → Option (AV × H × Ent)
def callF (T : FT) (pr : Prims) (rn : Nat → AC → St → Option (AExit × St)) (f : Nat) (args : List AV) (h : H) : Option (AV × H × Ent) :=
  match pr f args h with
  | some r => some r
  | none => match T.get f with
  | none => none
  | some F => match Nat.ble args.length F.N with
    | false => none
    | true => match allPure args with
      | true => match rn F.N F.ac ⟨initT args, H0 h.n h.m⟩ with
        | some (e, s') => match isEndB e, resOf F.ds s'.t s'.h with
          | true, some r => match isPure r with
            | true => some (r, h, ent0)
            | false => match Nat.ble h.n s'.h.n && Nat.ble h.m s'.h.m with
              | true => some (r, h.patch (H0 h.n h.m) s'.h, ⟨[], (List.range (s'.h.n - h.n)).map (h.n + ·), s'.h.toks⟩)
              | false => none
          | _, _ => none
        | none => none
      | false =>
        let ids := reach h.objs 1000000 (idsAs args) []
        let h1 := h.cut ids (toksAs args ++ toksIn h.objs ids)
        match rn F.N F.ac ⟨initT args, h1⟩ with
        | some (e, s') => match isEndB e, resOf F.ds s'.t s'.h with
          | true, some r => match Nat.ble h.n s'.h.n && Nat.ble h.m s'.h.m with
            | true => some (r, h.patch h1 s'.h, ⟨[], ids ++ (List.range (s'.h.n - h.n)).map (h.n + ·), h1.toks ++ s'.h.toks⟩)
            | false => none
          | _, _ => none
        | none => none
def runItems (call : Nat → List AV → H → Option (AV × H × Ent)) : List AItem → Tm → H → List Ent → Option (Tm × H × List Ent)
  | [], t, h, l => some (t, h, l)
  | ⟨dst, g, op⟩ :: its, t, h, l => match guardOf t g with
    | some true => match op with
      | .call f args => match call f (args.map (ev t)) h with
        | some (r, h', en) => runItems call its (putT t dst r) h' (en :: l)
        | none => none
      | .callv y args => match ev t y with
        | .clo (.func f) first caps => match call f (first ++ args.map (ev t) ++ caps) h with
          | some (r, h', en) => runItems call its (putT t dst r) h' (en :: l)
          | none => none
        | _ => none
      | op => match aop (ev t) h op with
        | some (x, h', en) => runItems call its (putT t dst x) h' (en :: l)
        | none => none
    | some false => runItems call its (putT t dst (.sc undef)) h (ent0 :: l)
    | none => none
def lookN (l : List (Nat × Obj)) (i : Nat) : Option Obj := match l with
  | [] => none
  | (j, o) :: r => match Nat.beq i j with
    | true => some o
    | false => lookN r i
def norm (N : Nat) (s : St) : St :=
  let l := (List.range N).map s.t
  let o := (List.range s.h.n).filterMap fun j => (s.h.objs j).map fun x => (j, x)
  ⟨fun i => l.getD i .any, { s.h with objs := lookN o }⟩
def runS (rn : AC → St → Option (AExit × St)) (nm : St → St) : Nat → AC → AC → St → Option (AExit × St)
  | 0, _, _, _ => none
  | k + 1, c, cur, s => match rn cur s with
    | some (.goto l, s') => match findL c l with
      | some rest => runS rn nm k c rest (nm s')
      | none => some (.goto l, s')
    | r => r
def run (T : FT) (pr : Prims) : Nat → Nat → AC → St → Option (AExit × St)
  | 0, _, _, _ => none
  | k + 1, N, c, s => match c with
    | .skip => some (.normal, s)
    | .ret => some (.ret, s)
    | .exit i => some (.exit i, s)
    | .reg items p => match runItems (callF T pr (run T pr k)) items s.t s.h [] with
      | some (t, h, l) => match pairsQB p l.reverse with
        | true => some (.normal, ⟨t, h⟩)
        | false => none
      | none => none
    | .seq a b => match run T pr k N a s with
      | some (.normal, s') => run T pr k N b s'
      | r => r
    | .cond c a b => match ev s.t c with
      | .bool true => run T pr k N a s
      | .bool false => run T pr k N b s
      | _ => none
    | .block id a => match run T pr k N a s with
      | some (.exit i, s') => match Nat.beq i id with
        | true => some (.normal, s')
        | false => some (.exit i, s')
      | r => r
    | .loop a => match run T pr k N a s with
      | some (.normal, s') => run T pr k N (.loop a) (norm N s')
      | r => r
    | .label _ => some (.normal, s)
    | .goto l => some (.goto l, s)
    | .scope a => runS (run T pr k N) (norm N) k a a s
    | .rfun _ _ _ _ => none
section
variable {P : Program} {T : FT}
theorem isEndB_ok {e : AExit} (h : isEndB e = true) : isEnd e := by cases e <;> simp_all [isEndB, isEnd]
theorem touch_gen (h h1 h1' : H) {ids : List Nat} (hs : h1.sub h) (n : h1.n = h.n) (m : h1.m = h.m) (hi : ∀ id, (h1.objs id).isSome → id ∈ ids) (le : h.n ≤ h1'.n) (lem : h.m ≤ h1'.m) :
    Touch h h1 h1' (h.patch h1 h1') ⟨[], ids ++ (List.range (h1'.n - h.n)).map (h.n + ·), h1.toks ++ h1'.toks⟩ where
  sub := hs
  n := n
  m := m
  eq := rfl
  rd id x := .inr (List.mem_append_left _ (hi id x))
  wr id a b := List.mem_append_right _ (List.mem_map.2 ⟨id - h.n, by simp; omega, by omega⟩)
  chg id x hx := absurd (List.mem_append_left _ (hi id x)) hx
  tk t x := List.mem_append_left _ x
  tn t x := List.mem_append_right _ x
  le := by omega
  lem := by omega
theorem cut_sub (h : H) (ids toks : List Nat) : (h.cut ids toks).sub h := by
  refine ⟨fun j o hj => ?_, fun t ht => ?_⟩
  · simp only [H.cut] at hj
    split at hj
    · exact hj
    · cases hj
  · simp only [H.cut, List.mem_filter] at ht
    exact ht.1
theorem cut_ids (h : H) (ids toks : List Nat) (id : Nat) (hx : ((h.cut ids toks).objs id).isSome) : id ∈ ids := by
  simp only [H.cut] at hx
  split at hx
  · rename_i e; simpa using e
  · cases hx
theorem ACalls.pure0 {f : FuncId} {args : List AV} {r r' : AV} {h' : H} (ha : VPures args) (hc : ACalls P f args (H0 0 0) r h') (hs : VSub r r') (hp : VPure r') : PCalls P f args r' := by
  intro n m G w vs hv R F
  let G0 : Ghost := { G with dom := fun _ => False, tdom := fun _ => False }
  refine (hc G0 w vs (ha G G0 w vs rfl rfl hv) only_rep ⟨fun _ _ _ h => h, fun _ _ _ h => h⟩).mono ?_
  rintro e w' ⟨v, G', rfl, T, R', V⟩
  refine ⟨v, { G' with dom := G.dom, ι := G.ι, tdom := G.tdom, τ := G.τ }, rfl, ?_, only_rep, hp G' _ w' v rfl rfl (hs G' w' v V)⟩
  have hO : ∀ {G : Ghost} {n m} B, ¬ (H0 n m).O G B := fun B => only_O B
  have hT : ∀ {G : Ghost} {n m} B, ¬ (H0 n m).T G B := fun B ⟨t, ht, _⟩ => by simp [H0, H.only] at ht
  constructor
  · exact fun _ x => x
  · exact fun _ => .inl
  · exact fun _ _ => rfl
  · exact fun _ x => x
  · exact fun _ => .inl
  · exact fun _ _ => rfl
  · exact Nat.le_refl _
  · exact Nat.le_refl _
  · exact T.size_le
  · exact T.os
  · exact T.output
  · exact T.form
  · exact fun B hB _ _ => T.keep B hB (hO B) (hT B)
  · exact fun B hB _ => T.own_keep B hB (hO B)
  · exact fun B hB _ _ => T.lim_keep B hB (hO B) (hT B)
  · exact fun B hB x => absurd x (hT B)
  · exact fun B _ x => absurd x (hO B)
  · exact fun B _ x => absurd x (hT B)
  · exact fun j o x => by simp [H0, H.only, none'] at x
  · exact fun t x => by simp [H0, H.only] at x
theorem FnIs.pcalls0 {f : FuncId} {N : Nat} {ac : AC} {args : List AV} {ds : List RV} {r : AV} (hF : FnIs P f N ac ds) (hl : args.length ≤ N) (ha : allPure args = true) (hp : isPure r = true) (hw : Wp P N ac ⟨initT args, H0 0 0⟩ fun e s' => isEnd e ∧ ∃ q, resOf ds s'.t s'.h = some q ∧ VSub q r) : PCalls P f args r := by
  obtain ⟨r', h', hcall, hs⟩ := hF.acalls (Q := fun r' _ => VSub r' r) hl hw
  exact hcall.pure0 (allPure_ok _ ha) hs (isPure_ok _ hp)
end
end Go.Av
end
section
set_option linter.unusedSimpArgs false
set_option linter.unusedVariables false
set_option maxRecDepth 10000
namespace Go.Av
section
variable {P : Program}
def cloneC (sz bytes : Nat) : AC := (.seq (.reg [⟨some 2, none, .mov (.c (.sl sz [] (.exact 0)))⟩] none)
 (.seq (.seq (.reg [⟨some 3, none, .mov (.t 0)⟩, ⟨some 4, none, .eqN false (.t 3)⟩] none)
 (.cond (.t 4) (.seq (.reg [⟨some 2, none, .mov (.c (.sl sz [] (.exact 0)))⟩] none)
 .ret) .skip))
 (.seq (.reg [⟨some 5, none, .buildSl sz []⟩, ⟨some 6, none, .mov (.t 0)⟩, ⟨some 7, none, .app false sz bytes (.t 5) (.t 6)⟩, ⟨some 2, none, .mov (.t 7)⟩] none)
 .ret)))
theorem VSub.own {sz : Nat} {xs : List AV} {t : Nat} : VSub (.sl sz xs (.own t)) (.sl sz xs .any) := VSub.cap
theorem VSub.sc_empty {sz : Nat} {a : Option Addr} {C : Nat} (h : C = 0 ∨ ∃ B off, a = some ⟨B, off, none⟩) : VSub (.sc (.slice a 0 C)) (.sl sz [] .any) := by
  intro G w v hv
  simp only [VRel] at hv
  subst hv
  unfold VRel
  rcases h with rfl | ⟨B, off, rfl⟩
  · exact .inl ⟨rfl, ⟨a, rfl⟩, trivial⟩
  · exact .inr ⟨B, off, C, [], rfl, Nat.zero_le _, by simp, by simp [VElems], Imm.nil, trivial⟩
theorem ACalls.split_empty {f : FuncId} {sz : Nat} {c : Cap} {rest : List AV} {h h' : H} {r : AV} (hc : ∀ a C, (C = 0 ∨ ∃ B off, a = some ⟨B, off, none⟩) → ACalls P f (.sc (.slice a 0 C) :: rest) h r h') : ACalls P f (.sl sz [] c :: rest) h r h' := by
  intro G w vs hv R F
  simp only [VRels] at hv
  obtain ⟨v, us, rfl, hv, hr⟩ := hv
  simp only [VRel] at hv
  rcases hv with ⟨-, ⟨a, rfl⟩, -⟩ | ⟨B, off, C, ws, rfl, -⟩
  · exact hc a 0 (.inl rfl) G w _ (.cons (by simp [VRel]) hr) R F
  · exact hc _ C (.inr ⟨B, off, rfl⟩) G w _ (.cons (by simp [VRel]) hr) R F
def OLe (f f' : Nat → Option Obj) : Prop := ∀ j o', f' j = some o' → ∃ o, f j = some o ∧ OSub o o'
theorem OLe.refl (f : Nat → Option Obj) : OLe f f := fun j o h => ⟨o, h, OSub.refl o⟩
theorem OLe.none (f : Nat → Option Obj) : OLe f none' := fun j o h => by cases h
theorem OLe.upd {f f' : Nat → Option Obj} {i : Nat} {o o' : Obj} (h : OLe f f') (hs : OSub o o') : OLe (upd f i (some o)) (upd f' i (some o')) := by
  intro j p hp
  simp only [Go.Av.upd] at hp ⊢
  split at hp
  · rename_i e; rw [if_pos e]; cases hp; exact ⟨o, rfl, hs⟩
  · rename_i e; rw [if_neg e]; exact h j p hp
theorem StLe.of {t t' : Tm} {f f' : Nat → Option Obj} {n n' m m' : Nat} {k k' : List Nat} (ht : ∀ i, VSub (t i) (t' i)) (ho : OLe f f') (hk : ∀ x ∈ k', x ∈ k) (hn : n ≤ n') (hm : m ≤ m') : StLe ⟨t, ⟨f, n, k, m⟩⟩ ⟨t', ⟨f', n', k', m'⟩⟩ :=
  StLe.mk' ht ⟨ho, hk⟩ hn hm
theorem OLe.put {f f' : Nat → Option Obj} {i : Nat} {o o' : Obj} (h : OLe f f') (hf : f i = some o) (hs : OSub o o') : OLe f (Go.Av.upd f' i (some o')) := by
  intro j p hp
  simp only [Go.Av.upd] at hp
  split at hp
  · rename_i e; subst e; cases hp; exact ⟨o, hf, hs⟩
  · exact h j p hp
end
end Go.Av
end
section
set_option linter.unusedVariables false
set_option linter.unusedSimpArgs false
namespace Go.Av
open Classical in
section
variable {P : Program} {G : Ghost} {h : H} {w : World}
def H.DO (h : H) (G : Ghost) (d : Nat → Bool) (B : Nat) : Prop := ∃ id o, d id = true ∧ h.objs id = some o ∧ G.ι id = B
def H.drop (h : H) (d : Nat → Bool) : H := { h with objs := fun j => if d j then none else h.objs j }
noncomputable def Ghost.frz (G : Ghost) (h : H) (d : Nat → Bool) : Ghost :=
  { G with own := fun B => G.own B ∧ ¬ h.DO G d B, lim := fun B => if h.DO G d B then none else G.lim B }
theorem DO_O {d : Nat → Bool} {B : Nat} (x : h.DO G d B) : h.O G B := by
  obtain ⟨id, o, -, a, b⟩ := x
  exact ⟨id, o, a, b⟩
theorem frz_trans (d : Nat → Bool) : Trans G w h (G.frz h d) w (h.drop d) := by
  have hsub : ∀ B, (h.drop d).O (G.frz h d) B → h.O G B := by
    rintro B ⟨id, o, a, b⟩
    simp only [H.drop] at a
    split at a
    · cases a
    · exact ⟨id, o, a, b⟩
  constructor
  · exact fun _ x => x
  · exact fun _ => .inl
  · exact fun _ _ => rfl
  · exact fun _ x => x
  · exact fun _ => .inl
  · exact fun _ _ => rfl
  · exact Nat.le_refl _
  · exact Nat.le_refl _
  · exact Nat.le_refl _
  · rfl
  · rfl
  · intro B hB
    exact SameForm.refl _
  · exact fun _ _ _ _ => rfl
  · intro B hB hO
    have : ¬ h.DO G d B := fun x => hO (DO_O x)
    simp [Ghost.frz, this]
  · intro B hB hO hT
    have : ¬ h.DO G d B := fun x => hO (DO_O x)
    simp [Ghost.frz, this]
  · intro B hB hT hO e he
    have : ¬ h.DO G d B := fun x => hO (DO_O x)
    refine ⟨fun _ _ => rfl, fun e' he' => ?_⟩
    simp only [Ghost.frz, this, if_false] at he'
    rw [he] at he'
    cases he'
    exact Nat.le_refl _
  · exact fun B _ x => hsub B x
  · exact fun B _ x => x
  · intro j o a
    simp only [H.drop] at a
    split at a
    · cases a
    · exact .inl ⟨o, a⟩
  · exact fun t x => .inl x
theorem frz_rep (R : RepH G h w) (d : Nat → Bool) : RepH (G.frz h d) (h.drop d) w := by
  have hd : ∀ {id o}, (h.drop d).objs id = some o → h.objs id = some o ∧ d id = false := by
    intro id o a
    simp only [H.drop] at a
    split at a
    · cases a
    · rename_i q; exact ⟨a, by simpa using q⟩
  constructor
  · intro id o a
    obtain ⟨a, q⟩ := hd a
    obtain ⟨r1, r2, r3, r4⟩ := R.obj id o a
    refine ⟨r1, ⟨r2, ?_⟩, r3, ?_⟩
    · rintro ⟨id', o', x1, x2, x3⟩
      have := R.inj _ _ _ _ x2 a x3
      subst this
      rw [x1] at q; cases q
    · cases o with
      | cells cs =>
        obtain ⟨vs, rest, T, fr, y1, y2, y3⟩ := r4
        exact ⟨vs, rest, T, fr, y1, VRels.mono R (frz_trans d) _ _ y2, y3⟩
      | map es =>
        obtain ⟨en, clock, y1, y2⟩ := r4
        exact ⟨en, clock, y1, Entries.mono R (frz_trans d) _ _ y2⟩
      | loop N t ps asg body st pend =>
        obtain ⟨r, y1, y2, y3, y4⟩ := r4
        exact ⟨r, y1, y2, fun i => VRel.mono R (frz_trans d) _ _ (y3 i), y4⟩
      | raw c => exact r4
      | bk c => exact r4
  · intro id id' o o' a b e
    exact R.inj _ _ _ _ (hd a).1 (hd b).1 e
  · intro t ht
    obtain ⟨r1, r2⟩ := R.tok t ht
    refine ⟨r1, fun B e q => ?_⟩
    obtain ⟨x1, x2, x3⟩ := r2 B e q
    have : ¬ h.DO G d B := by
      rintro ⟨id, o, y1, y2, y3⟩
      have := (R.obj id o y2).2.1
      rw [y3] at this
      exact x2 this
    refine ⟨by simp only [Ghost.frz, this, if_false]; exact x1, fun x => x2 x.1, x3⟩
  · exact fun t ht t' ht' B e e' a b => R.tinj t ht t' ht' B e e' a b
theorem one_cells {v : Value} (h : One v) : v.cells = #[v] := by
  obtain ⟨a, b⟩ := h
  cases v <;> first | rfl | exact absurd rfl (a _) | exact absurd rfl (b _)
theorem frz_tsl (R : RepH G h w) {d : Nat → Bool} {id off len : Nat} {c : Option Nat} {cs : List AV} {v : Value} (ho : h.objs id = some (.cells cs)) (hd : d id = true) (hl : off + len ≤ cs.length) (r : VRel G w (.tsl 1 id off len c) v) :
    VRel (G.frz h d) w (.sl 1 ((cs.drop off).take len) .any) v := by
  simp only [VRel] at r
  obtain ⟨-, ⟨C, cc, Tt, fr, rfl, ⟨h2, -⟩, -⟩ | ⟨h0, ⟨a, rfl⟩, -⟩⟩ := r
  · obtain ⟨-, r2, r3, vs, rest, T, fr', y1, y2, y3, y4⟩ := R.obj id _ ho
    have hlen := VRels.length y2
    have hx : VRels (G.frz h d) w ((cs.drop off).take len) ((vs.drop off).take len) := VRels.mono R (frz_trans d) _ _ (VRels.take len (VRels.drop off y2))
    have h1 : ∀ v ∈ (vs.drop off).take len, One v := fun v hv => y4 v (List.mem_of_mem_drop (List.mem_of_mem_take hv))
    have he := elems_of_rels (sz := 1) hx (fun v hv => by rw [one_cells (h1 v hv)]; rfl)
    have hfl : ((vs.drop off).take len).flatMap (·.cells.toList) = (vs.drop off).take len := by
      have : ∀ l : List Value, (∀ v ∈ l, One v) → l.flatMap (·.cells.toList) = l := by
        intro l
        induction l with
        | nil => intro _; rfl
        | cons x l ih => intro hl; rw [List.flatMap_cons, one_cells (hl x (by simp)), ih (fun v hv => hl v (by simp [hv]))]; rfl
      exact this _ h1
    rw [hfl] at he
    unfold VRel
    refine .inr ⟨G.ι id, off, C, (vs.drop off).take len, ?_, ?_, ?_, he, ?_, trivial⟩
    · rw [List.length_take, List.length_drop]; congr 1; omega
    · rw [List.length_take]; omega
    · simp only [List.length_take, List.length_drop]; omega
    · intro i v hi
      have hi' := (List.getElem?_eq_some_iff.1 hi).1
      rw [List.length_take, List.length_drop] at hi'
      have hv1 : vs[off + i]? = some v := by
        rw [List.getElem?_take_of_lt (by omega), List.getElem?_drop] at hi
        exact hi
      refine ⟨?_, h1 v (List.mem_of_getElem? hi), ?_, ?_⟩
      · unfold World.cell?
        simp only [y1]
        simp [List.getElem?_append_left (show off + i < vs.length by omega), hv1]
      · exact fun x => x.2 ⟨id, _, hd, ho, rfl⟩
      · intro e he'
        have : h.DO G d (G.ι id) := ⟨id, _, hd, ho, rfl⟩
        simp [Ghost.frz, this] at he'
  · subst h0
    unfold VRel
    exact .inl ⟨by simp, ⟨_, rfl⟩, trivial⟩
theorem frz_ptr (R : RepH G h w) {d : Nat → Bool} {id off : Nat} {cs : List AV} {v : Value} (ho : h.objs id = some (.cells cs)) (hd : d id = true) (r : VRel G w (.ptr id off) v) :
    VRel (G.frz h d) w (.ref (cs.drop off)) v := by
  simp only [VRel] at r
  obtain ⟨-, rfl⟩ := r
  obtain ⟨-, r2, r3, vs, rest, T, fr', y1, y2, y3, y4⟩ := R.obj id _ ho
  unfold VRel
  refine ⟨G.ι id, off, vs.drop off, rfl, VRels.mono R (frz_trans d) _ _ (VRels.drop off y2), ?_⟩
  intro i v hi
  have hv1 : vs[off + i]? = some v := by rw [List.getElem?_drop] at hi; exact hi
  have hi' := (List.getElem?_eq_some_iff.1 hv1).1
  refine ⟨?_, y4 v (List.mem_of_getElem? hv1), ?_, ?_⟩
  · unfold World.cell?
    simp only [y1]
    simp [List.getElem?_append_left hi', hv1]
  · exact fun x => x.2 ⟨id, _, hd, ho, rfl⟩
  · intro e he'
    have : h.DO G d (G.ι id) := ⟨id, _, hd, ho, rfl⟩
    simp [Ghost.frz, this] at he'
mutual
def unT (h : H) (d : Nat → Bool) : AV → AV
  | .tsl sz id off len c => if sz = 1 ∧ d id = true then (match h.objs id with
    | some (.cells cs) => if off + len ≤ cs.length then .sl 1 ((cs.drop off).take len) .any else .any
    | _ => .any) else .tsl sz id off len c
  | .ptr id off => if d id = true then (match h.objs id with
    | some (.cells cs) => .ref (cs.drop off)
    | _ => .any) else .ptr id off
  | .agg xs => .agg (unTs h d xs)
  | .tup xs => .tup (unTs h d xs)
  | .clo fn a b => .clo fn (unTs h d a) (unTs h d b)
  | x => x
def unTs (h : H) (d : Nat → Bool) : List AV → List AV
  | [] => []
  | x :: xs => unT h d x :: unTs h d xs
end
mutual
theorem unT_rel (R : RepH G h w) (d : Nat → Bool) : ∀ (x : AV) (v : Value), VRel G w x v → VRel (G.frz h d) w (unT h d x) v
  | .tsl sz id off len c, v, r => by
    unfold unT
    split
    · rename_i hs
      obtain ⟨rfl, hd⟩ := hs
      split
      · rename_i cs ho
        split
        · rename_i hl
          exact frz_tsl R ho hd hl r
        · simp [VRel]
      · simp [VRel]
    · exact VRel.mono R (frz_trans d) _ _ r
  | .agg xs, v, r => by
    simp only [unT, VRel] at r ⊢
    obtain ⟨vs, e, r⟩ := r
    exact ⟨vs, e, unTs_rel R d xs vs r⟩
  | .tup xs, v, r => by
    simp only [unT, VRel] at r ⊢
    obtain ⟨vs, e, r⟩ := r
    exact ⟨vs, e, unTs_rel R d xs vs r⟩
  | .any, v, r => by simp [unT, VRel]
  | .int k n, v, r => by unfold unT; exact VRel.mono R (frz_trans d) _ _ r
  | .bool b, v, r => by unfold unT; exact VRel.mono R (frz_trans d) _ _ r
  | .str l, v, r => by unfold unT; exact VRel.mono R (frz_trans d) _ _ r
  | .sc x, v, r => by unfold unT; exact VRel.mono R (frz_trans d) _ _ r
  | .sl sz xs c, v, r => by unfold unT; exact VRel.mono R (frz_trans d) _ _ r
  | .ref cs, v, r => by unfold unT; exact VRel.mono R (frz_trans d) _ _ r
  | .ptr id off, v, r => by
    unfold unT
    split
    · rename_i hd
      split
      · rename_i cs ho
        exact frz_ptr R ho hd r
      · simp [VRel]
    · exact VRel.mono R (frz_trans d) _ _ r
  | .clo fn a b, v, r => by
    simp only [unT, VRel] at r ⊢
    obtain ⟨vs, us, e, r1, r2⟩ := r
    exact ⟨vs, us, e, unTs_rel R d a vs r1, unTs_rel R d b us r2⟩
  | .ifc t x, v, r => by unfold unT; exact VRel.mono R (frz_trans d) _ _ r
  | .mp id, v, r => by unfold unT; exact VRel.mono R (frz_trans d) _ _ r
  | .yld id, v, r => by unfold unT; exact VRel.mono R (frz_trans d) _ _ r
  | .slt sz xs ys, v, r => by unfold unT; exact VRel.mono R (frz_trans d) _ _ r
  | .sup B, v, r => by unfold unT; exact VRel.mono R (frz_trans d) _ _ r
  | .supb B, v, r => by unfold unT; exact VRel.mono R (frz_trans d) _ _ r
  | .wint k, v, r => by unfold unT; exact VRel.mono R (frz_trans d) _ _ r
  | .one, v, r => by unfold unT; exact VRel.mono R (frz_trans d) _ _ r
theorem unTs_rel (R : RepH G h w) (d : Nat → Bool) : ∀ (xs : List AV) (vs : List Value), VRels G w xs vs → VRels (G.frz h d) w (unTs h d xs) vs
  | [], vs, r => by simpa [unTs, VRels] using r
  | x :: xs, vs, r => by
    simp only [unTs, VRels] at r ⊢
    obtain ⟨v, us, e, r1, r2⟩ := r
    exact ⟨v, us, e, unT_rel R d x v r1, unTs_rel R d xs us r2⟩
end
theorem frz_le (t : Tm) (h : H) (d : Nat → Bool) : StLe ⟨t, h⟩ ⟨fun i => unT h d (t i), h.drop d⟩ where
  n := Nat.le_refl _
  m := Nat.le_refl _
  go := fun N G w a r _ => ⟨G.frz h d, frz_trans d, ⟨r.size, fun i => unT_rel r.h d _ _ (r.t i), frz_rep r.h d, r.df.mono (frz_trans d)⟩⟩
theorem ACalls.frz {f : FuncId} {args : List AV} {h h' : H} {r : AV} (hc : ACalls P f args h r h') (d : Nat → Bool) : ACalls P f args h (unT h' d r) (h'.drop d) := by
  intro G w vs hv R F
  refine (hc G w vs hv R F).mono ?_
  rintro e w' ⟨v, G', rfl, T, R', V⟩
  exact ⟨v, G'.frz h' d, rfl, T.trans R R' (frz_trans d), frz_rep R' d, unT_rel R' d _ _ V⟩
end
end Go.Av
end
section
set_option linter.unusedVariables false
set_option linter.unusedSimpArgs false
namespace Go.Av
section
variable {P : Program} {N : Nat} {o : Oper} {t : Tm} {h : H} {en : Ent}
theorem shaped_or {x : AV} (h : shaped x = true) : isCell x = true ∨ ∃ cs, x = .agg cs := by
  unfold shaped at h
  simp only [Bool.or_eq_true] at h
  rcases h with h | h
  · exact .inl h
  · cases x <;> simp at h
    exact .inr ⟨_, rfl⟩
theorem rels_of_elems {G : Ghost} {w : World} {sz : Nat} : ∀ {els : List AV} {vs : List Value}, VElems G w sz els vs → els.all shaped = true → VRels G w (els.flatMap cellsOf) vs
  | [], vs, h, _ => by simpa [VElems, VRels] using h
  | x :: els, vs, h, ha => by
    simp only [VElems] at h
    obtain ⟨v, us, rfl, h1, h2, h3⟩ := h
    simp only [List.all_cons, Bool.and_eq_true] at ha
    rw [List.flatMap_cons]
    exact (cells_of h2 (shaped_or ha.1)).append (rels_of_elems h3 ha.2)
theorem appT_loc {c : Call} {zs zx : Operand} {ys yx : Opd} {T U e : TypeId} {d : TypeDesc} {i : TypeInfo} {s : Nat} {els : List AV} (hop : o.op = .call c) (hc : c.callee = .builtin .append) (ha : c.args.toList = [zs, zx]) (hta : c.argTypes.toList = [T, U])
    (hT : P.underlying T = some (.slice e)) (hU : P.underlying U = some d) (hd : (∃ e', d = .slice e') ∨ d = .string) (hi : P.info? e = some i) (hz : i.zero.any (fun z => z.cells.size == i.size) = true) (hsz : 0 < i.size)
    (hys : opd P T zs = some ys) (hyx : opd P U zx = some yx) (hs : ev t ys = .sl s [] (.exact 0)) (hx : ∃ s' c', ev t yx = .sl s' els c' ∧ s' = i.size) (hsh : els.all shaped = true) (hne : 0 < els.length)
    (hb : els.length * i.bytes ≤ 140737488355328) (hlen : els.length < 4611686018427387904) :
    Loc P o t h (.tsl i.size h.n 0 els.length none) { h with objs := upd h.objs h.n (some (.cells (els.flatMap cellsOf))), n := h.n + 1 } ⟨[], [h.n], []⟩ := by
  have ha' : c.args = #[zs, zx] := by rw [← Array.toArray_toList (xs := c.args), ha]
  have hta' : c.argTypes = #[T, U] := by rw [← Array.toArray_toList (xs := c.argTypes), hta]
  obtain ⟨z, hz1, hz2⟩ : ∃ z, i.zero = some z ∧ z.cells.size = i.size := by
    cases hzz : i.zero with
    | none => rw [hzz] at hz; simp at hz
    | some z => rw [hzz] at hz; exact ⟨z, rfl, by simpa using hz⟩
  refine ⟨_, _, touch_new h _, fun G w a ht R F => ?_⟩
  have r1 := opd_rel hys ht
  have r2 := opd_rel hyx ht
  rw [hs] at r1
  obtain ⟨s', c', hx, hs'⟩ := hx
  rw [hx] at r2
  obtain ⟨news, n1, n2, n3⟩ := src_slice (P := P) (.inl hs') r2
  have hbase : ∃ a0, a.eval zs = .slice a0 0 0 := by
    simp only [VRel, CapOk] at r1
    rcases r1 with ⟨-, h, -⟩ | ⟨B, off, C, vs, q1, -, -, -, -, q6⟩
    · exact h
    · subst q6; exact ⟨_, by simpa using q1⟩
  obtain ⟨a0, ha0⟩ := hbase
  obtain ⟨w', C, rest, e1, e2, e3, e4⟩ := run_append_grows (ty := o.type) hT hU hd hi hz1 hz2 hsz n1 (src_none a0) (by omega) (Nat.le_refl _) (by simpa using hb) (by simpa using hlen)
  rw [List.nil_append] at e2
  simp only [Nat.zero_add] at e1 e3 e4
  have hnl := n2.length
  obtain ⟨G', T1, R1, V⟩ := new_tsl (m := h.m) (sz := i.size) e2 (rels_of_elems n2 hsh) n3 (fresh_n F (by simp [H.only])) e3 (by omega)
  refine ⟨.value _, _, w', G', ?_, .inl rfl, T1, R1, V⟩
  simp [execOp, hop, resolve, hc, ha', hta', invoke, builtin, ha0, e1]
theorem buildSlT_loc {ty e : TypeId} {len : Nat} {parts : Array (Nat × Operand)} {ys : List Opd} {z : Value} (hop : o.op = .buildSlice ty len parts) (hu : P.underlying ty = some (.slice e)) (hi : (P.info? e).isSome = true) (hn : parts.size = len) (hpos : 0 < P.cellsOf e)
    (hz : (P.info? e).bind (·.zero) = some z) (hzs : z.cells.size = P.cellsOf e)
    (hys : elemsOf P e 0 parts.toList = some ys) (hs : ∀ y ∈ ys, (cellsOf (ev t y)).length = P.cellsOf e ∧ shaped (ev t y) = true) (hle : ys.length * P.cellsOf e ≤ 16777216) :
    Loc P o t h (.tsl (P.cellsOf e) h.n 0 ys.length none) { h with objs := upd h.objs h.n (some (.cells ((ys.map (ev t)).flatMap cellsOf))), n := h.n + 1 } ⟨[], [h.n], []⟩ := by
  refine ⟨_, _, touch_new h _, fun G w a ht R F => ?_⟩
  obtain ⟨r1, r2, r3⟩ := opdVals_rel ht hys
  simp only [Array.length_toList, hn] at r2 r3
  have hsz : ∀ v ∈ parts.toList.map (fun p => a.eval p.2), v.cells.size = P.cellsOf e ∧ ∀ u ∈ v.cells.toList, One u := by
    intro v hv
    obtain ⟨k, hk⟩ := List.getElem?_of_mem hv
    have hlt : k < (parts.toList.map (fun p => a.eval p.2)).length := by
      rcases Nat.lt_or_ge k (parts.toList.map (fun p => a.eval p.2)).length with h | h
      · exact h
      · rw [List.getElem?_eq_none h] at hk; cases hk
    have hlt' : k < ys.length := by simp at hlt; omega
    obtain ⟨u, hu1, hu2⟩ := r1.get (i := k) (x := ev t ys[k]) (by simp [List.getElem?_eq_getElem hlt'])
    have e : u = v := Option.some.inj (hu1.symm.trans hk)
    subst e
    obtain ⟨s1, s2⟩ := hs ys[k] (List.getElem_mem hlt')
    obtain ⟨c1, c2⟩ := shaped_cells hu2 s2
    have := c1.length
    exact ⟨by simpa [s1] using this, cells_one c1 c2⟩
  generalize hV : parts.toList.map (fun p => a.eval p.2) = vals at *
  have hvl : vals.length = len := by rw [← hV]; simp [hn]
  have he := elems_of_rels r1 fun v hv => (hsz v hv).1
  have hfl : (vals.flatMap (·.cells.toList)).length = len * P.cellsOf e := by
    have := he.length; rw [this]; simp [r3]
  have hfill : ∀ cells : Array Value, cells.size = len * P.cellsOf e → Instr.fill (fun i => some (i * P.cellsOf e, P.cellsOf e)) cells ((parts.map fun (i, x) => (i, a.eval x)).toList) = some (vals.flatMap (·.cells.toList)).toArray := by
    intro cells hc
    have hz : (parts.map fun (i, x) => (i, a.eval x)).toList = (List.range' 0 vals.length).zip vals := by
      have : ∀ l : List (Nat × Operand), l.map (fun (i, x) => (i, a.eval x)) = (l.map (·.1)).zip (l.map fun p => a.eval p.2) := by
        intro l; induction l with
        | nil => rfl
        | cons p l ih => simp [ih]
      rw [Array.toList_map, this, r2, hV, hvl]
    rw [hz]
    have := fill_elems (sz := P.cellsOf e) (cells := cells) vals 0 [] cells (by simp) (by simp) (by rw [hc, hvl]; simp) (fun v hv => (hsz v hv).1)
    simpa using this
  have hle' : ¬ (len * P.cellsOf e > 16777216) := by rw [← r3]; omega
  obtain ⟨G', T1, R1, V⟩ := new_tsl (m := h.m) (sz := P.cellsOf e) (len := len) (C := len) (rest := []) (vs := vals.flatMap fun v : Value => v.cells.toList) (pushed_alloc w (.cells ((vals.flatMap fun v : Value => v.cells.toList) ++ []).toArray e (0, 0))) (rels_of_elems he (by
    rw [List.all_map]
    exact List.all_eq_true.2 fun y hy => (hs y hy).2)) (by
    intro u hu
    obtain ⟨v, hv, hu'⟩ := List.mem_flatMap.1 hu
    exact (hsz v hv).2 u hu') (fresh_n F (by simp [H.only])) ⟨Nat.le_refl _, by
    have := Nat.le_mul_of_pos_right len hpos
    omega⟩ (by rw [hfl]; simp)
  rw [List.append_nil] at T1 R1 V
  refine ⟨.value (.slice (some ⟨w.heap.size, 0, none⟩) len len), _, _, G', ?_, .inl rfl, T1, R1, by rw [r3]; exact V⟩
  obtain ⟨i, hi1, hi2⟩ := Option.bind_eq_some_iff.1 hz
  have hle2 : ¬ (16777216 < len * P.cellsOf e) := by omega
  have hmap : ∀ (zc : Array Value), ((Array.range (len * P.cellsOf e)).map (zc[· % zc.size]!)).size = len * P.cellsOf e := by intro zc; simp
  have hrz : (zeroValue e).run P w = .ok z w := by simp [zeroValue, typeInfo, hi1, hi2]
  simp only [execOp, hop, Sem.run_bind, Instr.buildSlice, run_underlying hu, Result.andThen_ok, run_size P w e hi, if_neg hle2, Sem.run_pure, Sem.run_ite, hrz, hfill _ (hmap _)]
  by_cases h0 : len * P.cellsOf e = 0
  · rw [if_pos h0]; simp [newRow]
  · rw [if_neg h0]; simp [newRow]
theorem app0_loc {c : Call} {zs zx : Operand} {ys yx : Opd} {T U e : TypeId} {d : TypeDesc} {i : TypeInfo} {s s' : Nat} {xs : List AV} {cp c' : Cap} (hop : o.op = .call c) (hc : c.callee = .builtin .append) (ha : c.args.toList = [zs, zx]) (hta : c.argTypes.toList = [T, U])
    (hT : P.underlying T = some (.slice e)) (hU : P.underlying U = some d) (hd : (∃ e', d = .slice e') ∨ d = .string) (hi : P.info? e = some i)
    (hys : opd P T zs = some ys) (hyx : opd P U zx = some yx) (hs : ev t ys = .sl s xs cp) (hx : ev t yx = .sl s' [] c') : Loc P o t h (.sl s xs cp) h ent0 := by
  have ha' : c.args = #[zs, zx] := by rw [← Array.toArray_toList (xs := c.args), ha]
  have hta' : c.argTypes = #[T, U] := by rw [← Array.toArray_toList (xs := c.argTypes), hta]
  refine Loc.plain fun G w a ht => ?_
  have r1 := opd_rel hys ht
  have r2 := opd_rel hyx ht
  rw [hs] at r1
  rw [hx] at r2
  obtain ⟨news, n1, n2, -⟩ := src_slice (P := P) (sz := i.size) (.inr rfl) r2
  have hnn : news = [] := by simpa [VElems] using n2
  subst hnn
  obtain ⟨base, len, C, hv, hlC⟩ : ∃ base len C, a.eval zs = .slice base len C ∧ len ≤ C := by
    simp only [VRel] at r1
    rcases r1 with ⟨-, ⟨a0, h⟩, -⟩ | ⟨B, off, C, vs, q1, q2, -⟩
    · exact ⟨_, _, _, h, Nat.le_refl _⟩
    · exact ⟨_, _, _, q1, q2⟩
  have hrun := run_append_fits (ty := o.type) (base := base) (sLen := len) (sCap := C) (w' := w) hT hU hd hi n1 (by simpa using hlC) (by cases base <;> simp [storeCells])
  refine ⟨a.eval zs, ?_, r1⟩
  simp [execOp, hop, resolve, hc, ha', hta', invoke, builtin, hv] at hrun ⊢
  rw [hrun]
  rfl
def aopT (ρ : Opd → AV) (h : H) : AOp → Option (AV × H × Ent)
  | .app false sz bytes s x => match ρ s, ρ x with
    | .sl s xs c, .sl _ [] _ => some (.sl s xs c, h, ent0)
    | .sl _ [] (.exact 0), .sl s' els _ => if s' = sz ∧ els.all shaped = true ∧ 0 < els.length ∧ els.length * bytes ≤ 140737488355328 ∧ els.length < 4611686018427387904 then
        some (.tsl sz h.n 0 els.length none, { h with objs := upd h.objs h.n (some (.cells (els.flatMap cellsOf))), n := h.n + 1 }, ⟨[], [h.n], []⟩) else none
    | _, _ => none
  | .buildSl sz parts => if parts.all (fun x => (cellsOf (ρ x)).length = sz ∧ shaped (ρ x)) = true ∧ parts.length * sz ≤ 16777216 then
      some (.tsl sz h.n 0 parts.length none, { h with objs := upd h.objs h.n (some (.cells ((parts.map ρ).flatMap cellsOf))), n := h.n + 1 }, ⟨[], [h.n], []⟩) else none
  | _ => none
theorem cOp_app {sz bytes : Nat} {ys yx : Opd} (h : cOp P o = some (.app false sz bytes ys yx)) : ∃ c zs zx T U e e' i, o.op = .call c ∧ c.callee = .builtin .append ∧ c.args.toList = [zs, zx] ∧ c.argTypes.toList = [T, U] ∧
    opd P T zs = some ys ∧ opd P U zx = some yx ∧ P.underlying T = some (.slice e) ∧ P.underlying U = some (.slice e') ∧ P.info? e = some i ∧ 0 < i.size ∧ (i.zero.any fun z => z.cells.size == i.size) = true ∧ i.size = sz ∧ i.bytes = bytes := by
  unfold cOp at h
  split at h
  case h_28 c hop =>
    split at h
    case h_7 hcal =>
      split at h
      · rename_i zs zx T U ha hta
        split at h
        · split at h
          · split at h
            · rename_i hq
              cases h
              exact ⟨c, zs, zx, T, U, _, _, _, hop, hcal, ha, hta, ‹_›, ‹_›, ‹_›, ‹_›, ‹_›, hq.1, hq.2, rfl, rfl⟩
            · cases h
          · cases h
        · (repeat' split at h) <;> (try cases h) <;> simp at h
        · (repeat' split at h) <;> (try cases h) <;> simp at h
        · cases h
      · cases h
    all_goals first
      | (cases h; done)
      | ((repeat' split at h) <;> (try cases h) <;> simp at h)
  all_goals first
    | (cases h; done)
    | (simp at h; done)
    | ((repeat' split at h) <;> (try cases h) <;> (try simp at h) ; done)
    | skip
theorem cOp_buildSl {sz : Nat} {ys : List Opd} (h : cOp P o = some (.buildSl sz ys)) : ∃ ty e len parts z, o.op = .buildSlice ty len parts ∧ P.underlying ty = some (.slice e) ∧ (P.info? e).isSome = true ∧ parts.size = len ∧ 0 < P.cellsOf e ∧ (P.info? e).bind (·.zero) = some z ∧ z.cells.size = P.cellsOf e ∧
    elemsOf P e 0 parts.toList = some ys ∧ sz = P.cellsOf e := by
  unfold cOp at h
  split at h
  case h_7 ty len parts hop =>
    split at h
    · split at h
      · rename_i hq
        simp only [Option.map_eq_some_iff] at h
        obtain ⟨l, h1, h2⟩ := h
        cases h2
        obtain ⟨q1, q2, q3, q4⟩ := hq
        cases hz : (P.info? _).bind (·.zero) with
        | none => rw [hz] at q4; simp at q4
        | some z => rw [hz] at q4; exact ⟨ty, _, len, parts, z, hop, ‹_›, q2, q1, q3, hz, by simpa using q4, h1, rfl⟩
      · cases h
    · cases h
  all_goals first
    | (cases h; done)
    | (simp at h; done)
    | ((repeat' split at h) <;> (try cases h) <;> (try simp at h) ; done)
    | skip
theorem aopT_loc {op : AOp} {x : AV} {h' : H} (hc : cOp P o = some op) (hx : aopT (ev t) h op = some (x, h', en)) : Loc P o t h x h' en := by
  cases op <;> (try (simp [aopT] at hx; done))
  case app str sz bytes s x0 =>
    cases str <;> (try (simp [aopT] at hx; done))
    obtain ⟨c, zs, zx, T, U, e, e', i, hop, hcal, ha, hta, hys, hyx, hT, hU, hi, hs1, hs2, rfl, rfl⟩ := cOp_app hc
    simp only [aopT] at hx
    split at hx
    · cases hx
      exact app0_loc hop hcal ha hta hT hU (.inl ⟨_, rfl⟩) hi hys hyx ‹_› ‹_›
    · split at hx
      · rename_i hq
        cases hx
        exact appT_loc hop hcal ha hta hT hU (.inl ⟨_, rfl⟩) hi hs2 hs1 hys hyx ‹_› ⟨_, _, ‹_›, hq.1⟩ hq.2.1 hq.2.2.1 hq.2.2.2.1 hq.2.2.2.2
      · cases hx
    · cases hx
  case buildSl sz parts =>
    obtain ⟨ty, e, len, ps, z, hop, hu, hi, hn, hpos, hz, hzs, hys, rfl⟩ := cOp_buildSl hc
    simp only [aopT] at hx
    split at hx
    · rename_i hq
      cases hx
      exact buildSlT_loc hop hu hi hn hpos hz hzs hys (fun y hy => by simpa using List.all_eq_true.1 hq.1 y hy) hq.2
    · cases hx
theorem aopT_congr {ρ ρ' : Opd → AV} {op : AOp} (hx : ∀ y ∈ opdsOf op, ρ y = ρ' y) : aopT ρ h op = aopT ρ' h op := by
  cases op <;> (try rfl)
  case app str sz bytes s x0 =>
    cases str
    · simp only [aopT, hx s (by simp [opdsOf]), hx x0 (by simp [opdsOf])]
    · rfl
  case buildSl sz parts =>
    have e1 : parts.map ρ = parts.map ρ' := List.map_congr_left fun y hy => hx y (by simpa [opdsOf] using hy)
    have e2 : parts.all (fun x => (cellsOf (ρ x)).length = sz ∧ shaped (ρ x)) = parts.all (fun x => (cellsOf (ρ' x)).length = sz ∧ shaped (ρ' x)) := by
      refine Bool.eq_iff_iff.2 ?_
      simp only [List.all_eq_true]
      exact ⟨fun h y hy => by rw [← hx y (by simpa [opdsOf] using hy)]; exact h y hy, fun h y hy => by rw [hx y (by simpa [opdsOf] using hy)]; exact h y hy⟩
    simp only [aopT, e1, e2]
theorem itrun_opT {ops : Array Oper} {i : Nat} {o : Oper} {it : AItem} {t : Tm} {h h' : H} {x : AV} {en : Ent} (ho : ops[i]? = some o) (hit : cItem P N ops o = some it) (hg : guardOf t it.guard = some true) (hx : aopT (ev t) h it.op = some (x, h', en)) :
    ∃ h1 h1', Touch h h1 h1' h' en ∧ ItRun P ops i o t h1 x h1' := by
  unfold cItem at hit
  split at hit
  · rename_i op g hop hgd
    split at hit <;> cases hit
    rename_i hcond
    simp only [Bool.and_eq_true] at hcond
    have hop := cOpD_of hop (by rintro rfl; simp [aopT] at hx) (by cases op <;> first | rfl | (simp [aopT] at hx))
    have hx' : aopT (ev (cutTo (names ops o) t)) h op = some (x, h', en) := by
      rw [aopT_congr (cut_ev hcond.2)]; exact hx
    obtain ⟨h1, h1', tc, loc⟩ := aopT_loc hop hx'
    refine ⟨h1, h1', tc, fun G w a ht R F K Q hK ro => ?_⟩
    obtain ⟨nx, v, w', G', e1, e2, T1, R1, V⟩ := loc G w a (cut_rel ht) R F
    unfold wpOpIn
    rw [ho]
    simp only [guard_wanted hgd ht hg, if_true]
    refine ⟨fun _ _ => trivial, ?_⟩
    rw [Oper.semAt_eq _ _ _ (cOp_plain hop), e1]
    rcases e2 with rfl | ⟨rfl, rfl⟩
    · rw [Oper.uponIn_value]; exact hK G' w' v T1 R1 V
    · rw [Oper.uponIn_skip]; exact hK G' w' undef T1 R1 V
  · cases hit
theorem WpItems.opT {dst : Option Nat} {g : Option (Nat × Bool)} {op : AOp} {its : List AItem} {t : Tm} {h h' : H} {log : List Ent} {en : Ent} {K : Tm → H → List Ent → Prop} {x : AV} (hg : guardOf t g = some true) (hx : aopT (ev t) h op = some (x, h', en)) (ht : touchy op = true)
    (rest : WpItems P N its (putT t dst x) h' (en :: log) K) : WpItems P N (⟨dst, g, op⟩ :: its) t h log K := by
  intro ops i hi hc
  obtain ⟨o, ho, hit, hi', hc'⟩ := items_cons hi hc
  obtain ⟨h1, h1', tc, run⟩ := itrun_opT ho hit hg hx
  obtain ⟨recs, t', hh', ch, hk, hen⟩ := rest ops (i + 1) hi' hc'
  have hdst : dst = o.dst := by
    unfold cItem at hit
    split at hit
    · split at hit <;> cases hit; rfl
    · cases hit
  refine ⟨⟨t, h, h1, h1', h', x, en⟩ :: recs, t', hh', .cons ho rfl rfl tc (fun _ => run) (by rw [← hdst]; exact ch), by simpa using hk, ?_⟩
  intro k r it' hr hit' ht'
  cases k with
  | zero =>
    simp at hr hit'; subst hr hit'
    rw [ht] at ht'; cases ht'
  | succ k => simp at hr hit'; exact hen k r it' hr hit' ht'
theorem cloneT_gen {f : FuncId} {sz bytes : Nat} (hF : FnIs P f 8 (cloneC sz bytes) [.tmp 2]) (x : AV) (xs : List AV) (hsh : (x :: xs).all shaped = true) (hb : (xs.length + 1) * bytes ≤ 140737488355328) (hl : xs.length + 1 < 4611686018427387904) (n m : Nat) :
    ACalls P f [.sl sz (x :: xs) .any] (H0 n m) (.tsl sz n 0 (xs.length + 1) none) (.only (upd none' n (some (.cells ((x :: xs).flatMap cellsOf)))) [] (n + 1) m) := by
  obtain ⟨r, h', hc, rfl, rfl⟩ := hF.acalls (args := [.sl sz (x :: xs) .any]) (h := H0 n m) (Q := fun r h' => r = .tsl sz n 0 (xs.length + 1) none ∧ h' = .only (upd none' n (some (.cells ((x :: xs).flatMap cellsOf)))) [] (n + 1) m) (by simp) (by
    unfold cloneC
    refine Wp.seqReg (by simp only [go_sem, reduceIte, Nat.reduceEqDiff, Nat.reduceAdd, bx]; exact rfl) (by trivial) ?_
    refine Wp.seq ?_
    refine Wp.seqReg (by simp only [go_sem, reduceIte, Nat.reduceEqDiff, Nat.reduceAdd, bx]; exact rfl) (by trivial) ?_
    refine Wp.cond_false (by simp only [go_sem, reduceIte, Nat.reduceEqDiff, Nat.reduceAdd, bx]) ?_
    refine Wp.skip ?_
    refine Wp.seq (Wp.reg ?_)
    refine WpItems.part 2 (by simp only [go_sem, reduceIte, Nat.reduceEqDiff, Nat.reduceAdd, bx, Nat.zero_mul, Nat.zero_le, and_self, if_true]; exact rfl) ?_
    simp only [List.drop_succ_cons, List.drop_zero, List.drop_nil]
    refine WpItems.opT (by simp only [go_sem, reduceIte, Nat.reduceEqDiff, Nat.reduceAdd, bx]) (by simp only [aopT, go_sem, reduceIte, Nat.reduceEqDiff, Nat.reduceAdd, bx, hsh, hb, hl, List.length_cons, and_self, if_true, Nat.zero_lt_succ]; exact rfl) rfl ?_
    refine WpItems.eval (by simp only [go_sem, reduceIte, Nat.reduceEqDiff, Nat.reduceAdd, bx]; exact rfl) ?_
    refine WpItems.nil ⟨by trivial, ?_⟩
    refine Wp.ret ⟨trivial, _, rfl, rfl, ?_⟩
    rfl)
  exact hc
def H.less (h : H) (id : Nat) : H := { h with objs := fun j => if j = id then none else h.objs j }
theorem row_end {G : Ghost} {h : H} {w w' : World} {id B off C : Nat} {cs xs : List AV} {vs : List Value} (R : RepH G h w) (ho : h.objs id = some (.cells cs)) (ht : h.toks = []) (hs : w.heap.size ≤ w'.heap.size) (hos : w'.os = w.os) (hou : w'.output = w.output)
    (hk : ∀ b, b < w.heap.size → b ≠ G.ι id → w'.heap[b]? = w.heap[b]?) (hf : SameForm w.heap[G.ι id]? w'.heap[G.ι id]?) (hB : B = G.ι id ∨ w.heap.size ≤ B) (hC : xs.length ≤ C) (hl : vs.length = xs.length) (hE : ∀ G w, VElems G w 1 xs vs)
    (h1 : ∀ v ∈ vs, One v) (hc : ∀ (j : Nat) v, vs[j]? = some v → w'.cell? ⟨B, off + j, none⟩ = some v) :
    ∃ G', Trans G w h G' w' (h.less id) ∧ RepH G' (h.less id) w' ∧ VRel G' w' (.sl 1 xs .any) (.slice (some ⟨B, off, none⟩) xs.length C) := by
  let G' : Ghost := { G with own := fun b => G.own b ∧ b ≠ G.ι id ∧ b < w.heap.size, lim := fun b => if b = G.ι id ∨ w.heap.size ≤ b then none else G.lim b }
  have hO : ∀ b, ¬ h.O G b → b ≠ G.ι id := fun b hh e => hh ⟨id, _, ho, e.symm⟩
  have hd : ∀ {j o}, (h.less id).objs j = some o → h.objs j = some o ∧ j ≠ id := by
    intro j o a
    simp only [H.less] at a
    split at a
    · cases a
    · exact ⟨a, ‹_›⟩
  have T : Trans G w h G' w' (h.less id) := by
    constructor
    · exact fun _ x => x
    · exact fun _ => .inl
    · exact fun _ _ => rfl
    · exact fun _ x => x
    · exact fun _ => .inl
    · exact fun _ _ => rfl
    · exact Nat.le_refl _
    · exact Nat.le_refl _
    · exact hs
    · exact hos
    · exact hou
    · intro b hb
      by_cases e : b = G.ι id
      · subst e; exact hf
      · rw [hk b hb e]; exact SameForm.refl _
    · exact fun b hb h _ => hk b hb (hO b h)
    · intro b hb h
      simp only [G', hb, hO b h, and_true, ne_eq, not_false_eq_true]
    · intro b hb h _
      simp only [G']
      rw [if_neg]
      rintro (e | e)
      · exact hO b h e
      · omega
    · rintro b hb ⟨t, htt, _⟩
      simp [ht] at htt
    · rintro b _ ⟨j, o, a, e⟩
      exact ⟨j, o, (hd a).1, e⟩
    · rintro b _ ⟨t, htt, _⟩
      simp [H.less, ht] at htt
    · exact fun j o x => .inl ⟨o, (hd x).1⟩
    · exact fun t x => by simp [H.less, ht] at x
  refine ⟨G', T, ?_, ?_⟩
  · constructor
    · intro j o a
      obtain ⟨a, q⟩ := hd a
      obtain ⟨r1, r2, r3, r4⟩ := R.obj j o a
      have hne : G.ι j ≠ G.ι id := fun e => q (R.inj _ _ _ _ a ho e)
      refine ⟨r1, ⟨r2, hne, r3⟩, Nat.lt_of_lt_of_le r3 hs, ?_⟩
      show ORel G' w' o w'.heap[G.ι j]?
      rw [hk _ r3 hne]
      cases o with
      | cells cs =>
        obtain ⟨vs, rest, T', fr, y1, y2, y3⟩ := r4
        exact ⟨vs, rest, T', fr, y1, VRels.mono R T _ _ y2, y3⟩
      | map es =>
        obtain ⟨en, clock, y1, y2⟩ := r4
        exact ⟨en, clock, y1, Entries.mono R T _ _ y2⟩
      | loop N t ps asg body st pend =>
        obtain ⟨r, y1, y2, y3, y4⟩ := r4
        exact ⟨r, y1, y2, fun i => VRel.mono R T _ _ (y3 i), y4⟩
      | raw c => exact r4
      | bk c => exact r4
    · exact fun i j o o' a b e => R.inj _ _ _ _ (hd a).1 (hd b).1 e
    · exact fun t x => by simp [H.less, ht] at x
    · exact fun t x => by simp [H.less, ht] at x
  · unfold VRel
    refine .inr ⟨B, off, C, vs, rfl, hC, by omega, hE _ _, fun i v hv => ⟨hc i v hv, h1 v (List.mem_of_getElem? hv), ?_, ?_⟩, trivial⟩
    · rintro ⟨-, a, b⟩
      rcases hB with e | e
      · exact a e
      · omega
    · intro e he
      simp only [G', hB, if_true] at he
      cases he
theorem touch_drop (h : H) {id : Nat} {ob : Obj} (ho : h.objs id = some ob) : Touch h (.only (upd none' id (some ob)) [] h.n h.m) (H0 h.n h.m) { h with objs := fun j => if j = id then none else h.objs j } ⟨[], [id], []⟩ where
  sub := (touch_read h ho).sub
  n := rfl
  m := rfl
  eq := H.ext (fun j => by
    simp only [H.patch, H0, H.only, upd, none']
    by_cases e : j = id
    · subst e; simp
    · simp [e]; omega) rfl (by simp [H.patch, H0, H.only, filter_tt]) rfl
  rd j x := by
    simp only [H.only, upd, none'] at x
    split at x
    · rename_i e; subst e; simp
    · cases x
  wr id a b := by simp only [H0, H.only] at a b; omega
  chg j x hj := by
    simp only [H.only, upd, none'] at x
    split at x
    · rename_i e; subst e; simp at hj
    · cases x
  tk t x := by simp [H.only] at x
  tn t x := by simp [H0, H.only] at x
  le := Nat.le_refl _
  lem := Nat.le_refl _
theorem cloneE_gen {f : FuncId} {sz bytes : Nat} (hF : FnIs P f 8 (cloneC sz bytes) [.tmp 2]) : PCalls P f [.sl sz [] .any] (.sl sz [] (.exact 0)) := by
  intro n m
  refine ACalls.split_empty fun a C hC => ?_
  have : PCalls P f [.sc (.slice a 0 C)] (.sl sz [] (.exact 0)) := by
    refine hF.pcalls (by simp) (allPure_ok _ rfl) (isPure_ok _ rfl) fun n m => ?_
    unfold cloneC
    refine Wp.seqReg (by simp only [go_sem, reduceIte, Nat.reduceEqDiff, Nat.reduceAdd, bx]; exact rfl) (by trivial) ?_
    refine Wp.seq ?_
    refine Wp.seqReg (by simp only [go_sem, reduceIte, Nat.reduceEqDiff, Nat.reduceAdd, bx]; exact rfl) (by trivial) ?_
    cases ha : a.isNone with
    | true =>
      refine Wp.cond_true (by simp only [go_sem, reduceIte, Nat.reduceEqDiff, Nat.reduceAdd, bx, ha]) ?_
      refine Wp.seqReg (by simp only [go_sem, reduceIte, Nat.reduceEqDiff, Nat.reduceAdd, bx]; exact rfl) (by trivial) ?_
      refine Wp.ret ⟨trivial, _, rfl, ?_⟩
      simp only [go_sem, reduceIte, Nat.reduceEqDiff, Nat.reduceAdd, bx]
      exact VSub.refl _
    | false =>
      refine Wp.cond_false (by simp only [go_sem, reduceIte, Nat.reduceEqDiff, Nat.reduceAdd, bx, ha]) ?_
      refine Wp.skip ?_
      refine Wp.le (s' := ⟨tm [(0, .sl sz [] .any)], _⟩) (StLe.tm ⟨VSub.sc_empty hC, trivial⟩) ?_
      refine Wp.seq (Wp.reg ?_)
      refine WpItems.part 2 (by simp only [go_sem, reduceIte, Nat.reduceEqDiff, Nat.reduceAdd, bx, Nat.zero_mul, Nat.zero_le, and_self, if_true]; exact rfl) ?_
      simp only [List.drop_succ_cons, List.drop_zero, List.drop_nil]
      refine WpItems.opT (by simp only [go_sem, reduceIte, Nat.reduceEqDiff, Nat.reduceAdd, bx]) (by simp only [aopT, go_sem, reduceIte, Nat.reduceEqDiff, Nat.reduceAdd, bx]; exact rfl) rfl ?_
      refine WpItems.eval (by simp only [go_sem, reduceIte, Nat.reduceEqDiff, Nat.reduceAdd, bx]; exact rfl) ?_
      refine WpItems.nil ⟨by trivial, ?_⟩
      refine Wp.ret ⟨trivial, _, rfl, ?_⟩
      simp only [go_sem, reduceIte, Nat.reduceEqDiff, Nat.reduceAdd, bx]
      exact VSub.refl _
  exact this n m
def WpItemsN (P : Program) (N : Nat) (items : List AItem) (t : Tm) (h : H) (K : Tm → H → Prop) : Prop :=
  ∀ ops i, i ≤ ops.size → cItems P N ops (ops.toList.drop i) = some items → ∃ recs t' h', Chain P ops i recs t h t' h' ∧ K t' h'
theorem WpItems.toN {items : List AItem} {t : Tm} {h : H} {log : List Ent} {K : Tm → H → Prop} (hw : WpItems P N items t h log fun t h _ => K t h) : WpItemsN P N items t h K := by
  intro ops i hi hc
  obtain ⟨recs, t', h', ch, hk, -⟩ := hw ops i hi hc
  exact ⟨recs, t', h', ch, hk⟩
theorem WpItemsN.step {it : AItem} {its : List AItem} {t : Tm} {h h' : H} {x : AV} {en : Ent} {K : Tm → H → Prop}
    (run : ∀ (ops : Array Oper) i o, ops[i]? = some o → cItem P N ops o = some it → ∃ h1 h1', Touch h h1 h1' h' en ∧ ItRun P ops i o t h1 x h1') (rest : WpItemsN P N its (putT t it.dst x) h' K) : WpItemsN P N (it :: its) t h K := by
  intro ops i hi hc
  obtain ⟨o, ho, hit, hi', hc'⟩ := items_cons hi hc
  obtain ⟨h1, h1', tc, run⟩ := run ops i o ho hit
  obtain ⟨recs, t', hh', ch, hk⟩ := rest ops (i + 1) hi' hc'
  have hdst : it.dst = o.dst := by
    unfold cItem at hit
    split at hit
    · split at hit <;> cases hit; rfl
    · cases hit
  exact ⟨⟨t, h, h1, h1', h', x, en⟩ :: recs, t', hh', .cons ho rfl rfl tc (fun _ => run) (by rw [← hdst]; exact ch), hk⟩
theorem WpItemsN.op {dst : Option Nat} {g : Option (Nat × Bool)} {op : AOp} {its : List AItem} {t : Tm} {h h' : H} {en : Ent} {K : Tm → H → Prop} {x : AV} (hg : guardOf t g = some true) (hx : aop (ev t) h op = some (x, h', en))
    (rest : WpItemsN P N its (putT t dst x) h' K) : WpItemsN P N (⟨dst, g, op⟩ :: its) t h K :=
  WpItemsN.step (fun ops i o ho hit => itrun_op ho hit hg hx) rest
theorem WpItemsN.opT {dst : Option Nat} {g : Option (Nat × Bool)} {op : AOp} {its : List AItem} {t : Tm} {h h' : H} {en : Ent} {K : Tm → H → Prop} {x : AV} (hg : guardOf t g = some true) (hx : aopT (ev t) h op = some (x, h', en))
    (rest : WpItemsN P N its (putT t dst x) h' K) : WpItemsN P N (⟨dst, g, op⟩ :: its) t h K :=
  WpItemsN.step (fun ops i o ho hit => itrun_opT ho hit hg hx) rest
theorem WpItemsN.acall {dst : Option Nat} {g : Option (Nat × Bool)} {f : FuncId} {l : List Opd} {its : List AItem} {t : Tm} {h h' h1 h1' : H} {en : Ent} {K : Tm → H → Prop} {vals : List AV} {r : AV} (hg : guardOf t g = some true) (hs : VSubs (l.map (ev t)) vals) (hc : ACalls P f vals h1 r h1')
    (tc : Touch h h1 h1' h' en) (rest : WpItemsN P N its (putT t dst r) h' K) : WpItemsN P N (⟨dst, g, .call f l⟩ :: its) t h K :=
  WpItemsN.step (fun ops i o ho hit => ⟨h1, h1', tc, itrun_call ho hit hg rfl hs hc⟩) rest
theorem WpItemsN.pcall {dst : Option Nat} {g : Option (Nat × Bool)} {f : FuncId} {l : List Opd} {its : List AItem} {t : Tm} {h : H} {K : Tm → H → Prop} {vals : List AV} {r : AV} (hg : guardOf t g = some true) (hs : VSubs (l.map (ev t)) vals) (hc : PCalls P f vals r)
    (rest : WpItemsN P N its (putT t dst r) h K) : WpItemsN P N (⟨dst, g, .call f l⟩ :: its) t h K :=
  WpItemsN.acall hg hs (hc h.n h.m) (touch_none h) rest
theorem Wp.regN {items : List AItem} {s : St} {Q : AExit → St → Prop} (h : WpItemsN P N items s.t s.h fun t' h' => Q .normal ⟨t', h'⟩) : Wp P N (.reg items none) s Q := by
  intro code hc
  obtain ⟨id, ops, draw, rfl, hi, hd⟩ := code_reg hc
  obtain ⟨recs, t', h', ch, hq⟩ := h ops 0 (Nat.zero_le _) (by simpa using hi)
  obtain ⟨nm, -, -⟩ := chain_nm ch
  obtain ⟨cl, ci⟩ := cItems_len hi
  have hN : ∀ (i : Nat) o d, ops[i]? = some o → o.dst = some d → d < N := by
    intro i o d ho hdd
    have hlt : i < ops.size := (Array.getElem?_eq_some_iff.1 ho).1
    have hit : i < items.length := by rw [cl]; simpa using hlt
    have := ci i o items[i] (by simpa using ho) (List.getElem?_eq_getElem hit)
    generalize items[i] = it at this
    unfold cItem at this
    split at this
    · split at this <;> cases this
      rename_i hcond
      simp only [Bool.and_eq_true] at hcond
      have := hcond.1
      rw [hdd] at this
      simpa using this
    · cases this
  refine ⟨.normal, ⟨t', h'⟩, ⟨nm, fun ro okc G w a r F => ?_⟩, hq⟩
  rcases hd with ⟨rfl, -⟩ | ⟨-, -, -, hn⟩
  · refine wpIn_region ?_
    rw [List.range_eq_range']
    have := chain_seq ro (Q := fun e' a' w' => AExit.normal.says e' ∧ NewM w a.defers a'.defers ∧ ∃ G', Trans G w s.h G' w' h' ∧ Rel N ⟨t', h'⟩ G' w' a') hN ch G w a r.size r.t r.h F
      (fun G' w' a' T1 t1 R1 s1 d1 => ⟨trivial, by rw [d1]; exact .refl, G', T1, ⟨s1, t1, R1, by rw [d1]; exact r.df.mono T1⟩⟩)
    simpa using this
  · cases hn
end
end Go.Av
end
section
set_option linter.unusedVariables false
set_option linter.unusedSimpArgs false
namespace Go.Av
variable {P : Program} {N : Nat} {s : St} {Q : AExit → St → Prop}
theorem OLe.skip {f : Nat → Option Obj} {i : Nat} {o : Option Obj} (h : f i = Option.none) : OLe (Go.Av.upd f i o) f := by
  intro j p hp
  refine ⟨p, ?_, OSub.refl p⟩
  simp only [Go.Av.upd]
  split
  · rename_i e; subst e; rw [h] at hp; cases hp
  · exact hp
theorem OLe.at {g : Nat → Option Obj} {k : Nat} {A : Obj} (h : g k = some A) : OLe g (Go.Av.upd none' k (some A)) := by
  intro j p hp
  simp only [Go.Av.upd, none'] at hp
  split at hp
  · rename_i e; subst e; cases hp; exact ⟨_, h, OSub.refl _⟩
  · cases hp
end Go.Av
end
