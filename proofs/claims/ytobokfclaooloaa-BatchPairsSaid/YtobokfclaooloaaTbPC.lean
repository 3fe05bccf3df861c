/- Parts of a proof: a layer of abstract values over the model, the functions' walks, plain laws. -/
import Derived.Deep.CondSized
import Derived.IntWalk
import Derived.KernelRfl
import Derived.Laws.Append
import Derived.Laws.AppendOwn
import Derived.Laws.BytesArg
import Derived.Laws.Cover3
import Derived.Laws.Entries
import Derived.Laws.IdiomCopy
import Derived.Laws.IdiomStrings
import Derived.Laws.Pointers
import Derived.Laws.Small
import Derived.Laws.Strings
import Derived.Laws.StructEq
import Derived.Lib.Small
import Derived.Lib.Walk
import Derived.MapKept
import Derived.OpenShut
import Derived.Orders
import Derived.OrdersIn
import Derived.ProofKit
import Derived.RangeFuncRecord
import Derived.RangeFuncSeq
import Derived.ReadAgain
import Derived.Scope
import Derived.Shelf.Lay
import Derived.Shelf.SlSortCmp.InsertionK
import Derived.Shelf.SlSortCmp.WholeK
import Derived.Shelf.Slices.Cells
import Derived.Shelf.Slices.Delete
import Derived.Shelf.Sort.Plain
import Derived.Shelf.Spec.SlicesInsertGrow
import Derived.SizedLaws
import Derived.Sort.Walk0
import Derived.Test.YtobokfclaooloaaRows
import Derived.WalkKit
import Derived.Test.YtobokfclaooloaaTbPB
section
set_option maxRecDepth 100000
namespace Go.Proofs.Ytobokfclaooloaa.C
open Go.Av
def c2 : AC := (.reg [⟨some 0, none, .dead⟩] none)
theorem f2 : FnIs Try.prog 2 1 c2 [] := ⟨_, Try.func2, rfl, by kernel_rfl, rfl⟩
def c3 : AC := (.seq (.reg [⟨some 4, none, .mov (.c (.bool false))⟩] none)
 (.seq (.seq (.reg [⟨some 13, none, .mov (.t 0)⟩, ⟨some 14, none, .call 5 [(.t 13)]⟩, ⟨some 15, none, .un .not (.t 14)⟩, ⟨some 16, none, .mov (.t 15)⟩, ⟨some 17, some (16, false), .mov (.t 1)⟩, ⟨some 18, some (16, false), .len false (.t 17)⟩, ⟨some 19, some (16, false), .bin .gtr (.t 18) (.c (.int .i64 300))⟩, ⟨some 20, none, .pick (.t 16) (.c (.bool true)) (.t 19)⟩] none)
 (.cond (.t 20) (.seq (.reg [⟨some 21, none, .call 6 []⟩, ⟨some 4, none, .mov (.t 21)⟩] none)
 .ret) .skip))
 (.seq (.reg [⟨some 23, none, .mov (.t 0)⟩, ⟨some 24, none, .call 7 [(.t 23)]⟩, ⟨some 22, none, .mov (.t 24)⟩, ⟨some 25, none, .ext (.t 22) 0⟩, ⟨some 26, none, .ext (.t 22) 1⟩, ⟨some 5, none, .mov (.t 25)⟩, ⟨some 6, none, .mov (.t 26)⟩] none)
 (.seq (.reg [⟨some 28, none, .mov (.t 0)⟩, ⟨some 29, none, .call 8 [(.t 28)]⟩, ⟨some 27, none, .mov (.t 29)⟩, ⟨some 30, none, .ext (.t 27) 0⟩, ⟨some 31, none, .ext (.t 27) 1⟩, ⟨some 7, none, .mov (.t 30)⟩, ⟨some 8, none, .mov (.t 31)⟩] none)
 (.seq (.reg [⟨some 33, none, .mov (.t 1)⟩, ⟨some 34, none, .call 9 [(.t 33)]⟩, ⟨some 32, none, .mov (.t 34)⟩, ⟨some 35, none, .ext (.t 32) 0⟩, ⟨some 36, none, .ext (.t 32) 1⟩, ⟨some 9, none, .mov (.t 35)⟩, ⟨some 10, none, .mov (.t 36)⟩] none)
 (.seq (.reg [⟨some 38, none, .mov (.t 1)⟩, ⟨some 39, none, .call 10 [(.t 38)]⟩, ⟨some 37, none, .mov (.t 39)⟩, ⟨some 40, none, .ext (.t 37) 0⟩, ⟨some 41, none, .ext (.t 37) 1⟩, ⟨some 11, none, .mov (.t 40)⟩, ⟨some 12, none, .mov (.t 41)⟩] none)
 (.seq (.reg [⟨some 42, none, .mov (.t 5)⟩, ⟨some 43, none, .mov (.t 7)⟩, ⟨some 44, none, .call 11 [(.t 42), (.t 43)]⟩, ⟨some 45, none, .mov (.t 44)⟩, ⟨some 46, some (45, true), .mov (.t 6)⟩, ⟨some 47, some (45, true), .mov (.t 8)⟩, ⟨some 48, some (45, true), .bin .eql (.t 46) (.t 47)⟩, ⟨some 49, none, .pick (.t 45) (.t 48) (.c (.bool false))⟩, ⟨some 50, none, .mov (.t 49)⟩, ⟨some 51, some (50, true), .mov (.t 9)⟩, ⟨some 52, some (50, true), .mov (.t 11)⟩, ⟨some 53, some (50, true), .call 12 [(.t 51), (.t 52)]⟩, ⟨some 54, none, .pick (.t 50) (.t 53) (.c (.bool false))⟩, ⟨some 55, none, .mov (.t 54)⟩, ⟨some 56, some (55, true), .mov (.t 10)⟩, ⟨some 57, some (55, true), .mov (.t 12)⟩, ⟨some 58, some (55, true), .bin .eql (.t 56) (.t 57)⟩, ⟨some 59, none, .pick (.t 55) (.t 58) (.c (.bool false))⟩, ⟨some 60, none, .mov (.t 59)⟩, ⟨some 61, some (60, true), .call 6 []⟩, ⟨some 62, none, .pick (.t 60) (.t 61) (.c (.bool false))⟩, ⟨some 4, none, .mov (.t 62)⟩] none)
 .ret)))))))
theorem f3 : FnIs Try.prog 3 63 c3 [.tmp 4] := ⟨_, Try.func3, rfl, by kernel_rfl, rfl⟩
def c4 : AC := (.seq (.reg [⟨some 2, none, .mov (.c (.bool false))⟩] none)
 (.seq (.seq (.reg [⟨some 10, none, .mov (.t 0)⟩, ⟨some 11, none, .call 5 [(.t 10)]⟩, ⟨some 12, none, .un .not (.t 11)⟩] none)
 (.cond (.t 12) (.seq (.reg [⟨some 13, none, .call 6 []⟩, ⟨some 2, none, .mov (.t 13)⟩] none)
 .ret) .skip))
 (.seq (.reg [⟨some 15, none, .mov (.t 0)⟩, ⟨some 16, none, .call 7 [(.t 15)]⟩, ⟨some 14, none, .mov (.t 16)⟩, ⟨some 17, none, .ext (.t 14) 0⟩, ⟨some 18, none, .ext (.t 14) 1⟩, ⟨some 3, none, .mov (.t 17)⟩, ⟨some 4, none, .mov (.t 18)⟩] none)
 (.seq (.seq (.reg [⟨some 19, none, .mov (.t 4)⟩, ⟨some 20, none, .bin .neq (.t 19) (.c (.int .i64 0))⟩] none)
 (.cond (.t 20) (.seq (.reg [⟨some 21, none, .mov (.t 3)⟩, ⟨some 22, none, .len false (.t 21)⟩, ⟨some 23, none, .bin .eql (.t 22) (.c (.int .i64 0))⟩, ⟨some 24, none, .mov (.t 23)⟩, ⟨some 25, some (24, true), .mov (.t 4)⟩, ⟨some 26, some (24, true), .bin .eql (.t 25) (.c (.int .i64 2))⟩, ⟨some 27, none, .pick (.t 24) (.t 26) (.c (.bool false))⟩, ⟨some 28, none, .mov (.t 27)⟩, ⟨some 29, some (28, true), .call 6 []⟩, ⟨some 30, none, .pick (.t 28) (.t 29) (.c (.bool false))⟩, ⟨some 2, none, .mov (.t 30)⟩] none)
 .ret) .skip))
 (.seq (.reg [⟨some 5, none, .mov (.c (.int .i64 0))⟩] none)
 (.seq (.seq (.reg [⟨some 6, none, .mov (.c (.int .i64 0))⟩] none)
 (.block 0 (.loop (.seq (.seq (.reg [⟨some 31, none, .mov (.t 6)⟩, ⟨some 32, none, .mov (.t 0)⟩, ⟨some 33, none, .len false (.t 32)⟩, ⟨some 34, none, .bin .lss (.t 31) (.t 33)⟩] none)
 (.cond (.t 34) .skip (.exit 0)))
 (.seq (.block 1 (.reg [⟨some 37, none, .mov (.t 5)⟩, ⟨some 38, none, .mov (.t 0)⟩, ⟨some 39, none, .mov (.t 6)⟩, ⟨some 40, none, .iaddr 2 (.t 38) (.t 39)⟩, ⟨some 41, none, .faddr 1 (.t 40)⟩, ⟨some 42, none, .load none (.t 41)⟩, ⟨some 43, none, .len false (.t 42)⟩, ⟨some 44, none, .bin .add (.t 37) (.t 43)⟩, ⟨some 5, none, .mov (.t 44)⟩] none))
 (.reg [⟨some 35, none, .mov (.t 6)⟩, ⟨some 36, none, .bin .add (.t 35) (.c (.int .i64 1))⟩, ⟨some 6, none, .mov (.t 36)⟩] none))))))
 (.seq (.seq (.reg [⟨some 7, none, .mov (.c (.int .i64 0))⟩] none)
 (.block 2 (.loop (.seq (.seq (.reg [⟨some 45, none, .mov (.t 7)⟩, ⟨some 46, none, .mov (.t 3)⟩, ⟨some 47, none, .len false (.t 46)⟩, ⟨some 48, none, .bin .lss (.t 45) (.t 47)⟩] none)
 (.cond (.t 48) .skip (.exit 2)))
 (.seq (.block 3 (.seq (.reg [⟨some 51, none, .mov (.t 3)⟩, ⟨some 52, none, .mov (.t 7)⟩, ⟨some 53, none, .iaddr 2 (.t 51) (.t 52)⟩, ⟨some 54, none, .faddr 0 (.t 53)⟩, ⟨some 55, none, .load none (.t 54)⟩, ⟨some 56, none, .len true (.t 55)⟩, ⟨some 57, none, .bin .lss (.t 56) (.c (.int .i64 8))⟩, ⟨some 58, none, .mov (.t 57)⟩, ⟨some 59, some (58, false), .mov (.t 3)⟩, ⟨some 60, some (58, false), .mov (.t 7)⟩, ⟨some 61, some (58, false), .iaddr 2 (.t 59) (.t 60)⟩, ⟨some 62, some (58, false), .faddr 0 (.t 61)⟩, ⟨some 63, some (58, false), .load none (.t 62)⟩, ⟨some 64, some (58, false), .len true (.t 63)⟩, ⟨some 65, some (58, false), .bin .gtr (.t 64) (.c (.int .i64 128))⟩, ⟨some 66, none, .pick (.t 58) (.c (.bool true)) (.t 65)⟩, ⟨some 67, none, .mov (.t 66)⟩, ⟨some 68, some (67, false), .mov (.t 3)⟩, ⟨some 69, some (67, false), .mov (.t 7)⟩, ⟨some 70, some (67, false), .iaddr 2 (.t 68) (.t 69)⟩, ⟨some 71, some (67, false), .faddr 1 (.t 70)⟩, ⟨some 72, some (67, false), .load none (.t 71)⟩, ⟨some 73, some (67, false), .len true (.t 72)⟩, ⟨some 74, some (67, false), .bin .lss (.t 73) (.c (.int .i64 1))⟩, ⟨some 75, none, .pick (.t 67) (.c (.bool true)) (.t 74)⟩, ⟨some 76, none, .mov (.t 75)⟩, ⟨some 77, some (76, false), .mov (.t 3)⟩, ⟨some 78, some (76, false), .mov (.t 7)⟩, ⟨some 79, some (76, false), .iaddr 2 (.t 77) (.t 78)⟩, ⟨some 80, some (76, false), .faddr 1 (.t 79)⟩, ⟨some 81, some (76, false), .load none (.t 80)⟩, ⟨some 82, some (76, false), .len true (.t 81)⟩, ⟨some 83, some (76, false), .bin .gtr (.t 82) (.c (.int .i64 200))⟩, ⟨some 84, none, .pick (.t 76) (.c (.bool true)) (.t 83)⟩, ⟨some 85, none, .mov (.t 84)⟩, ⟨some 86, some (85, false), .mov (.t 7)⟩, ⟨some 87, some (85, false), .bin .gtr (.t 86) (.c (.int .i64 0))⟩, ⟨some 88, some (85, false), .mov (.t 87)⟩, ⟨some 89, some (88, true), .mov (.t 3)⟩, ⟨some 90, some (88, true), .mov (.t 7)⟩, ⟨some 91, some (88, true), .bin .sub (.t 90) (.c (.int .i64 1))⟩, ⟨some 92, some (88, true), .iaddr 2 (.t 89) (.t 91)⟩, ⟨some 93, some (88, true), .faddr 0 (.t 92)⟩, ⟨some 94, some (88, true), .load none (.t 93)⟩, ⟨some 95, some (88, true), .mov (.t 3)⟩, ⟨some 96, some (88, true), .mov (.t 7)⟩, ⟨some 97, some (88, true), .iaddr 2 (.t 95) (.t 96)⟩, ⟨some 98, some (88, true), .faddr 0 (.t 97)⟩, ⟨some 99, some (88, true), .load none (.t 98)⟩, ⟨some 100, some (88, true), .bin .geq (.t 94) (.t 99)⟩, ⟨some 101, some (85, false), .pick (.t 88) (.t 100) (.c (.bool false))⟩, ⟨some 102, none, .pick (.t 85) (.c (.bool true)) (.t 101)⟩] (some [(43, 48)]))
 (.cond (.t 102) (.seq (.reg [⟨some 2, none, .mov (.c (.bool false))⟩] none)
 .ret) .skip)))
 (.reg [⟨some 49, none, .mov (.t 7)⟩, ⟨some 50, none, .bin .add (.t 49) (.c (.int .i64 1))⟩, ⟨some 7, none, .mov (.t 50)⟩] none))))))
 (.seq (.reg [⟨some 104, none, .mov (.t 3)⟩, ⟨some 105, none, .call 9 [(.t 104)]⟩, ⟨some 103, none, .mov (.t 105)⟩, ⟨some 106, none, .ext (.t 103) 0⟩, ⟨some 107, none, .ext (.t 103) 1⟩, ⟨some 8, none, .mov (.t 106)⟩, ⟨some 9, none, .mov (.t 107)⟩] none)
 (.seq (.reg [⟨some 108, none, .mov (.t 3)⟩, ⟨some 109, none, .len false (.t 108)⟩, ⟨some 110, none, .mov (.t 5)⟩, ⟨some 111, none, .bin .eql (.t 109) (.t 110)⟩, ⟨some 112, none, .mov (.t 111)⟩, ⟨some 113, some (112, true), .mov (.t 8)⟩, ⟨some 114, some (112, true), .mov (.t 0)⟩, ⟨some 115, some (112, true), .call 12 [(.t 113), (.t 114)]⟩, ⟨some 116, none, .pick (.t 112) (.t 115) (.c (.bool false))⟩, ⟨some 117, none, .mov (.t 116)⟩, ⟨some 118, some (117, true), .mov (.t 9)⟩, ⟨some 119, some (117, true), .bin .eql (.t 118) (.c (.int .i64 0))⟩, ⟨some 120, none, .pick (.t 117) (.t 119) (.c (.bool false))⟩, ⟨some 121, none, .mov (.t 120)⟩, ⟨some 122, some (121, true), .call 6 []⟩, ⟨some 123, none, .pick (.t 121) (.t 122) (.c (.bool false))⟩, ⟨some 2, none, .mov (.t 123)⟩] none)
 .ret)))))))))
theorem f4 : FnIs Try.prog 4 124 c4 [.tmp 2] := ⟨_, Try.func4, rfl, by kernel_rfl, rfl⟩
def c5 : AC := (.seq (.reg [⟨some 2, none, .mov (.c (.bool false))⟩] none)
 (.seq (.reg [⟨some 5, none, .mov (.t 0)⟩, ⟨some 6, none, .len false (.t 5)⟩, ⟨some 3, none, .mov (.t 6)⟩] none)
 (.seq (.seq (.reg [⟨some 4, none, .mov (.c (.int .i64 0))⟩] none)
 (.block 0 (.loop (.seq (.seq (.reg [⟨some 7, none, .mov (.t 4)⟩, ⟨some 8, none, .mov (.t 0)⟩, ⟨some 9, none, .len false (.t 8)⟩, ⟨some 10, none, .bin .lss (.t 7) (.t 9)⟩, ⟨some 11, none, .mov (.t 10)⟩, ⟨some 12, some (11, true), .mov (.t 3)⟩, ⟨some 13, some (11, true), .bin .lss (.t 12) (.c (.int .i64 300))⟩, ⟨some 14, none, .pick (.t 11) (.t 13) (.c (.bool false))⟩] none)
 (.cond (.t 14) .skip (.exit 0)))
 (.seq (.block 1 (.reg [⟨some 17, none, .mov (.t 3)⟩, ⟨some 18, none, .mov (.t 0)⟩, ⟨some 19, none, .mov (.t 4)⟩, ⟨some 20, none, .iaddr 2 (.t 18) (.t 19)⟩, ⟨some 21, none, .faddr 1 (.t 20)⟩, ⟨some 22, none, .load none (.t 21)⟩, ⟨some 23, none, .len false (.t 22)⟩, ⟨some 24, none, .bin .add (.t 17) (.t 23)⟩, ⟨some 3, none, .mov (.t 24)⟩] none))
 (.reg [⟨some 15, none, .mov (.t 4)⟩, ⟨some 16, none, .bin .add (.t 15) (.c (.int .i64 1))⟩, ⟨some 4, none, .mov (.t 16)⟩] none))))))
 (.seq (.reg [⟨some 25, none, .mov (.t 3)⟩, ⟨some 26, none, .bin .lss (.t 25) (.c (.int .i64 300))⟩, ⟨some 2, none, .mov (.t 26)⟩] none)
 .ret))))
theorem f5 : FnIs Try.prog 5 27 c5 [.tmp 2] := ⟨_, Try.func5, rfl, by kernel_rfl, rfl⟩
def c6 : AC := (.seq (.reg [⟨some 0, none, .mov (.c (.bool false))⟩] none)
 (.seq (.reg [⟨some 9, none, .build [.str [], .str [], .bool false] [(0, 1, (.c (.str [97]))), (1, 1, (.c (.str [120])))]⟩, ⟨some 10, none, .buildSl 3 [(.t 9)]⟩, ⟨some 11, none, .build [.int .i64 0, .sl 3 [] (.exact 0)] [(0, 1, (.c (.int .i64 5))), (1, 1, (.t 10))]⟩, ⟨some 12, none, .call 13 [(.t 11)]⟩, ⟨some 8, none, .mov (.t 12)⟩, ⟨some 13, none, .ext (.t 8) 0⟩, ⟨some 14, none, .ext (.t 8) 1⟩, ⟨some 1, none, .mov (.t 13)⟩, ⟨some 2, none, .mov (.t 14)⟩] none)
 (.seq (.reg [⟨some 16, none, .build [.int .i64 0, .str [], .bool false] [(0, 1, (.c (.int .i64 5))), (2, 1, (.c (.bool true)))]⟩, ⟨some 17, none, .buildSl 3 [(.t 16)]⟩, ⟨some 18, none, .build [.str [], .sl 3 [] (.exact 0)] [(0, 1, (.c (.str [97]))), (1, 1, (.t 17))]⟩, ⟨some 19, none, .buildSl 2 [(.t 18)]⟩, ⟨some 20, none, .call 7 [(.t 19)]⟩, ⟨some 15, none, .mov (.t 20)⟩, ⟨some 21, none, .ext (.t 15) 0⟩, ⟨some 22, none, .ext (.t 15) 1⟩, ⟨some 3, none, .mov (.t 21)⟩, ⟨some 4, none, .mov (.t 22)⟩] none)
 (.seq (.reg [⟨some 24, none, .call 14 [(.c (.str [77, 0, 0, 0, 0, 0, 0, 0, 9]))]⟩, ⟨some 23, none, .mov (.t 24)⟩, ⟨some 25, none, .ext (.t 23) 0⟩, ⟨some 26, none, .ext (.t 23) 1⟩, ⟨some 27, none, .ext (.t 23) 2⟩, ⟨some 5, none, .alloc [.int .i64 0, .sl 3 [] (.exact 0)]⟩, ⟨none, none, .store 2 (.t 5) (.t 25)⟩, ⟨some 6, none, .mov (.t 26)⟩, ⟨some 7, none, .mov (.t 27)⟩] none)
 (.seq (.reg [⟨some 28, none, .mov (.t 1)⟩, ⟨some 29, none, .bin .eql (.t 28) (.c (.str [66, 0, 0, 0, 0, 0, 0, 0, 5, 1, 0, 1, 97, 1, 120]))⟩, ⟨some 30, none, .mov (.t 29)⟩, ⟨some 31, some (30, true), .mov (.t 2)⟩, ⟨some 32, some (30, true), .bin .eql (.t 31) (.c (.int .i64 0))⟩, ⟨some 33, none, .pick (.t 30) (.t 32) (.c (.bool false))⟩, ⟨some 34, none, .mov (.t 33)⟩, ⟨some 35, some (34, true), .mov (.t 3)⟩, ⟨some 36, some (34, true), .build [.str [], .str []] [(0, 1, (.c (.str [97, 15, 255, 255, 255, 255, 255, 255, 251]))), (1, 1, (.c (.str [0])))]⟩, ⟨some 37, some (34, true), .buildSl 2 [(.t 36)]⟩, ⟨some 38, some (34, true), .call 11 [(.t 35), (.t 37)]⟩, ⟨some 39, none, .pick (.t 34) (.t 38) (.c (.bool false))⟩, ⟨some 40, none, .mov (.t 39)⟩, ⟨some 41, some (40, true), .mov (.t 4)⟩, ⟨some 42, some (40, true), .bin .eql (.t 41) (.c (.int .i64 0))⟩, ⟨some 43, none, .pick (.t 40) (.t 42) (.c (.bool false))⟩, ⟨some 44, none, .mov (.t 43)⟩, ⟨some 45, some (44, true), .mov (.t 6)⟩, ⟨some 46, some (44, true), .bin .eql (.t 45) (.c (.int .i64 9))⟩, ⟨some 47, none, .pick (.t 44) (.t 46) (.c (.bool false))⟩, ⟨some 48, none, .mov (.t 47)⟩, ⟨some 49, some (48, true), .mov (.t 7)⟩, ⟨some 50, some (48, true), .bin .eql (.t 49) (.c (.int .i64 0))⟩, ⟨some 51, none, .pick (.t 48) (.t 50) (.c (.bool false))⟩, ⟨some 52, none, .mov (.t 51)⟩, ⟨some 53, none, .pick (.t 52) (.c (.bool true)) (.c (.bool false))⟩, ⟨some 0, none, .mov (.t 53)⟩] none)
 .ret)))))
theorem f6 : FnIs Try.prog 6 54 c6 [.tmp 0] := ⟨_, Try.func6, rfl, by kernel_rfl, rfl⟩
def c7 : AC := (.seq (.reg [⟨some 2, none, .mov (.c (.sl 2 [] (.exact 0)))⟩, ⟨some 3, none, .mov (.c (.int .i64 0))⟩] none)
 (.seq (.reg [⟨some 4, none, .mov (.c (.sl 2 [] (.exact 0)))⟩] none)
 (.seq (.seq (.reg [⟨some 9, none, .mov (.t 0)⟩, ⟨some 10, none, .len false (.t 9)⟩, ⟨some 11, none, .mov (.c (.int .i64 0))⟩] none)
 (.block 0 (.loop (.seq (.reg [⟨some 12, none, .bin .lss (.t 11) (.t 10)⟩] none)
 (.seq (.cond (.t 12) .skip (.exit 0))
 (.seq (.block 1 (.seq (.reg [⟨some 13, none, .mov (.t 11)⟩, ⟨some 14, none, .iaddr 2 (.t 9) (.t 11)⟩, ⟨some 15, none, .load (some 2) (.t 14)⟩, ⟨some 6, none, .alloc [.str [], .sl 3 [] (.exact 0)]⟩, ⟨some 5, none, .mov (.t 13)⟩, ⟨none, none, .store 2 (.t 6) (.t 15)⟩] none)
 (.seq (.seq (.reg [⟨some 16, none, .load (some 2) (.t 6)⟩, ⟨some 17, none, .call 15 [(.t 16)]⟩, ⟨some 18, none, .un .not (.t 17)⟩, ⟨some 19, none, .mov (.t 18)⟩, ⟨some 20, some (19, false), .mov (.t 5)⟩, ⟨some 21, some (19, false), .bin .gtr (.t 20) (.c (.int .i64 0))⟩, ⟨some 22, some (19, false), .mov (.t 21)⟩, ⟨some 23, some (22, true), .mov (.t 0)⟩, ⟨some 24, some (22, true), .mov (.t 5)⟩, ⟨some 25, some (22, true), .bin .sub (.t 24) (.c (.int .i64 1))⟩, ⟨some 26, some (22, true), .iaddr 2 (.t 23) (.t 25)⟩, ⟨some 27, some (22, true), .faddr 0 (.t 26)⟩, ⟨some 28, some (22, true), .load none (.t 27)⟩, ⟨some 29, some (22, true), .faddr 0 (.t 6)⟩, ⟨some 30, some (22, true), .load none (.t 29)⟩, ⟨some 31, some (22, true), .bin .geq (.t 28) (.t 30)⟩, ⟨some 32, some (19, false), .pick (.t 22) (.t 31) (.c (.bool false))⟩, ⟨some 33, none, .pick (.t 19) (.c (.bool true)) (.t 32)⟩] (some [(12, 14)]))
 (.cond (.t 33) (.seq (.reg [⟨some 2, none, .mov (.c (.sl 2 [] (.exact 0)))⟩, ⟨some 3, none, .mov (.c (.int .i64 2))⟩] none)
 .ret) .skip))
 (.seq (.reg [⟨some 34, none, .faddr 1 (.t 6)⟩, ⟨some 35, none, .load none (.t 34)⟩, ⟨some 36, none, .len false (.t 35)⟩, ⟨some 37, none, .mov (.c (.int .i64 0))⟩] none)
 (.block 2 (.loop (.seq (.reg [⟨some 38, none, .bin .lss (.t 37) (.t 36)⟩] none)
 (.seq (.cond (.t 38) .skip (.exit 2))
 (.seq (.block 3 (.seq (.reg [⟨some 39, none, .iaddr 3 (.t 35) (.t 37)⟩, ⟨some 40, none, .load (some 3) (.t 39)⟩, ⟨some 8, none, .alloc [.int .i64 0, .str [], .bool false]⟩, ⟨none, none, .store 3 (.t 8) (.t 40)⟩] none)
 (.reg [⟨some 41, none, .mov (.t 4)⟩, ⟨some 42, none, .faddr 0 (.t 6)⟩, ⟨some 43, none, .load none (.t 42)⟩, ⟨some 44, none, .load (some 3) (.t 8)⟩, ⟨some 45, none, .call 16 [(.t 43), (.t 44)]⟩, ⟨some 46, none, .buildSl 2 [(.t 45)]⟩, ⟨some 47, none, .app false 2 32 (.t 41) (.t 46)⟩, ⟨some 4, none, .mov (.t 47)⟩] none)))
 (.reg [⟨some 48, none, .bin .add (.t 37) (.c (.int .i64 1))⟩, ⟨some 37, none, .mov (.t 48)⟩] none))))))))))
 (.reg [⟨some 49, none, .bin .add (.t 11) (.c (.int .i64 1))⟩, ⟨some 11, none, .mov (.t 49)⟩] none)))))))
 (.seq (.reg [⟨some 50, none, .mov (.t 4)⟩, ⟨some 51, none, .call 17 [(.t 50), (.c (.clo (.func 18) [] []))]⟩] none)
 (.seq (.reg [⟨some 52, none, .mov (.t 4)⟩, ⟨some 2, none, .mov (.t 52)⟩, ⟨some 3, none, .mov (.c (.int .i64 0))⟩] none)
 .ret)))))
theorem f7 : FnIs Try.prog 7 53 c7 [.tmp 2, .tmp 3] := ⟨_, Try.func7, rfl, by kernel_rfl, rfl⟩
def c8 : AC := (.seq (.reg [⟨some 2, none, .mov (.c (.sl 2 [] (.exact 0)))⟩, ⟨some 3, none, .mov (.c (.int .i64 0))⟩] none)
 (.seq (.seq (.reg [⟨some 9, none, .mov (.t 0)⟩, ⟨some 10, none, .call 20 [(.t 9)]⟩, ⟨some 11, none, .un .not (.t 10)⟩] none)
 (.cond (.t 11) (.seq (.reg [⟨some 2, none, .mov (.c (.sl 2 [] (.exact 0)))⟩, ⟨some 3, none, .mov (.c (.int .i64 2))⟩] none)
 .ret) .skip))
 (.seq (.reg [⟨some 4, none, .mov (.c (.sl 2 [] (.exact 0)))⟩] none)
 (.seq (.seq (.reg [⟨some 5, none, .mov (.c (.int .i64 0))⟩] none)
 (.block 0 (.loop (.seq (.seq (.reg [⟨some 12, none, .mov (.t 5)⟩, ⟨some 13, none, .mov (.t 0)⟩, ⟨some 14, none, .len false (.t 13)⟩, ⟨some 15, none, .bin .lss (.t 12) (.t 14)⟩] none)
 (.cond (.t 15) .skip (.exit 0)))
 (.seq (.block 1 (.seq (.reg [⟨some 6, none, .mov (.c (.int .i64 0))⟩] none)
 (.block 2 (.loop (.seq (.seq (.reg [⟨some 18, none, .mov (.t 6)⟩, ⟨some 19, none, .mov (.t 0)⟩, ⟨some 20, none, .mov (.t 5)⟩, ⟨some 21, none, .iaddr 2 (.t 19) (.t 20)⟩, ⟨some 22, none, .faddr 1 (.t 21)⟩, ⟨some 23, none, .load none (.t 22)⟩, ⟨some 24, none, .len false (.t 23)⟩, ⟨some 25, none, .bin .lss (.t 18) (.t 24)⟩] none)
 (.cond (.t 25) .skip (.exit 2)))
 (.seq (.block 3 (.seq (.reg [⟨some 28, none, .mov (.t 0)⟩, ⟨some 29, none, .mov (.t 5)⟩, ⟨some 30, none, .iaddr 2 (.t 28) (.t 29)⟩, ⟨some 31, none, .faddr 1 (.t 30)⟩, ⟨some 32, none, .load none (.t 31)⟩, ⟨some 33, none, .mov (.t 6)⟩, ⟨some 34, none, .iaddr 3 (.t 32) (.t 33)⟩, ⟨some 35, none, .load (some 3) (.t 34)⟩, ⟨some 7, none, .alloc [.int .i64 0, .str [], .bool false]⟩, ⟨none, none, .store 3 (.t 7) (.t 35)⟩] none)
 (.seq (.reg [⟨some 36, none, .faddr 1 (.t 7)⟩, ⟨some 37, none, .load none (.t 36)⟩, ⟨some 38, none, .bin .add (.c (.str [1])) (.t 37)⟩, ⟨some 8, none, .mov (.t 38)⟩] none)
 (.seq (.seq (.reg [⟨some 39, none, .faddr 2 (.t 7)⟩, ⟨some 40, none, .load none (.t 39)⟩] none)
 (.cond (.t 40) (.reg [⟨some 8, none, .mov (.c (.str [0]))⟩] none) .skip))
 (.reg [⟨some 42, none, .mov (.t 4)⟩, ⟨some 43, none, .mov (.t 0)⟩, ⟨some 44, none, .mov (.t 5)⟩, ⟨some 45, none, .iaddr 2 (.t 43) (.t 44)⟩, ⟨some 46, none, .faddr 0 (.t 45)⟩, ⟨some 47, none, .load none (.t 46)⟩, ⟨some 48, none, .faddr 0 (.t 7)⟩, ⟨some 49, none, .load none (.t 48)⟩, ⟨some 50, none, .bin .sub (.c (.int .i64 1152921504606846976)) (.t 49)⟩, ⟨some 51, none, .call 22 [(.t 50), (.c (.int .i64 8))]⟩, ⟨some 52, none, .bin .add (.t 47) (.t 51)⟩, ⟨some 53, none, .mov (.t 8)⟩, ⟨some 54, none, .call 21 [(.t 42), (.t 52), (.t 53)]⟩, ⟨some 41, none, .mov (.t 54)⟩, ⟨some 55, none, .ext (.t 41) 0⟩, ⟨some 56, none, .ext (.t 41) 1⟩, ⟨some 4, none, .mov (.t 55)⟩] (some [(5, 7), (5, 9)]))))))
 (.reg [⟨some 26, none, .mov (.t 6)⟩, ⟨some 27, none, .bin .add (.t 26) (.c (.int .i64 1))⟩, ⟨some 6, none, .mov (.t 27)⟩] none)))))))
 (.reg [⟨some 16, none, .mov (.t 5)⟩, ⟨some 17, none, .bin .add (.t 16) (.c (.int .i64 1))⟩, ⟨some 5, none, .mov (.t 17)⟩] none))))))
 (.seq (.reg [⟨some 57, none, .mov (.t 4)⟩, ⟨some 2, none, .mov (.t 57)⟩, ⟨some 3, none, .mov (.c (.int .i64 0))⟩] none)
 .ret)))))
theorem f8 : FnIs Try.prog 8 58 c8 [.tmp 2, .tmp 3] := ⟨_, Try.func8, rfl, by kernel_rfl, rfl⟩
def c9 : AC := (.seq (.reg [⟨some 2, none, .mov (.c (.sl 2 [] (.exact 0)))⟩, ⟨some 3, none, .mov (.c (.int .i64 0))⟩] none)
 (.seq (.reg [⟨some 17, none, .mkmap⟩, ⟨some 4, none, .mov (.t 17)⟩] none)
 (.seq (.reg [⟨some 5, none, .mov (.c (.sl 1 [] (.exact 0)))⟩] none)
 (.seq (.seq (.reg [⟨some 18, none, .mov (.t 0)⟩, ⟨some 19, none, .len false (.t 18)⟩, ⟨some 20, none, .mov (.c (.int .i64 0))⟩] none)
 (.block 0 (.loop (.seq (.reg [⟨some 21, none, .bin .lss (.t 20) (.t 19)⟩] none)
 (.seq (.cond (.t 21) .skip (.exit 0))
 (.seq (.block 1 (.seq (.reg [⟨some 22, none, .mov (.t 20)⟩, ⟨some 23, none, .iaddr 2 (.t 18) (.t 20)⟩, ⟨some 24, none, .load (some 2) (.t 23)⟩, ⟨some 7, none, .alloc [.str [], .str []]⟩, ⟨some 6, none, .mov (.t 22)⟩, ⟨none, none, .store 2 (.t 7) (.t 24)⟩] none)
 (.seq (.reg [⟨some 26, none, .load (some 2) (.t 7)⟩, ⟨some 27, none, .call 23 [(.t 26)]⟩, ⟨some 25, none, .mov (.t 27)⟩, ⟨some 28, none, .ext (.t 25) 0⟩, ⟨some 29, none, .ext (.t 25) 1⟩, ⟨some 30, none, .ext (.t 25) 2⟩, ⟨some 9, none, .alloc [.int .i64 0, .str [], .bool false]⟩, ⟨some 8, none, .mov (.t 28)⟩, ⟨none, none, .store 3 (.t 9) (.t 29)⟩, ⟨some 10, none, .mov (.t 30)⟩] none)
 (.seq (.seq (.reg [⟨some 31, none, .mov (.t 10)⟩, ⟨some 32, none, .un .not (.t 31)⟩, ⟨some 33, none, .mov (.t 32)⟩, ⟨some 34, some (33, false), .mov (.t 6)⟩, ⟨some 35, some (33, false), .bin .gtr (.t 34) (.c (.int .i64 0))⟩, ⟨some 36, some (33, false), .mov (.t 35)⟩, ⟨some 37, some (36, true), .mov (.t 0)⟩, ⟨some 38, some (36, true), .mov (.t 6)⟩, ⟨some 39, some (36, true), .bin .sub (.t 38) (.c (.int .i64 1))⟩, ⟨some 40, some (36, true), .iaddr 2 (.t 37) (.t 39)⟩, ⟨some 41, some (36, true), .faddr 0 (.t 40)⟩, ⟨some 42, some (36, true), .load none (.t 41)⟩, ⟨some 43, some (36, true), .faddr 0 (.t 7)⟩, ⟨some 44, some (36, true), .load none (.t 43)⟩, ⟨some 45, some (36, true), .bin .geq (.t 42) (.t 44)⟩, ⟨some 46, some (33, false), .pick (.t 36) (.t 45) (.c (.bool false))⟩, ⟨some 47, none, .pick (.t 33) (.c (.bool true)) (.t 46)⟩] (some [(11, 13)]))
 (.cond (.t 47) (.seq (.reg [⟨some 2, none, .mov (.c (.sl 2 [] (.exact 0)))⟩, ⟨some 3, none, .mov (.c (.int .i64 4))⟩] none)
 .ret) .skip))
 (.seq (.reg [⟨some 49, none, .mov (.t 4)⟩, ⟨some 50, none, .mov (.t 8)⟩, ⟨some 51, none, .mlook (.sl 3 [] (.exact 0)) true (.t 49) (.t 50)⟩, ⟨some 48, none, .mov (.t 51)⟩, ⟨some 52, none, .ext (.t 48) 0⟩, ⟨some 53, none, .ext (.t 48) 1⟩, ⟨some 11, none, .mov (.t 52)⟩, ⟨some 12, none, .mov (.t 53)⟩] none)
 (.seq (.seq (.reg [⟨some 54, none, .mov (.t 12)⟩, ⟨some 55, none, .un .not (.t 54)⟩] none)
 (.cond (.t 55) (.reg [⟨some 56, none, .mov (.t 5)⟩, ⟨some 57, none, .mov (.t 8)⟩, ⟨some 58, none, .buildSl 1 [(.t 57)]⟩, ⟨some 59, none, .app false 1 16 (.t 56) (.t 58)⟩, ⟨some 5, none, .mov (.t 59)⟩] none) .skip))
 (.reg [⟨some 60, none, .mov (.t 4)⟩, ⟨some 61, none, .mov (.t 8)⟩, ⟨some 62, none, .mov (.t 11)⟩, ⟨some 63, none, .load (some 3) (.t 9)⟩, ⟨some 64, none, .buildSl 3 [(.t 63)]⟩, ⟨some 65, none, .app false 3 32 (.t 62) (.t 64)⟩, ⟨none, none, .mput (.t 60) (.t 61) (.t 65)⟩] none)))))))
 (.reg [⟨some 66, none, .bin .add (.t 20) (.c (.int .i64 1))⟩, ⟨some 20, none, .mov (.t 66)⟩] none)))))))
 (.seq (.reg [⟨some 67, none, .mov (.t 5)⟩, ⟨some 68, none, .call 24 [(.t 67)]⟩] none)
 (.seq (.reg [⟨some 13, none, .mov (.c (.sl 2 [] (.exact 0)))⟩] none)
 (.seq (.seq (.reg [⟨some 69, none, .mov (.t 5)⟩, ⟨some 70, none, .len false (.t 69)⟩, ⟨some 71, none, .mov (.c (.int .i64 0))⟩] none)
 (.block 2 (.loop (.seq (.reg [⟨some 72, none, .bin .lss (.t 71) (.t 70)⟩] none)
 (.seq (.cond (.t 72) .skip (.exit 2))
 (.seq (.block 3 (.seq (.reg [⟨some 73, none, .iaddr 1 (.t 69) (.t 71)⟩, ⟨some 74, none, .load none (.t 73)⟩, ⟨some 15, none, .mov (.t 74)⟩] none)
 (.seq (.reg [⟨some 75, none, .mov (.t 15)⟩, ⟨some 76, none, .mov (.t 4)⟩, ⟨some 77, none, .mov (.t 15)⟩, ⟨some 78, none, .mlook (.sl 3 [] (.exact 0)) false (.t 76) (.t 77)⟩, ⟨some 79, none, .build [.str [], .sl 3 [] (.exact 0)] [(0, 1, (.t 75)), (1, 1, (.t 78))]⟩, ⟨some 16, none, .alloc [.str [], .sl 3 [] (.exact 0)]⟩, ⟨none, none, .store 2 (.t 16) (.t 79)⟩] none)
 (.seq (.seq (.reg [⟨some 80, none, .load (some 2) (.t 16)⟩, ⟨some 81, none, .call 15 [(.t 80)]⟩, ⟨some 82, none, .un .not (.t 81)⟩] none)
 (.cond (.t 82) (.seq (.reg [⟨some 2, none, .mov (.c (.sl 2 [] (.exact 0)))⟩, ⟨some 3, none, .mov (.c (.int .i64 4))⟩] none)
 .ret) .skip))
 (.reg [⟨some 83, none, .mov (.t 13)⟩, ⟨some 84, none, .load (some 2) (.t 16)⟩, ⟨some 85, none, .buildSl 2 [(.t 84)]⟩, ⟨some 86, none, .app false 2 40 (.t 83) (.t 85)⟩, ⟨some 13, none, .mov (.t 86)⟩] none)))))
 (.reg [⟨some 87, none, .bin .add (.t 71) (.c (.int .i64 1))⟩, ⟨some 71, none, .mov (.t 87)⟩] none)))))))
 (.seq (.reg [⟨some 88, none, .mov (.t 13)⟩, ⟨some 2, none, .mov (.t 88)⟩, ⟨some 3, none, .mov (.c (.int .i64 0))⟩] none)
 .ret))))))))
theorem f9 : FnIs Try.prog 9 89 c9 [.tmp 2, .tmp 3] := ⟨_, Try.func9, rfl, by kernel_rfl, rfl⟩
def c10 : AC := (.seq (.reg [⟨some 2, none, .mov (.c (.sl 2 [] (.exact 0)))⟩, ⟨some 3, none, .mov (.c (.int .i64 0))⟩] none)
 (.seq (.reg [⟨some 4, none, .mov (.c (.sl 2 [] (.exact 0)))⟩] none)
 (.seq (.seq (.reg [⟨some 5, none, .mov (.c (.int .i64 0))⟩] none)
 (.block 0 (.loop (.seq (.seq (.reg [⟨some 10, none, .mov (.t 5)⟩, ⟨some 11, none, .mov (.t 0)⟩, ⟨some 12, none, .len false (.t 11)⟩, ⟨some 13, none, .bin .lss (.t 10) (.t 12)⟩] none)
 (.cond (.t 13) .skip (.exit 0)))
 (.seq (.block 1 (.seq (.reg [⟨some 16, none, .mov (.t 0)⟩, ⟨some 17, none, .mov (.t 5)⟩, ⟨some 18, none, .iaddr 2 (.t 16) (.t 17)⟩, ⟨some 19, none, .faddr 0 (.t 18)⟩, ⟨some 20, none, .load none (.t 19)⟩, ⟨some 21, none, .len true (.t 20)⟩, ⟨some 22, none, .bin .sub (.t 21) (.c (.int .i64 8))⟩, ⟨some 6, none, .mov (.t 22)⟩] none)
 (.seq (.seq (.reg [⟨some 23, none, .mov (.t 6)⟩, ⟨some 24, none, .bin .lss (.t 23) (.c (.int .i64 0))⟩, ⟨some 25, none, .mov (.t 24)⟩, ⟨some 26, some (25, false), .mov (.t 0)⟩, ⟨some 27, some (25, false), .mov (.t 5)⟩, ⟨some 28, some (25, false), .iaddr 2 (.t 26) (.t 27)⟩, ⟨some 29, some (25, false), .faddr 1 (.t 28)⟩, ⟨some 30, some (25, false), .load none (.t 29)⟩, ⟨some 31, some (25, false), .bin .eql (.t 30) (.c (.str []))⟩, ⟨some 32, none, .pick (.t 25) (.c (.bool true)) (.t 31)⟩, ⟨some 33, none, .mov (.t 32)⟩, ⟨some 34, some (33, false), .mov (.t 0)⟩, ⟨some 35, some (33, false), .mov (.t 5)⟩, ⟨some 36, some (33, false), .iaddr 2 (.t 34) (.t 35)⟩, ⟨some 37, some (33, false), .faddr 1 (.t 36)⟩, ⟨some 38, some (33, false), .load none (.t 37)⟩, ⟨some 39, some (33, false), .idx (.t 38) (.c (.int .i64 0))⟩, ⟨some 40, some (33, false), .bin .gtr (.t 39) (.c (.int .u8 1))⟩, ⟨some 41, none, .pick (.t 33) (.c (.bool true)) (.t 40)⟩] none)
 (.cond (.t 41) (.seq (.reg [⟨some 2, none, .mov (.c (.sl 2 [] (.exact 0)))⟩, ⟨some 3, none, .mov (.c (.int .i64 4))⟩] none)
 .ret) .skip))
 (.seq (.reg [⟨some 42, none, .mov (.t 0)⟩, ⟨some 43, none, .mov (.t 5)⟩, ⟨some 44, none, .iaddr 2 (.t 42) (.t 43)⟩, ⟨some 45, none, .faddr 0 (.t 44)⟩, ⟨some 46, none, .load none (.t 45)⟩, ⟨some 47, none, .mov (.t 6)⟩, ⟨some 48, none, .call 25 [(.t 46), (.t 47), (.c (.int .i64 8))]⟩, ⟨some 7, none, .mov (.t 48)⟩] none)
 (.seq (.seq (.reg [⟨some 49, none, .mov (.t 7)⟩, ⟨some 50, none, .bin .lss (.t 49) (.c (.int .i64 0))⟩, ⟨some 51, none, .mov (.t 50)⟩, ⟨some 52, some (51, false), .mov (.t 7)⟩, ⟨some 53, some (51, false), .bin .gtr (.t 52) (.c (.int .i64 1152921504606846976))⟩, ⟨some 54, none, .pick (.t 51) (.c (.bool true)) (.t 53)⟩] none)
 (.cond (.t 54) (.seq (.reg [⟨some 2, none, .mov (.c (.sl 2 [] (.exact 0)))⟩, ⟨some 3, none, .mov (.c (.int .i64 4))⟩] none)
 .ret) .skip))
 (.reg [⟨some 55, none, .mov (.t 4)⟩, ⟨some 56, none, .mov (.t 0)⟩, ⟨some 57, none, .mov (.t 5)⟩, ⟨some 58, none, .iaddr 2 (.t 56) (.t 57)⟩, ⟨some 59, none, .faddr 0 (.t 58)⟩, ⟨some 60, none, .load none (.t 59)⟩, ⟨some 61, none, .mov (.t 6)⟩, ⟨some 62, none, .slc true 0 (.t 60) none (some (.t 61)) none⟩, ⟨some 63, none, .mov (.t 7)⟩, ⟨some 64, none, .bin .sub (.c (.int .i64 1152921504606846976)) (.t 63)⟩, ⟨some 65, none, .mov (.t 0)⟩, ⟨some 66, none, .mov (.t 5)⟩, ⟨some 67, none, .iaddr 2 (.t 65) (.t 66)⟩, ⟨some 68, none, .faddr 1 (.t 67)⟩, ⟨some 69, none, .load none (.t 68)⟩, ⟨some 70, none, .slc true 0 (.t 69) (some (.c (.int .i64 1))) none none⟩, ⟨some 71, none, .mov (.t 0)⟩, ⟨some 72, none, .mov (.t 5)⟩, ⟨some 73, none, .iaddr 2 (.t 71) (.t 72)⟩, ⟨some 74, none, .faddr 1 (.t 73)⟩, ⟨some 75, none, .load none (.t 74)⟩, ⟨some 76, none, .idx (.t 75) (.c (.int .i64 0))⟩, ⟨some 77, none, .bin .eql (.t 76) (.c (.int .u8 0))⟩, ⟨some 78, none, .build [.int .i64 0, .str [], .bool false] [(0, 1, (.t 64)), (1, 1, (.t 70)), (2, 1, (.t 77))]⟩, ⟨some 79, none, .call 26 [(.t 55), (.t 62), (.t 78)]⟩, ⟨some 4, none, .mov (.t 79)⟩] (some [(5, 14), (5, 20), (14, 20)])))))))
 (.reg [⟨some 14, none, .mov (.t 5)⟩, ⟨some 15, none, .bin .add (.t 14) (.c (.int .i64 1))⟩, ⟨some 5, none, .mov (.t 15)⟩] none))))))
 (.seq (.reg [⟨some 81, none, .mov (.t 4)⟩, ⟨some 82, none, .call 8 [(.t 81)]⟩, ⟨some 80, none, .mov (.t 82)⟩, ⟨some 83, none, .ext (.t 80) 0⟩, ⟨some 84, none, .ext (.t 80) 1⟩, ⟨some 8, none, .mov (.t 83)⟩, ⟨some 9, none, .mov (.t 84)⟩] none)
 (.seq (.seq (.reg [⟨some 85, none, .mov (.t 9)⟩, ⟨some 86, none, .bin .neq (.t 85) (.c (.int .i64 0))⟩, ⟨some 87, none, .mov (.t 86)⟩, ⟨some 88, some (87, false), .mov (.t 8)⟩, ⟨some 89, some (87, false), .mov (.t 0)⟩, ⟨some 90, some (87, false), .call 11 [(.t 88), (.t 89)]⟩, ⟨some 91, some (87, false), .un .not (.t 90)⟩, ⟨some 92, none, .pick (.t 87) (.c (.bool true)) (.t 91)⟩] none)
 (.cond (.t 92) (.seq (.reg [⟨some 2, none, .mov (.c (.sl 2 [] (.exact 0)))⟩, ⟨some 3, none, .mov (.c (.int .i64 4))⟩] none)
 .ret) .skip))
 (.seq (.reg [⟨some 93, none, .mov (.t 4)⟩, ⟨some 2, none, .mov (.t 93)⟩, ⟨some 3, none, .mov (.c (.int .i64 0))⟩] none)
 .ret))))))
theorem f10 : FnIs Try.prog 10 94 c10 [.tmp 2, .tmp 3] := ⟨_, Try.func10, rfl, by kernel_rfl, rfl⟩
def c11 : AC := (.seq (.reg [⟨some 4, none, .mov (.c (.bool false))⟩] none)
 (.seq (.seq (.reg [⟨some 6, none, .mov (.t 0)⟩, ⟨some 7, none, .len false (.t 6)⟩, ⟨some 8, none, .mov (.t 1)⟩, ⟨some 9, none, .len false (.t 8)⟩, ⟨some 10, none, .bin .neq (.t 7) (.t 9)⟩] none)
 (.cond (.t 10) (.seq (.reg [⟨some 4, none, .mov (.c (.bool false))⟩] none)
 .ret) .skip))
 (.seq (.seq (.reg [⟨some 5, none, .mov (.c (.int .i64 0))⟩] none)
 (.block 0 (.loop (.seq (.seq (.reg [⟨some 11, none, .mov (.t 5)⟩, ⟨some 12, none, .mov (.t 0)⟩, ⟨some 13, none, .len false (.t 12)⟩, ⟨some 14, none, .bin .lss (.t 11) (.t 13)⟩] none)
 (.cond (.t 14) .skip (.exit 0)))
 (.seq (.block 1 (.seq (.reg [⟨some 17, none, .mov (.t 0)⟩, ⟨some 18, none, .mov (.t 5)⟩, ⟨some 19, none, .iaddr 2 (.t 17) (.t 18)⟩, ⟨some 20, none, .load (some 2) (.t 19)⟩, ⟨some 21, none, .mov (.t 1)⟩, ⟨some 22, none, .mov (.t 5)⟩, ⟨some 23, none, .iaddr 2 (.t 21) (.t 22)⟩, ⟨some 24, none, .load (some 2) (.t 23)⟩, ⟨some 25, none, .eqA true [.str, .str] (.t 20) (.t 24)⟩] (some [(3, 7)]))
 (.cond (.t 25) (.seq (.reg [⟨some 4, none, .mov (.c (.bool false))⟩] none)
 .ret) .skip)))
 (.reg [⟨some 15, none, .mov (.t 5)⟩, ⟨some 16, none, .bin .add (.t 15) (.c (.int .i64 1))⟩, ⟨some 5, none, .mov (.t 16)⟩] none))))))
 (.seq (.reg [⟨some 4, none, .mov (.c (.bool true))⟩] none)
 .ret))))
theorem f11 : FnIs Try.prog 11 26 c11 [.tmp 4] := ⟨_, Try.func11, rfl, by kernel_rfl, rfl⟩
def c12 : AC := (.seq (.reg [⟨some 4, none, .mov (.c (.bool false))⟩] none)
 (.seq (.seq (.reg [⟨some 6, none, .mov (.t 0)⟩, ⟨some 7, none, .len false (.t 6)⟩, ⟨some 8, none, .mov (.t 1)⟩, ⟨some 9, none, .len false (.t 8)⟩, ⟨some 10, none, .bin .neq (.t 7) (.t 9)⟩] none)
 (.cond (.t 10) (.seq (.reg [⟨some 4, none, .mov (.c (.bool false))⟩] none)
 .ret) .skip))
 (.seq (.seq (.reg [⟨some 5, none, .mov (.c (.int .i64 0))⟩] none)
 (.block 0 (.loop (.seq (.seq (.reg [⟨some 11, none, .mov (.t 5)⟩, ⟨some 12, none, .mov (.t 0)⟩, ⟨some 13, none, .len false (.t 12)⟩, ⟨some 14, none, .bin .lss (.t 11) (.t 13)⟩] none)
 (.cond (.t 14) .skip (.exit 0)))
 (.seq (.block 1 (.seq (.reg [⟨some 17, none, .mov (.t 0)⟩, ⟨some 18, none, .mov (.t 5)⟩, ⟨some 19, none, .iaddr 2 (.t 17) (.t 18)⟩, ⟨some 20, none, .faddr 0 (.t 19)⟩, ⟨some 21, none, .load none (.t 20)⟩, ⟨some 22, none, .mov (.t 1)⟩, ⟨some 23, none, .mov (.t 5)⟩, ⟨some 24, none, .iaddr 2 (.t 22) (.t 23)⟩, ⟨some 25, none, .faddr 0 (.t 24)⟩, ⟨some 26, none, .load none (.t 25)⟩, ⟨some 27, none, .bin .neq (.t 21) (.t 26)⟩, ⟨some 28, none, .mov (.t 27)⟩, ⟨some 29, some (28, false), .mov (.t 0)⟩, ⟨some 30, some (28, false), .mov (.t 5)⟩, ⟨some 31, some (28, false), .iaddr 2 (.t 29) (.t 30)⟩, ⟨some 32, some (28, false), .faddr 1 (.t 31)⟩, ⟨some 33, some (28, false), .load none (.t 32)⟩, ⟨some 34, some (28, false), .mov (.t 1)⟩, ⟨some 35, some (28, false), .mov (.t 5)⟩, ⟨some 36, some (28, false), .iaddr 2 (.t 34) (.t 35)⟩, ⟨some 37, some (28, false), .faddr 1 (.t 36)⟩, ⟨some 38, some (28, false), .load none (.t 37)⟩, ⟨some 39, some (28, false), .call 27 [(.t 33), (.t 38)]⟩, ⟨some 40, some (28, false), .un .not (.t 39)⟩, ⟨some 41, none, .pick (.t 28) (.c (.bool true)) (.t 40)⟩] (some [(4, 9), (16, 21)]))
 (.cond (.t 41) (.seq (.reg [⟨some 4, none, .mov (.c (.bool false))⟩] none)
 .ret) .skip)))
 (.reg [⟨some 15, none, .mov (.t 5)⟩, ⟨some 16, none, .bin .add (.t 15) (.c (.int .i64 1))⟩, ⟨some 5, none, .mov (.t 16)⟩] none))))))
 (.seq (.reg [⟨some 4, none, .mov (.c (.bool true))⟩] none)
 .ret))))
theorem f12 : FnIs Try.prog 12 42 c12 [.tmp 4] := ⟨_, Try.func12, rfl, by kernel_rfl, rfl⟩
def c13 : AC := (.seq (.reg [⟨some 1, none, .box (.t 0)⟩, ⟨some 2, none, .mov (.c (.str []))⟩, ⟨some 3, none, .mov (.c (.int .i64 0))⟩] none)
 (.seq (.seq (.reg [⟨some 9, none, .load (some 2) (.t 1)⟩, ⟨some 10, none, .call 28 [(.t 9)]⟩, ⟨some 4, none, .mov (.t 10)⟩] none)
 (.seq (.reg [⟨some 11, none, .mov (.t 4)⟩, ⟨some 12, none, .bin .neq (.t 11) (.c (.int .i64 0))⟩] none)
 (.cond (.t 12) (.seq (.reg [⟨some 13, none, .mov (.t 4)⟩, ⟨some 2, none, .mov (.c (.str []))⟩, ⟨some 3, none, .mov (.t 13)⟩] none)
 .ret) .skip)))
 (.seq (.reg [⟨some 14, none, .buildSl 1 [(.c (.int .u8 66))]⟩, ⟨some 15, none, .faddr 0 (.t 1)⟩, ⟨some 16, none, .load none (.t 15)⟩, ⟨some 17, none, .call 30 [(.t 14), (.t 16)]⟩, ⟨some 18, none, .faddr 1 (.t 1)⟩, ⟨some 19, none, .load none (.t 18)⟩, ⟨some 20, none, .len false (.t 19)⟩, ⟨some 21, none, .call 29 [(.t 17), (.t 20)]⟩, ⟨some 5, none, .mov (.t 21)⟩] (some [(0, 2), (0, 5), (2, 5), (3, 5)]))
 (.seq (.seq (.reg [⟨some 22, none, .faddr 1 (.t 1)⟩, ⟨some 23, none, .load none (.t 22)⟩, ⟨some 24, none, .len false (.t 23)⟩, ⟨some 25, none, .mov (.c (.int .i64 0))⟩] none)
 (.block 0 (.loop (.seq (.reg [⟨some 26, none, .bin .lss (.t 25) (.t 24)⟩] none)
 (.seq (.cond (.t 26) .skip (.exit 0))
 (.seq (.block 1 (.seq (.reg [⟨some 27, none, .iaddr 3 (.t 23) (.t 25)⟩, ⟨some 28, none, .load (some 3) (.t 27)⟩, ⟨some 7, none, .alloc [.str [], .str [], .bool false]⟩, ⟨none, none, .store 3 (.t 7) (.t 28)⟩] none)
 (.seq (.reg [⟨some 8, none, .mov (.c (.int .i64 0))⟩] none)
 (.seq (.seq (.reg [⟨some 29, none, .faddr 2 (.t 7)⟩, ⟨some 30, none, .load none (.t 29)⟩] none)
 (.cond (.t 30) (.reg [⟨some 8, none, .mov (.c (.int .i64 1))⟩] none) .skip))
 (.reg [⟨some 31, none, .mov (.t 5)⟩, ⟨some 32, none, .mov (.t 8)⟩, ⟨some 33, none, .call 29 [(.t 31), (.t 32)]⟩, ⟨some 34, none, .faddr 0 (.t 7)⟩, ⟨some 35, none, .load none (.t 34)⟩, ⟨some 36, none, .call 31 [(.t 33), (.t 35)]⟩, ⟨some 37, none, .faddr 1 (.t 7)⟩, ⟨some 38, none, .load none (.t 37)⟩, ⟨some 39, none, .call 31 [(.t 36), (.t 38)]⟩, ⟨some 5, none, .mov (.t 39)⟩] (some [(2, 4), (2, 7), (4, 7), (5, 7)]))))))
 (.reg [⟨some 40, none, .bin .add (.t 25) (.c (.int .i64 1))⟩, ⟨some 25, none, .mov (.t 40)⟩] none)))))))
 (.seq (.reg [⟨some 41, none, .mov (.t 5)⟩, ⟨some 42, none, .conv .b2s (.t 41)⟩, ⟨some 2, none, .mov (.t 42)⟩, ⟨some 3, none, .mov (.c (.int .i64 0))⟩] none)
 .ret)))))
theorem f13 : FnIs Try.prog 13 43 c13 [.tmp 2, .tmp 3] := ⟨_, Try.func13, rfl, by kernel_rfl, rfl⟩
def c14 : AC := (.seq (.reg [⟨some 2, none, .alloc [.int .i64 0, .sl 3 [] (.exact 0)]⟩, ⟨some 3, none, .mov (.c (.int .i64 0))⟩, ⟨some 4, none, .mov (.c (.int .i64 0))⟩] none)
 (.scope (.seq (.reg [⟨some 5, none, .alloc [.int .i64 0, .sl 3 [] (.exact 0)]⟩] none)
 (.seq (.reg [⟨some 6, none, .alloc [.str [], .str [], .bool false]⟩] none)
 (.seq (.reg [⟨some 7, none, .mov (.c (.bool false))⟩] none)
 (.seq (.reg [⟨some 8, none, .mov (.c (.int .i64 10))⟩, ⟨some 9, none, .mov (.c (.int .i64 0))⟩] none)
 (.seq (.seq (.reg [⟨some 10, none, .mov (.t 0)⟩, ⟨some 11, none, .len true (.t 10)⟩, ⟨some 12, none, .bin .lss (.t 11) (.c (.int .i64 9))⟩, ⟨some 13, none, .mov (.t 12)⟩, ⟨some 14, some (13, false), .mov (.t 0)⟩, ⟨some 15, some (13, false), .len true (.t 14)⟩, ⟨some 16, some (13, false), .bin .gtr (.t 15) (.c (.int .i64 16384))⟩, ⟨some 17, none, .pick (.t 13) (.c (.bool true)) (.t 16)⟩] none)
 (.cond (.t 17) (.goto 0) .skip))
 (.seq (.reg [⟨some 18, none, .mov (.t 0)⟩, ⟨some 19, none, .slc true 0 (.t 18) (some (.c (.int .i64 1))) (some (.c (.int .i64 9))) none⟩, ⟨some 20, none, .conv .s2b (.t 19)⟩, ⟨some 21, none, .call 32 [(.t 20)]⟩, ⟨some 22, none, .call 33 [(.t 21)]⟩, ⟨some 23, none, .faddr 0 (.t 5)⟩, ⟨none, none, .store 1 (.t 23) (.t 22)⟩] none)
 (.seq (.block 0 (.seq (.reg [⟨some 25, none, .mov (.t 0)⟩, ⟨some 26, none, .idx (.t 25) (.c (.int .i64 0))⟩, ⟨some 27, none, .bin .eql (.t 26) (.c (.int .u8 77))⟩, ⟨some 28, none, .mov (.t 27)⟩, ⟨some 29, some (28, true), .mov (.t 0)⟩, ⟨some 30, some (28, true), .len true (.t 29)⟩, ⟨some 31, some (28, true), .bin .eql (.t 30) (.c (.int .i64 9))⟩, ⟨some 32, none, .pick (.t 28) (.t 31) (.c (.bool false))⟩, ⟨some 33, none, .mov (.t 32)⟩, ⟨some 34, some (33, true), .faddr 0 (.t 5)⟩, ⟨some 35, some (33, true), .load none (.t 34)⟩, ⟨some 36, some (33, true), .bin .geq (.t 35) (.c (.int .i64 0))⟩, ⟨some 37, none, .pick (.t 33) (.t 36) (.c (.bool false))⟩, ⟨some 38, none, .mov (.t 37)⟩, ⟨some 39, some (38, true), .faddr 0 (.t 5)⟩, ⟨some 40, some (38, true), .load none (.t 39)⟩, ⟨some 41, some (38, true), .bin .leq (.t 40) (.c (.int .i64 1152921504606846976))⟩, ⟨some 42, none, .pick (.t 38) (.t 41) (.c (.bool false))⟩, ⟨some 24, none, .mov (.t 42)⟩] none)
 (.cond (.t 24) (.seq (.reg [⟨some 43, none, .build [.int .i64 0, .sl 3 [] (.exact 0)] []⟩, ⟨some 44, none, .faddr 0 (.t 5)⟩, ⟨some 45, none, .load none (.t 44)⟩, ⟨none, none, .store 2 (.t 2) (.t 43)⟩, ⟨some 3, none, .mov (.t 45)⟩, ⟨some 4, none, .mov (.c (.int .i64 0))⟩] (some [(2, 3)]))
 .ret) (.seq (.reg [⟨some 47, none, .mov (.t 0)⟩, ⟨some 48, none, .idx (.t 47) (.c (.int .i64 0))⟩, ⟨some 49, none, .bin .neq (.t 48) (.c (.int .u8 66))⟩, ⟨some 50, none, .mov (.t 49)⟩, ⟨some 51, some (50, false), .mov (.t 0)⟩, ⟨some 52, some (50, false), .len true (.t 51)⟩, ⟨some 53, some (50, false), .bin .eql (.t 52) (.c (.int .i64 9))⟩, ⟨some 54, none, .pick (.t 50) (.c (.bool true)) (.t 53)⟩, ⟨some 46, none, .mov (.t 54)⟩] none)
 (.cond (.t 46) (.goto 0) .skip)))))
 (.seq (.reg [⟨some 55, none, .mov (.t 0)⟩, ⟨some 56, none, .idx (.t 55) (.c (.int .i64 9))⟩, ⟨some 57, none, .conv (.toInt .i64) (.t 56)⟩, ⟨some 9, none, .mov (.t 57)⟩] none)
 (.seq (.label 2)
 (.seq (.seq (.reg [⟨some 58, none, .mov (.t 9)⟩, ⟨some 59, none, .bin .eql (.t 58) (.c (.int .i64 0))⟩] none)
 (.cond (.t 59) (.goto 1) .skip))
 (.seq (.reg [⟨some 60, none, .mov (.t 9)⟩, ⟨some 61, none, .bin .sub (.t 60) (.c (.int .i64 1))⟩, ⟨some 9, none, .mov (.t 61)⟩] none)
 (.seq (.seq (.reg [⟨some 62, none, .mov (.t 8)⟩, ⟨some 63, none, .mov (.t 0)⟩, ⟨some 64, none, .len true (.t 63)⟩, ⟨some 65, none, .bin .geq (.t 62) (.t 64)⟩, ⟨some 66, none, .mov (.t 65)⟩, ⟨some 67, some (66, false), .mov (.t 0)⟩, ⟨some 68, some (66, false), .mov (.t 8)⟩, ⟨some 69, some (66, false), .idx (.t 67) (.t 68)⟩, ⟨some 70, some (66, false), .bin .gtr (.t 69) (.c (.int .u8 1))⟩, ⟨some 71, none, .pick (.t 66) (.c (.bool true)) (.t 70)⟩] none)
 (.cond (.t 71) (.goto 0) .skip))
 (.seq (.reg [⟨some 72, none, .mov (.t 0)⟩, ⟨some 73, none, .mov (.t 8)⟩, ⟨some 74, none, .idx (.t 72) (.t 73)⟩, ⟨some 75, none, .bin .eql (.t 74) (.c (.int .u8 1))⟩, ⟨some 76, none, .build [.str [], .str [], .bool false] [(2, 1, (.t 75))]⟩, ⟨none, none, .store 3 (.t 6) (.t 76)⟩] none)
 (.seq (.seq (.reg [⟨some 78, none, .mov (.t 0)⟩, ⟨some 79, none, .mov (.t 8)⟩, ⟨some 80, none, .bin .add (.t 79) (.c (.int .i64 1))⟩, ⟨some 81, none, .call 34 [(.t 78), (.t 80)]⟩, ⟨some 77, none, .mov (.t 81)⟩, ⟨some 82, none, .ext (.t 77) 0⟩, ⟨some 83, none, .ext (.t 77) 1⟩, ⟨some 84, none, .ext (.t 77) 2⟩, ⟨some 85, none, .faddr 0 (.t 6)⟩, ⟨none, none, .store 1 (.t 85) (.t 82)⟩, ⟨some 8, none, .mov (.t 83)⟩, ⟨some 7, none, .mov (.t 84)⟩] none)
 (.seq (.reg [⟨some 86, none, .mov (.t 7)⟩, ⟨some 87, none, .un .not (.t 86)⟩] none)
 (.cond (.t 87) (.goto 0) .skip)))
 (.seq (.seq (.reg [⟨some 89, none, .mov (.t 0)⟩, ⟨some 90, none, .mov (.t 8)⟩, ⟨some 91, none, .call 34 [(.t 89), (.t 90)]⟩, ⟨some 88, none, .mov (.t 91)⟩, ⟨some 92, none, .ext (.t 88) 0⟩, ⟨some 93, none, .ext (.t 88) 1⟩, ⟨some 94, none, .ext (.t 88) 2⟩, ⟨some 95, none, .faddr 1 (.t 6)⟩, ⟨none, none, .store 1 (.t 95) (.t 92)⟩, ⟨some 8, none, .mov (.t 93)⟩, ⟨some 7, none, .mov (.t 94)⟩] none)
 (.seq (.reg [⟨some 96, none, .mov (.t 7)⟩, ⟨some 97, none, .un .not (.t 96)⟩] none)
 (.cond (.t 97) (.goto 0) .skip)))
 (.seq (.reg [⟨some 98, none, .faddr 1 (.t 5)⟩, ⟨some 99, none, .load none (.t 98)⟩, ⟨some 100, none, .load (some 3) (.t 6)⟩, ⟨some 101, none, .buildSl 3 [(.t 100)]⟩, ⟨some 102, none, .app false 3 40 (.t 99) (.t 101)⟩, ⟨some 103, none, .faddr 1 (.t 5)⟩, ⟨none, none, .store 1 (.t 103) (.t 102)⟩] none)
 (.seq (.goto 2)
 (.seq (.label 1)
 (.seq (.seq (.reg [⟨some 104, none, .mov (.t 8)⟩, ⟨some 105, none, .mov (.t 0)⟩, ⟨some 106, none, .len true (.t 105)⟩, ⟨some 107, none, .bin .eql (.t 104) (.t 106)⟩, ⟨some 108, none, .mov (.t 107)⟩, ⟨some 109, some (108, true), .load (some 2) (.t 5)⟩, ⟨some 110, some (108, true), .call 28 [(.t 109)]⟩, ⟨some 111, some (108, true), .bin .eql (.t 110) (.c (.int .i64 0))⟩, ⟨some 112, none, .pick (.t 108) (.t 111) (.c (.bool false))⟩] none)
 (.cond (.t 112) (.seq (.reg [⟨some 113, none, .load (some 2) (.t 5)⟩, ⟨none, none, .store 2 (.t 2) (.t 113)⟩, ⟨some 3, none, .mov (.c (.int .i64 0))⟩, ⟨some 4, none, .mov (.c (.int .i64 0))⟩] none)
 .ret) .skip))
 (.seq (.label 0)
 (.seq (.reg [⟨some 114, none, .build [.int .i64 0, .sl 3 [] (.exact 0)] []⟩, ⟨none, none, .store 2 (.t 2) (.t 114)⟩, ⟨some 3, none, .mov (.c (.int .i64 0))⟩, ⟨some 4, none, .mov (.c (.int .i64 4))⟩] none)
 .ret)))))))))))))))))))))))
theorem f14 : FnIs Try.prog 14 115 c14 [.cell 2 (some 2), .tmp 3, .tmp 4] := ⟨_, Try.func14, rfl, by kernel_rfl, rfl⟩
def c15 : AC := (.seq (.reg [⟨some 1, none, .box (.t 0)⟩, ⟨some 2, none, .mov (.c (.bool false))⟩] none)
 (.seq (.reg [⟨some 3, none, .mov (.c (.clo (.func 35) [] []))⟩] none)
 (.seq (.reg [⟨some 4, none, .faddr 0 (.t 1)⟩, ⟨some 5, none, .load none (.t 4)⟩, ⟨some 6, none, .len true (.t 5)⟩, ⟨some 7, none, .bin .leq (.t 6) (.c (.int .i64 120))⟩, ⟨some 8, none, .mov (.t 7)⟩, ⟨some 9, some (8, true), .faddr 1 (.t 1)⟩, ⟨some 10, some (8, true), .load none (.t 9)⟩, ⟨some 11, some (8, true), .len false (.t 10)⟩, ⟨some 12, some (8, true), .bin .gtr (.t 11) (.c (.int .i64 0))⟩, ⟨some 13, none, .pick (.t 8) (.t 12) (.c (.bool false))⟩, ⟨some 14, none, .mov (.t 13)⟩, ⟨some 15, some (14, true), .faddr 1 (.t 1)⟩, ⟨some 16, some (14, true), .load none (.t 15)⟩, ⟨some 17, some (14, true), .call 36 [(.t 16)]⟩, ⟨some 18, some (14, true), .bin .eql (.t 17) (.c (.int .i64 0))⟩, ⟨some 19, none, .pick (.t 14) (.t 18) (.c (.bool false))⟩, ⟨some 20, none, .mov (.t 19)⟩, ⟨some 21, some (20, true), .faddr 1 (.t 1)⟩, ⟨some 22, some (20, true), .load none (.t 21)⟩, ⟨some 23, some (20, true), .mov (.t 3)⟩, ⟨some 24, some (20, true), .call 37 [(.t 22), (.t 23)]⟩, ⟨some 25, some (20, true), .un .not (.t 24)⟩, ⟨some 26, none, .pick (.t 20) (.t 25) (.c (.bool false))⟩, ⟨some 2, none, .mov (.t 26)⟩] none)
 .ret)))
theorem f15 : FnIs Try.prog 15 27 c15 [.tmp 2] := ⟨_, Try.func15, rfl, by kernel_rfl, rfl⟩
def c16 : AC := (.seq (.reg [⟨some 3, none, .box (.t 1)⟩, ⟨some 4, none, .alloc [.str [], .str []]⟩] none)
 (.seq (.reg [⟨some 6, none, .mov (.t 0)⟩, ⟨some 7, none, .conv .s2b (.t 6)⟩, ⟨some 8, none, .faddr 0 (.t 3)⟩, ⟨some 9, none, .load none (.t 8)⟩, ⟨some 10, none, .bin .sub (.c (.int .i64 1152921504606846976)) (.t 9)⟩, ⟨some 11, none, .call 30 [(.t 7), (.t 10)]⟩, ⟨some 12, none, .conv .b2s (.t 11)⟩, ⟨some 13, none, .build [.str [], .str []] [(0, 1, (.t 12)), (1, 1, (.c (.str [0])))]⟩, ⟨some 5, none, .alloc [.str [], .str []]⟩, ⟨none, none, .store 2 (.t 5) (.t 13)⟩] none)
 (.seq (.seq (.reg [⟨some 14, none, .faddr 2 (.t 3)⟩, ⟨some 15, none, .load none (.t 14)⟩, ⟨some 16, none, .un .not (.t 15)⟩] none)
 (.cond (.t 16) (.reg [⟨some 17, none, .faddr 1 (.t 3)⟩, ⟨some 18, none, .load none (.t 17)⟩, ⟨some 19, none, .bin .add (.c (.str [1])) (.t 18)⟩, ⟨some 20, none, .faddr 1 (.t 5)⟩, ⟨none, none, .store 1 (.t 20) (.t 19)⟩] none) .skip))
 (.seq (.reg [⟨some 21, none, .load (some 2) (.t 5)⟩, ⟨none, none, .store 2 (.t 4) (.t 21)⟩] none)
 .ret))))
theorem f16 : FnIs Try.prog 16 22 c16 [.cell 4 (some 2)] := ⟨_, Try.func16, rfl, by kernel_rfl, rfl⟩
def c17 : AC := (.seq (.reg [⟨some 5, none, .mov (.t 0)⟩, ⟨some 6, none, .len false (.t 5)⟩, ⟨some 4, none, .mov (.t 6)⟩] none)
 (.reg [⟨some 7, none, .mov (.t 0)⟩, ⟨some 8, none, .mov (.t 4)⟩, ⟨some 9, none, .mov (.t 4)⟩, ⟨some 10, none, .conv (.toInt .u64) (.t 9)⟩, ⟨some 11, none, .call 39 [(.t 10)]⟩, ⟨some 12, none, .mov (.t 1)⟩, ⟨some 13, none, .call 38 [(.t 7), (.c (.int .i64 0)), (.t 8), (.t 11), (.t 12)]⟩] none))
theorem f17 : FnIs Try.prog 17 14 c17 [] := ⟨_, Try.func17, rfl, by kernel_rfl, rfl⟩
def c18 : AC := (.seq (.reg [⟨some 2, none, .box (.t 0)⟩, ⟨some 3, none, .box (.t 1)⟩, ⟨some 4, none, .mov (.c (.int .i64 0))⟩] none)
 (.seq (.reg [⟨some 5, none, .faddr 0 (.t 2)⟩, ⟨some 6, none, .load none (.t 5)⟩, ⟨some 7, none, .faddr 0 (.t 3)⟩, ⟨some 8, none, .load none (.t 7)⟩, ⟨some 9, none, .call 19 [(.t 6), (.t 8)]⟩, ⟨some 4, none, .mov (.t 9)⟩] none)
 .ret))
theorem f18 : FnIs Try.prog 18 10 c18 [.tmp 4] := ⟨_, Try.func18, rfl, by kernel_rfl, rfl⟩
def c19 : AC := (.seq (.reg [⟨some 4, none, .mov (.c (.int .i64 0))⟩] none)
 (.seq (.reg [⟨some 7, none, .mov (.t 0)⟩, ⟨some 8, none, .call 40 [(.t 7)]⟩, ⟨some 5, none, .mov (.t 8)⟩] none)
 (.seq (.reg [⟨some 9, none, .mov (.t 1)⟩, ⟨some 10, none, .call 40 [(.t 9)]⟩, ⟨some 6, none, .mov (.t 10)⟩] none)
 (.seq (.seq (.reg [⟨some 11, none, .mov (.t 5)⟩] none)
 (.cond (.t 11) (.seq (.seq (.reg [⟨some 12, none, .mov (.t 6)⟩] none)
 (.cond (.t 12) (.seq (.reg [⟨some 4, none, .mov (.c (.int .i64 0))⟩] none)
 .ret) .skip))
 (.seq (.reg [⟨some 4, none, .mov (.c (.int .i64 (-1)))⟩] none)
 .ret)) .skip))
 (.seq (.seq (.reg [⟨some 13, none, .mov (.t 6)⟩] none)
 (.cond (.t 13) (.seq (.reg [⟨some 4, none, .mov (.c (.int .i64 1))⟩] none)
 .ret) .skip))
 (.seq (.seq (.reg [⟨some 14, none, .mov (.t 0)⟩, ⟨some 15, none, .mov (.t 1)⟩, ⟨some 16, none, .bin .lss (.t 14) (.t 15)⟩] none)
 (.cond (.t 16) (.seq (.reg [⟨some 4, none, .mov (.c (.int .i64 (-1)))⟩] none)
 .ret) .skip))
 (.seq (.seq (.reg [⟨some 17, none, .mov (.t 0)⟩, ⟨some 18, none, .mov (.t 1)⟩, ⟨some 19, none, .bin .gtr (.t 17) (.t 18)⟩] none)
 (.cond (.t 19) (.seq (.reg [⟨some 4, none, .mov (.c (.int .i64 1))⟩] none)
 .ret) .skip))
 (.seq (.reg [⟨some 4, none, .mov (.c (.int .i64 0))⟩] none)
 .ret))))))))
theorem f19 : FnIs Try.prog 19 20 c19 [.tmp 4] := ⟨_, Try.func19, rfl, by kernel_rfl, rfl⟩
def c20 : AC := (.seq (.reg [⟨some 2, none, .mov (.c (.bool false))⟩] none)
 (.seq (.seq (.reg [⟨some 3, none, .mov (.c (.int .i64 0))⟩] none)
 (.block 0 (.loop (.seq (.seq (.reg [⟨some 6, none, .mov (.t 3)⟩, ⟨some 7, none, .mov (.t 0)⟩, ⟨some 8, none, .len false (.t 7)⟩, ⟨some 9, none, .bin .lss (.t 6) (.t 8)⟩] none)
 (.cond (.t 9) .skip (.exit 0)))
 (.seq (.block 1 (.seq (.reg [⟨some 12, none, .mov (.t 0)⟩, ⟨some 13, none, .mov (.t 3)⟩, ⟨some 14, none, .iaddr 2 (.t 12) (.t 13)⟩, ⟨some 15, none, .faddr 1 (.t 14)⟩, ⟨some 16, none, .load none (.t 15)⟩, ⟨some 4, none, .mov (.t 16)⟩] none)
 (.seq (.seq (.reg [⟨some 17, none, .mov (.t 0)⟩, ⟨some 18, none, .mov (.t 3)⟩, ⟨some 19, none, .iaddr 2 (.t 17) (.t 18)⟩, ⟨some 20, none, .faddr 0 (.t 19)⟩, ⟨some 21, none, .load none (.t 20)⟩, ⟨some 22, none, .len true (.t 21)⟩, ⟨some 23, none, .bin .gtr (.t 22) (.c (.int .i64 120))⟩, ⟨some 24, none, .mov (.t 23)⟩, ⟨some 25, some (24, false), .mov (.t 3)⟩, ⟨some 26, some (24, false), .bin .gtr (.t 25) (.c (.int .i64 0))⟩, ⟨some 27, some (24, false), .mov (.t 26)⟩, ⟨some 28, some (27, true), .mov (.t 0)⟩, ⟨some 29, some (27, true), .mov (.t 3)⟩, ⟨some 30, some (27, true), .bin .sub (.t 29) (.c (.int .i64 1))⟩, ⟨some 31, some (27, true), .iaddr 2 (.t 28) (.t 30)⟩, ⟨some 32, some (27, true), .faddr 0 (.t 31)⟩, ⟨some 33, some (27, true), .load none (.t 32)⟩, ⟨some 34, some (27, true), .mov (.t 0)⟩, ⟨some 35, some (27, true), .mov (.t 3)⟩, ⟨some 36, some (27, true), .iaddr 2 (.t 34) (.t 35)⟩, ⟨some 37, some (27, true), .faddr 0 (.t 36)⟩, ⟨some 38, some (27, true), .load none (.t 37)⟩, ⟨some 39, some (27, true), .call 41 [(.t 33), (.t 38)]⟩, ⟨some 40, some (27, true), .un .not (.t 39)⟩, ⟨some 41, some (24, false), .pick (.t 27) (.t 40) (.c (.bool false))⟩, ⟨some 42, none, .pick (.t 24) (.c (.bool true)) (.t 41)⟩, ⟨some 43, none, .mov (.t 42)⟩, ⟨some 44, some (43, false), .mov (.t 4)⟩, ⟨some 45, some (43, false), .len false (.t 44)⟩, ⟨some 46, some (43, false), .bin .eql (.t 45) (.c (.int .i64 0))⟩, ⟨some 47, none, .pick (.t 43) (.c (.bool true)) (.t 46)⟩, ⟨some 48, none, .mov (.t 47)⟩, ⟨some 49, some (48, false), .mov (.t 4)⟩, ⟨some 50, some (48, false), .call 42 [(.t 49)]⟩, ⟨some 51, some (48, false), .un .not (.t 50)⟩, ⟨some 52, none, .pick (.t 48) (.c (.bool true)) (.t 51)⟩] (some [(16, 21)]))
 (.cond (.t 52) (.seq (.reg [⟨some 2, none, .mov (.c (.bool false))⟩] none)
 .ret) .skip))
 (.seq (.reg [⟨some 5, none, .mov (.c (.int .i64 0))⟩] none)
 (.block 2 (.loop (.seq (.seq (.reg [⟨some 53, none, .mov (.t 5)⟩, ⟨some 54, none, .mov (.t 4)⟩, ⟨some 55, none, .len false (.t 54)⟩, ⟨some 56, none, .bin .lss (.t 53) (.t 55)⟩] none)
 (.cond (.t 56) .skip (.exit 2)))
 (.seq (.block 3 (.seq (.reg [⟨some 59, none, .mov (.t 4)⟩, ⟨some 60, none, .mov (.t 5)⟩, ⟨some 61, none, .iaddr 3 (.t 59) (.t 60)⟩, ⟨some 62, none, .faddr 1 (.t 61)⟩, ⟨some 63, none, .load none (.t 62)⟩, ⟨some 64, none, .len true (.t 63)⟩, ⟨some 65, none, .bin .gtr (.t 64) (.c (.int .i64 199))⟩] none)
 (.cond (.t 65) (.seq (.reg [⟨some 2, none, .mov (.c (.bool false))⟩] none)
 .ret) .skip)))
 (.reg [⟨some 57, none, .mov (.t 5)⟩, ⟨some 58, none, .bin .add (.t 57) (.c (.int .i64 1))⟩, ⟨some 5, none, .mov (.t 58)⟩] none)))))))))
 (.reg [⟨some 10, none, .mov (.t 3)⟩, ⟨some 11, none, .bin .add (.t 10) (.c (.int .i64 1))⟩, ⟨some 3, none, .mov (.t 11)⟩] none))))))
 (.seq (.reg [⟨some 2, none, .mov (.c (.bool true))⟩] none)
 .ret)))
theorem f20 : FnIs Try.prog 20 66 c20 [.tmp 2] := ⟨_, Try.func20, rfl, by kernel_rfl, rfl⟩
def c21 : AC := (.seq (.reg [⟨some 6, none, .mov (.c (.sl 2 [] (.exact 0)))⟩, ⟨some 7, none, .mov (.c (.int .i64 0))⟩] none)
 (.seq (.seq (.reg [⟨some 11, none, .mov (.t 1)⟩, ⟨some 12, none, .len true (.t 11)⟩, ⟨some 13, none, .bin .gtr (.t 12) (.c (.int .i64 128))⟩, ⟨some 14, none, .mov (.t 13)⟩, ⟨some 15, some (14, false), .mov (.t 2)⟩, ⟨some 16, some (14, false), .len true (.t 15)⟩, ⟨some 17, some (14, false), .bin .gtr (.t 16) (.c (.int .i64 200))⟩, ⟨some 18, none, .pick (.t 14) (.c (.bool true)) (.t 17)⟩] none)
 (.cond (.t 18) (.seq (.reg [⟨some 19, none, .mov (.t 0)⟩, ⟨some 6, none, .mov (.t 19)⟩, ⟨some 7, none, .mov (.c (.int .i64 2))⟩] none)
 .ret) .skip))
 (.seq (.reg [⟨some 8, none, .mov (.c (.sl 2 [] (.exact 0)))⟩] none)
 (.seq (.reg [⟨some 9, none, .mov (.c (.bool false))⟩] none)
 (.seq (.seq (.reg [⟨some 10, none, .mov (.c (.int .i64 0))⟩] none)
 (.block 0 (.loop (.seq (.seq (.reg [⟨some 20, none, .mov (.t 10)⟩, ⟨some 21, none, .mov (.t 0)⟩, ⟨some 22, none, .len false (.t 21)⟩, ⟨some 23, none, .bin .lss (.t 20) (.t 22)⟩] none)
 (.cond (.t 23) .skip (.exit 0)))
 (.seq (.block 1 (.seq (.seq (.reg [⟨some 26, none, .mov (.t 9)⟩, ⟨some 27, none, .un .not (.t 26)⟩, ⟨some 28, none, .mov (.t 27)⟩, ⟨some 29, some (28, true), .mov (.t 0)⟩, ⟨some 30, some (28, true), .mov (.t 10)⟩, ⟨some 31, some (28, true), .iaddr 2 (.t 29) (.t 30)⟩, ⟨some 32, some (28, true), .faddr 0 (.t 31)⟩, ⟨some 33, some (28, true), .load none (.t 32)⟩, ⟨some 34, some (28, true), .mov (.t 1)⟩, ⟨some 35, some (28, true), .call 41 [(.t 33), (.t 34)]⟩, ⟨some 36, some (28, true), .un .not (.t 35)⟩, ⟨some 37, none, .pick (.t 28) (.t 36) (.c (.bool false))⟩] none)
 (.cond (.t 37) (.seq (.reg [⟨some 38, none, .mov (.t 8)⟩, ⟨some 39, none, .mov (.t 1)⟩, ⟨some 40, none, .mov (.t 2)⟩, ⟨some 41, none, .build [.str [], .str []] [(0, 1, (.t 39)), (1, 1, (.t 40))]⟩, ⟨some 42, none, .buildSl 2 [(.t 41)]⟩, ⟨some 43, none, .app false 2 32 (.t 38) (.t 42)⟩, ⟨some 8, none, .mov (.t 43)⟩] none)
 (.reg [⟨some 9, none, .mov (.c (.bool true))⟩] none)) .skip))
 (.seq (.reg [⟨some 44, none, .mov (.t 0)⟩, ⟨some 45, none, .mov (.t 10)⟩, ⟨some 46, none, .iaddr 2 (.t 44) (.t 45)⟩, ⟨some 47, none, .faddr 0 (.t 46)⟩, ⟨some 48, none, .load none (.t 47)⟩, ⟨some 49, none, .mov (.t 1)⟩, ⟨some 50, none, .bin .neq (.t 48) (.t 49)⟩] none)
 (.cond (.t 50) (.reg [⟨some 51, none, .mov (.t 8)⟩, ⟨some 52, none, .mov (.t 0)⟩, ⟨some 53, none, .mov (.t 10)⟩, ⟨some 54, none, .iaddr 2 (.t 52) (.t 53)⟩, ⟨some 55, none, .load (some 2) (.t 54)⟩, ⟨some 56, none, .buildSl 2 [(.t 55)]⟩, ⟨some 57, none, .app false 2 32 (.t 51) (.t 56)⟩, ⟨some 8, none, .mov (.t 57)⟩] none) .skip))))
 (.reg [⟨some 24, none, .mov (.t 10)⟩, ⟨some 25, none, .bin .add (.t 24) (.c (.int .i64 1))⟩, ⟨some 10, none, .mov (.t 25)⟩] none))))))
 (.seq (.seq (.reg [⟨some 58, none, .mov (.t 9)⟩, ⟨some 59, none, .un .not (.t 58)⟩] none)
 (.cond (.t 59) (.reg [⟨some 60, none, .mov (.t 8)⟩, ⟨some 61, none, .mov (.t 1)⟩, ⟨some 62, none, .mov (.t 2)⟩, ⟨some 63, none, .build [.str [], .str []] [(0, 1, (.t 61)), (1, 1, (.t 62))]⟩, ⟨some 64, none, .buildSl 2 [(.t 63)]⟩, ⟨some 65, none, .app false 2 32 (.t 60) (.t 64)⟩, ⟨some 8, none, .mov (.t 65)⟩] none) .skip))
 (.seq (.reg [⟨some 66, none, .mov (.t 8)⟩, ⟨some 6, none, .mov (.t 66)⟩, ⟨some 7, none, .mov (.c (.int .i64 0))⟩] none)
 .ret)))))))
theorem f21 : FnIs Try.prog 21 67 c21 [.tmp 6, .tmp 7] := ⟨_, Try.func21, rfl, by kernel_rfl, rfl⟩
def c22 : AC := (.seq (.reg [⟨some 4, none, .mov (.c (.str []))⟩] none)
 (.seq (.reg [⟨some 8, none, .mov (.t 0)⟩, ⟨some 9, none, .conv (.toInt .u64) (.t 8)⟩, ⟨some 5, none, .mov (.t 9)⟩] none)
 (.seq (.reg [⟨some 6, none, .mov (.c (.sl 1 [] (.exact 0)))⟩] none)
 (.seq (.seq (.reg [⟨some 10, none, .mov (.t 1)⟩, ⟨some 11, none, .bin .sub (.t 10) (.c (.int .i64 1))⟩, ⟨some 7, none, .mov (.t 11)⟩] none)
 (.block 0 (.loop (.seq (.seq (.reg [⟨some 12, none, .mov (.t 7)⟩, ⟨some 13, none, .bin .geq (.t 12) (.c (.int .i64 0))⟩] none)
 (.cond (.t 13) .skip (.exit 0)))
 (.seq (.block 1 (.reg [⟨some 16, none, .mov (.t 6)⟩, ⟨some 17, none, .mov (.t 5)⟩, ⟨some 18, none, .mov (.t 7)⟩, ⟨some 19, none, .conv (.toInt .u64) (.t 18)⟩, ⟨some 20, none, .bin .mul (.c (.int .u64 8)) (.t 19)⟩, ⟨some 21, none, .bin .shr (.t 17) (.t 20)⟩, ⟨some 22, none, .conv (.toInt .u8) (.t 21)⟩, ⟨some 23, none, .buildSl 1 [(.t 22)]⟩, ⟨some 24, none, .app false 1 1 (.t 16) (.t 23)⟩, ⟨some 6, none, .mov (.t 24)⟩] none))
 (.reg [⟨some 14, none, .mov (.t 7)⟩, ⟨some 15, none, .bin .sub (.t 14) (.c (.int .i64 1))⟩, ⟨some 7, none, .mov (.t 15)⟩] none))))))
 (.seq (.reg [⟨some 25, none, .mov (.t 6)⟩, ⟨some 26, none, .conv .b2s (.t 25)⟩, ⟨some 4, none, .mov (.t 26)⟩] none)
 .ret)))))
theorem f22 : FnIs Try.prog 22 27 c22 [.tmp 4] := ⟨_, Try.func22, rfl, by kernel_rfl, rfl⟩
def c23 : AC := (.seq (.reg [⟨some 1, none, .box (.t 0)⟩, ⟨some 2, none, .mov (.c (.str []))⟩, ⟨some 3, none, .alloc [.int .i64 0, .str [], .bool false]⟩, ⟨some 4, none, .mov (.c (.bool false))⟩] none)
 (.seq (.reg [⟨some 7, none, .faddr 0 (.t 1)⟩, ⟨some 8, none, .load none (.t 7)⟩, ⟨some 9, none, .len true (.t 8)⟩, ⟨some 10, none, .bin .sub (.t 9) (.c (.int .i64 8))⟩, ⟨some 5, none, .mov (.t 10)⟩] none)
 (.seq (.seq (.reg [⟨some 11, none, .mov (.t 5)⟩, ⟨some 12, none, .bin .lss (.t 11) (.c (.int .i64 0))⟩, ⟨some 13, none, .mov (.t 12)⟩, ⟨some 14, some (13, false), .faddr 1 (.t 1)⟩, ⟨some 15, some (13, false), .load none (.t 14)⟩, ⟨some 16, some (13, false), .bin .eql (.t 15) (.c (.str []))⟩, ⟨some 17, none, .pick (.t 13) (.c (.bool true)) (.t 16)⟩, ⟨some 18, none, .mov (.t 17)⟩, ⟨some 19, some (18, false), .faddr 1 (.t 1)⟩, ⟨some 20, some (18, false), .load none (.t 19)⟩, ⟨some 21, some (18, false), .idx (.t 20) (.c (.int .i64 0))⟩, ⟨some 22, some (18, false), .bin .gtr (.t 21) (.c (.int .u8 1))⟩, ⟨some 23, none, .pick (.t 18) (.c (.bool true)) (.t 22)⟩] none)
 (.cond (.t 23) (.seq (.reg [⟨some 24, none, .build [.int .i64 0, .str [], .bool false] []⟩, ⟨some 2, none, .mov (.c (.str []))⟩, ⟨none, none, .store 3 (.t 3) (.t 24)⟩, ⟨some 4, none, .mov (.c (.bool false))⟩] none)
 .ret) .skip))
 (.seq (.reg [⟨some 25, none, .faddr 0 (.t 1)⟩, ⟨some 26, none, .load none (.t 25)⟩, ⟨some 27, none, .mov (.t 5)⟩, ⟨some 28, none, .slc true 0 (.t 26) (some (.t 27)) none none⟩, ⟨some 29, none, .conv .s2b (.t 28)⟩, ⟨some 30, none, .call 32 [(.t 29)]⟩, ⟨some 31, none, .call 33 [(.t 30)]⟩, ⟨some 6, none, .mov (.t 31)⟩] none)
 (.seq (.seq (.reg [⟨some 32, none, .mov (.t 6)⟩, ⟨some 33, none, .bin .lss (.t 32) (.c (.int .i64 0))⟩, ⟨some 34, none, .mov (.t 33)⟩, ⟨some 35, some (34, false), .mov (.t 6)⟩, ⟨some 36, some (34, false), .bin .geq (.t 35) (.c (.int .i64 1152921504606846976))⟩, ⟨some 37, none, .pick (.t 34) (.c (.bool true)) (.t 36)⟩] none)
 (.cond (.t 37) (.seq (.reg [⟨some 38, none, .build [.int .i64 0, .str [], .bool false] []⟩, ⟨some 2, none, .mov (.c (.str []))⟩, ⟨none, none, .store 3 (.t 3) (.t 38)⟩, ⟨some 4, none, .mov (.c (.bool false))⟩] none)
 .ret) .skip))
 (.seq (.reg [⟨some 39, none, .faddr 0 (.t 1)⟩, ⟨some 40, none, .load none (.t 39)⟩, ⟨some 41, none, .mov (.t 5)⟩, ⟨some 42, none, .slc true 0 (.t 40) none (some (.t 41)) none⟩, ⟨some 43, none, .mov (.t 6)⟩, ⟨some 44, none, .bin .sub (.c (.int .i64 1152921504606846976)) (.t 43)⟩, ⟨some 45, none, .faddr 1 (.t 1)⟩, ⟨some 46, none, .load none (.t 45)⟩, ⟨some 47, none, .slc true 0 (.t 46) (some (.c (.int .i64 1))) none none⟩, ⟨some 48, none, .faddr 1 (.t 1)⟩, ⟨some 49, none, .load none (.t 48)⟩, ⟨some 50, none, .idx (.t 49) (.c (.int .i64 0))⟩, ⟨some 51, none, .bin .eql (.t 50) (.c (.int .u8 0))⟩, ⟨some 52, none, .build [.int .i64 0, .str [], .bool false] [(0, 1, (.t 44)), (1, 1, (.t 47)), (2, 1, (.t 51))]⟩, ⟨some 2, none, .mov (.t 42)⟩, ⟨none, none, .store 3 (.t 3) (.t 52)⟩, ⟨some 4, none, .mov (.c (.bool true))⟩] (some [(1, 7), (1, 10), (7, 10)]))
 .ret))))))
theorem f23 : FnIs Try.prog 23 53 c23 [.tmp 2, .cell 3 (some 3), .tmp 4] := ⟨_, Try.func23, rfl, by kernel_rfl, rfl⟩
def c24 : AC := (.seq (.reg [⟨some 3, none, .mov (.t 0)⟩, ⟨some 4, none, .len false (.t 3)⟩, ⟨some 2, none, .mov (.t 4)⟩] none)
 (.reg [⟨some 5, none, .mov (.t 0)⟩, ⟨some 6, none, .mov (.t 2)⟩, ⟨some 7, none, .mov (.t 2)⟩, ⟨some 8, none, .conv (.toInt .u64) (.t 7)⟩, ⟨some 9, none, .call 39 [(.t 8)]⟩, ⟨some 10, none, .call 43 [(.t 5), (.c (.int .i64 0)), (.t 6), (.t 9)]⟩] none))
theorem f24 : FnIs Try.prog 24 11 c24 [] := ⟨_, Try.func24, rfl, by kernel_rfl, rfl⟩
def c25 : AC := (.seq (.reg [⟨some 6, none, .mov (.c (.int .i64 0))⟩] none)
 (.seq (.reg [⟨some 7, none, .mov (.c (.int .u64 0))⟩] none)
 (.seq (.seq (.reg [⟨some 8, none, .mov (.c (.int .i64 0))⟩] none)
 (.block 0 (.loop (.seq (.seq (.reg [⟨some 9, none, .mov (.t 8)⟩, ⟨some 10, none, .mov (.t 2)⟩, ⟨some 11, none, .bin .lss (.t 9) (.t 10)⟩] none)
 (.cond (.t 11) .skip (.exit 0)))
 (.seq (.block 1 (.reg [⟨some 14, none, .mov (.t 7)⟩, ⟨some 15, none, .bin .shl (.t 14) (.c (.int .u64 8))⟩, ⟨some 16, none, .mov (.t 0)⟩, ⟨some 17, none, .mov (.t 1)⟩, ⟨some 18, none, .mov (.t 8)⟩, ⟨some 19, none, .bin .add (.t 17) (.t 18)⟩, ⟨some 20, none, .idx (.t 16) (.t 19)⟩, ⟨some 21, none, .conv (.toInt .u64) (.t 20)⟩, ⟨some 22, none, .bin .or (.t 15) (.t 21)⟩, ⟨some 7, none, .mov (.t 22)⟩] none))
 (.reg [⟨some 12, none, .mov (.t 8)⟩, ⟨some 13, none, .bin .add (.t 12) (.c (.int .i64 1))⟩, ⟨some 8, none, .mov (.t 13)⟩] none))))))
 (.seq (.reg [⟨some 23, none, .mov (.t 7)⟩, ⟨some 24, none, .conv (.toInt .i64) (.t 23)⟩, ⟨some 6, none, .mov (.t 24)⟩] none)
 .ret))))
theorem f25 : FnIs Try.prog 25 25 c25 [.tmp 6] := ⟨_, Try.func25, rfl, by kernel_rfl, rfl⟩
def c26 : AC := (.seq (.reg [⟨some 5, none, .box (.t 2)⟩, ⟨some 6, none, .mov (.c (.sl 2 [] (.exact 0)))⟩] none)
 (.seq (.reg [⟨some 7, none, .mov (.c (.sl 2 [] (.exact 0)))⟩] none)
 (.seq (.reg [⟨some 8, none, .mov (.c (.bool false))⟩] none)
 (.seq (.seq (.reg [⟨some 9, none, .mov (.c (.int .i64 0))⟩] none)
 (.block 0 (.loop (.seq (.seq (.reg [⟨some 11, none, .mov (.t 9)⟩, ⟨some 12, none, .mov (.t 0)⟩, ⟨some 13, none, .len false (.t 12)⟩, ⟨some 14, none, .bin .lss (.t 11) (.t 13)⟩] none)
 (.cond (.t 14) .skip (.exit 0)))
 (.seq (.block 1 (.seq (.reg [⟨some 17, none, .mov (.t 0)⟩, ⟨some 18, none, .mov (.t 9)⟩, ⟨some 19, none, .iaddr 2 (.t 17) (.t 18)⟩, ⟨some 20, none, .load (some 2) (.t 19)⟩, ⟨some 10, none, .alloc [.str [], .sl 3 [] (.exact 0)]⟩, ⟨none, none, .store 2 (.t 10) (.t 20)⟩] none)
 (.seq (.seq (.reg [⟨some 21, none, .mov (.t 8)⟩, ⟨some 22, none, .un .not (.t 21)⟩, ⟨some 23, none, .mov (.t 22)⟩, ⟨some 24, some (23, true), .faddr 0 (.t 10)⟩, ⟨some 25, some (23, true), .load none (.t 24)⟩, ⟨some 26, some (23, true), .mov (.t 1)⟩, ⟨some 27, some (23, true), .call 41 [(.t 25), (.t 26)]⟩, ⟨some 28, some (23, true), .un .not (.t 27)⟩, ⟨some 29, none, .pick (.t 23) (.t 28) (.c (.bool false))⟩] none)
 (.cond (.t 29) (.seq (.reg [⟨some 8, none, .mov (.c (.bool true))⟩] none)
 (.seq (.reg [⟨some 30, none, .faddr 0 (.t 10)⟩, ⟨some 31, none, .load none (.t 30)⟩, ⟨some 32, none, .mov (.t 1)⟩, ⟨some 33, none, .bin .neq (.t 31) (.t 32)⟩] none)
 (.cond (.t 33) (.reg [⟨some 34, none, .mov (.t 7)⟩, ⟨some 35, none, .mov (.t 1)⟩, ⟨some 36, none, .load (some 3) (.t 5)⟩, ⟨some 37, none, .buildSl 3 [(.t 36)]⟩, ⟨some 38, none, .build [.str [], .sl 3 [] (.exact 0)] [(0, 1, (.t 35)), (1, 1, (.t 37))]⟩, ⟨some 39, none, .buildSl 2 [(.t 38)]⟩, ⟨some 40, none, .app false 2 40 (.t 34) (.t 39)⟩, ⟨some 7, none, .mov (.t 40)⟩] none) (.reg [⟨some 41, none, .faddr 1 (.t 10)⟩, ⟨some 42, none, .load none (.t 41)⟩, ⟨some 43, none, .load (some 3) (.t 5)⟩, ⟨some 44, none, .call 44 [(.t 42), (.t 43)]⟩, ⟨some 45, none, .faddr 1 (.t 10)⟩, ⟨none, none, .store 1 (.t 45) (.t 44)⟩] none)))) .skip))
 (.reg [⟨some 46, none, .mov (.t 7)⟩, ⟨some 47, none, .load (some 2) (.t 10)⟩, ⟨some 48, none, .buildSl 2 [(.t 47)]⟩, ⟨some 49, none, .app false 2 40 (.t 46) (.t 48)⟩, ⟨some 7, none, .mov (.t 49)⟩] none))))
 (.reg [⟨some 15, none, .mov (.t 9)⟩, ⟨some 16, none, .bin .add (.t 15) (.c (.int .i64 1))⟩, ⟨some 9, none, .mov (.t 16)⟩] none))))))
 (.seq (.seq (.reg [⟨some 50, none, .mov (.t 8)⟩, ⟨some 51, none, .un .not (.t 50)⟩] none)
 (.cond (.t 51) (.reg [⟨some 52, none, .mov (.t 7)⟩, ⟨some 53, none, .mov (.t 1)⟩, ⟨some 54, none, .load (some 3) (.t 5)⟩, ⟨some 55, none, .buildSl 3 [(.t 54)]⟩, ⟨some 56, none, .build [.str [], .sl 3 [] (.exact 0)] [(0, 1, (.t 53)), (1, 1, (.t 55))]⟩, ⟨some 57, none, .buildSl 2 [(.t 56)]⟩, ⟨some 58, none, .app false 2 40 (.t 52) (.t 57)⟩, ⟨some 7, none, .mov (.t 58)⟩] none) .skip))
 (.seq (.reg [⟨some 59, none, .mov (.t 7)⟩, ⟨some 6, none, .mov (.t 59)⟩] none)
 .ret))))))
theorem f26 : FnIs Try.prog 26 60 c26 [.tmp 6] := ⟨_, Try.func26, rfl, by kernel_rfl, rfl⟩
def c27 : AC := (.seq (.reg [⟨some 4, none, .mov (.c (.bool false))⟩] none)
 (.seq (.seq (.reg [⟨some 6, none, .mov (.t 0)⟩, ⟨some 7, none, .len false (.t 6)⟩, ⟨some 8, none, .mov (.t 1)⟩, ⟨some 9, none, .len false (.t 8)⟩, ⟨some 10, none, .bin .neq (.t 7) (.t 9)⟩] none)
 (.cond (.t 10) (.seq (.reg [⟨some 4, none, .mov (.c (.bool false))⟩] none)
 .ret) .skip))
 (.seq (.seq (.reg [⟨some 5, none, .mov (.c (.int .i64 0))⟩] none)
 (.block 0 (.loop (.seq (.seq (.reg [⟨some 11, none, .mov (.t 5)⟩, ⟨some 12, none, .mov (.t 0)⟩, ⟨some 13, none, .len false (.t 12)⟩, ⟨some 14, none, .bin .lss (.t 11) (.t 13)⟩] none)
 (.cond (.t 14) .skip (.exit 0)))
 (.seq (.block 1 (.seq (.reg [⟨some 17, none, .mov (.t 0)⟩, ⟨some 18, none, .mov (.t 5)⟩, ⟨some 19, none, .iaddr 3 (.t 17) (.t 18)⟩, ⟨some 20, none, .load (some 3) (.t 19)⟩, ⟨some 21, none, .mov (.t 1)⟩, ⟨some 22, none, .mov (.t 5)⟩, ⟨some 23, none, .iaddr 3 (.t 21) (.t 22)⟩, ⟨some 24, none, .load (some 3) (.t 23)⟩, ⟨some 25, none, .eqA true [.int, .str, .bool] (.t 20) (.t 24)⟩] (some [(3, 7)]))
 (.cond (.t 25) (.seq (.reg [⟨some 4, none, .mov (.c (.bool false))⟩] none)
 .ret) .skip)))
 (.reg [⟨some 15, none, .mov (.t 5)⟩, ⟨some 16, none, .bin .add (.t 15) (.c (.int .i64 1))⟩, ⟨some 5, none, .mov (.t 16)⟩] none))))))
 (.seq (.reg [⟨some 4, none, .mov (.c (.bool true))⟩] none)
 .ret))))
theorem f27 : FnIs Try.prog 27 26 c27 [.tmp 4] := ⟨_, Try.func27, rfl, by kernel_rfl, rfl⟩
def c28 : AC := (.seq (.reg [⟨some 1, none, .box (.t 0)⟩, ⟨some 2, none, .mov (.c (.int .i64 0))⟩] none)
 (.seq (.seq (.reg [⟨some 6, none, .faddr 0 (.t 1)⟩, ⟨some 7, none, .load none (.t 6)⟩, ⟨some 8, none, .bin .lss (.t 7) (.c (.int .i64 1))⟩, ⟨some 9, none, .mov (.t 8)⟩, ⟨some 10, some (9, false), .faddr 0 (.t 1)⟩, ⟨some 11, some (9, false), .load none (.t 10)⟩, ⟨some 12, some (9, false), .bin .gtr (.t 11) (.c (.int .i64 1152921504606846976))⟩, ⟨some 13, none, .pick (.t 9) (.c (.bool true)) (.t 12)⟩, ⟨some 14, none, .mov (.t 13)⟩, ⟨some 15, some (14, false), .faddr 1 (.t 1)⟩, ⟨some 16, some (14, false), .load none (.t 15)⟩, ⟨some 17, some (14, false), .len false (.t 16)⟩, ⟨some 18, some (14, false), .bin .gtr (.t 17) (.c (.int .i64 64))⟩, ⟨some 19, none, .pick (.t 14) (.c (.bool true)) (.t 18)⟩] none)
 (.cond (.t 19) (.seq (.reg [⟨some 2, none, .mov (.c (.int .i64 2))⟩] none)
 .ret) .skip))
 (.seq (.seq (.reg [⟨some 20, none, .faddr 1 (.t 1)⟩, ⟨some 21, none, .load none (.t 20)⟩, ⟨some 22, none, .len false (.t 21)⟩, ⟨some 23, none, .mov (.c (.int .i64 0))⟩] none)
 (.block 0 (.loop (.seq (.reg [⟨some 24, none, .bin .lss (.t 23) (.t 22)⟩] none)
 (.seq (.cond (.t 24) .skip (.exit 0))
 (.seq (.block 1 (.seq (.reg [⟨some 25, none, .mov (.t 23)⟩, ⟨some 26, none, .iaddr 3 (.t 21) (.t 23)⟩, ⟨some 27, none, .load (some 3) (.t 26)⟩, ⟨some 4, none, .alloc [.str [], .str [], .bool false]⟩, ⟨some 3, none, .mov (.t 25)⟩, ⟨none, none, .store 3 (.t 4) (.t 27)⟩] none)
 (.seq (.reg [⟨some 28, none, .mkfn (.func 45) [] [(.t 4)]⟩, ⟨some 5, none, .mov (.t 28)⟩] none)
 (.seq (.reg [⟨some 29, none, .load (some 3) (.t 4)⟩, ⟨some 30, none, .call 46 [(.t 29)]⟩, ⟨some 31, none, .un .not (.t 30)⟩, ⟨some 32, none, .mov (.t 31)⟩, ⟨some 33, some (32, false), .faddr 1 (.t 1)⟩, ⟨some 34, some (32, false), .load none (.t 33)⟩, ⟨some 35, some (32, false), .mov (.t 3)⟩, ⟨some 36, some (32, false), .slc false 3 (.t 34) none (some (.t 35)) none⟩, ⟨some 37, some (32, false), .mov (.t 5)⟩, ⟨some 38, some (32, false), .call 47 [(.t 36), (.t 37)]⟩, ⟨some 39, none, .pick (.t 32) (.c (.bool true)) (.t 38)⟩] none)
 (.cond (.t 39) (.seq (.reg [⟨some 2, none, .mov (.c (.int .i64 2))⟩] none)
 .ret) .skip)))))
 (.reg [⟨some 40, none, .bin .add (.t 23) (.c (.int .i64 1))⟩, ⟨some 23, none, .mov (.t 40)⟩] none)))))))
 (.seq (.seq (.reg [⟨some 41, none, .load (some 2) (.t 1)⟩, ⟨some 42, none, .call 48 [(.t 41)]⟩, ⟨some 43, none, .bin .gtr (.t 42) (.c (.int .i64 16384))⟩] none)
 (.cond (.t 43) (.seq (.reg [⟨some 2, none, .mov (.c (.int .i64 5))⟩] none)
 .ret) .skip))
 (.seq (.reg [⟨some 2, none, .mov (.c (.int .i64 0))⟩] none)
 .ret)))))
theorem f28 : FnIs Try.prog 28 44 c28 [.tmp 2] := ⟨_, Try.func28, rfl, by kernel_rfl, rfl⟩
def c29 : AC := (.seq (.reg [⟨some 4, none, .mov (.c (.sl 1 [] (.exact 0)))⟩] none)
 (.seq (.reg [⟨some 5, none, .mov (.t 0)⟩, ⟨some 6, none, .mov (.t 1)⟩, ⟨some 7, none, .conv (.toInt .u8) (.t 6)⟩, ⟨some 8, none, .call 49 [(.t 5), (.t 7), (.c (.int .i64 1))]⟩, ⟨some 4, none, .mov (.t 8)⟩] none)
 .ret))
theorem f29 : FnIs Try.prog 29 9 c29 [.tmp 4] := ⟨_, Try.func29, rfl, by kernel_rfl, rfl⟩
def c30 : AC := (.seq (.reg [⟨some 4, none, .mov (.c (.sl 1 [] (.exact 0)))⟩] none)
 (.seq (.reg [⟨some 5, none, .mov (.t 0)⟩, ⟨some 6, none, .mov (.t 1)⟩, ⟨some 7, none, .conv (.toInt .u64) (.t 6)⟩, ⟨some 8, none, .call 50 [(.t 5), (.t 7), (.c (.int .i64 8))]⟩, ⟨some 4, none, .mov (.t 8)⟩] none)
 .ret))
theorem f30 : FnIs Try.prog 30 9 c30 [.tmp 4] := ⟨_, Try.func30, rfl, by kernel_rfl, rfl⟩
def c31 : AC := (.seq (.reg [⟨some 4, none, .mov (.c (.sl 1 [] (.exact 0)))⟩] none)
 (.seq (.reg [⟨some 5, none, .mov (.t 0)⟩, ⟨some 6, none, .mov (.t 1)⟩, ⟨some 7, none, .len true (.t 6)⟩, ⟨some 8, none, .call 29 [(.t 5), (.t 7)]⟩, ⟨some 9, none, .mov (.t 1)⟩, ⟨some 10, none, .app true 1 1 (.t 8) (.t 9)⟩, ⟨some 4, none, .mov (.t 10)⟩] none)
 .ret))
theorem f31 : FnIs Try.prog 31 11 c31 [.tmp 4] := ⟨_, Try.func31, rfl, by kernel_rfl, rfl⟩
def c32 : AC := (.seq (.reg [⟨some 2, none, .mov (.c (.sc (.pointer none)))⟩] none)
 (.seq (.reg [⟨some 3, none, .mov (.t 0)⟩, ⟨some 4, none, .call 51 [(.t 3)]⟩, ⟨some 5, none, .build [.bool false, .sl 1 [] (.exact 0), .int .i64 0, .int .i64 0] [(0, 1, (.c (.bool true))), (1, 1, (.t 4))]⟩, ⟨some 6, none, .box (.t 5)⟩, ⟨some 2, none, .mov (.t 6)⟩] none)
 .ret))
theorem f32 : FnIs Try.prog 32 7 c32 [.tmp 2] := ⟨_, Try.func32, rfl, by kernel_rfl, rfl⟩
def c33 : AC := (.seq (.reg [⟨some 2, none, .mov (.c (.int .i64 0))⟩] none)
 (.seq (.reg [⟨some 3, none, .mov (.t 0)⟩, ⟨some 4, none, .call 52 [(.t 3), (.c (.int .i64 8)), (.c (.clo (.func 53) [] []))]⟩, ⟨some 2, none, .mov (.t 4)⟩] none)
 .ret))
theorem f33 : FnIs Try.prog 33 5 c33 [.tmp 2] := ⟨_, Try.func33, rfl, by kernel_rfl, rfl⟩
def c34 : AC := (.seq (.reg [⟨some 4, none, .mov (.c (.str []))⟩, ⟨some 5, none, .mov (.c (.int .i64 0))⟩, ⟨some 6, none, .mov (.c (.bool false))⟩] none)
 (.seq (.seq (.reg [⟨some 8, none, .mov (.t 1)⟩, ⟨some 9, none, .mov (.t 0)⟩, ⟨some 10, none, .len true (.t 9)⟩, ⟨some 11, none, .bin .geq (.t 8) (.t 10)⟩] none)
 (.cond (.t 11) (.seq (.reg [⟨some 12, none, .mov (.t 1)⟩, ⟨some 4, none, .mov (.c (.str []))⟩, ⟨some 5, none, .mov (.t 12)⟩, ⟨some 6, none, .mov (.c (.bool false))⟩] none)
 .ret) .skip))
 (.seq (.reg [⟨some 13, none, .mov (.t 1)⟩, ⟨some 14, none, .bin .add (.t 13) (.c (.int .i64 1))⟩, ⟨some 15, none, .mov (.t 0)⟩, ⟨some 16, none, .mov (.t 1)⟩, ⟨some 17, none, .idx (.t 15) (.t 16)⟩, ⟨some 18, none, .conv (.toInt .i64) (.t 17)⟩, ⟨some 19, none, .bin .add (.t 14) (.t 18)⟩, ⟨some 7, none, .mov (.t 19)⟩] none)
 (.seq (.seq (.reg [⟨some 20, none, .mov (.t 7)⟩, ⟨some 21, none, .mov (.t 0)⟩, ⟨some 22, none, .len true (.t 21)⟩, ⟨some 23, none, .bin .gtr (.t 20) (.t 22)⟩] none)
 (.cond (.t 23) (.seq (.reg [⟨some 24, none, .mov (.t 1)⟩, ⟨some 4, none, .mov (.c (.str []))⟩, ⟨some 5, none, .mov (.t 24)⟩, ⟨some 6, none, .mov (.c (.bool false))⟩] none)
 .ret) .skip))
 (.seq (.reg [⟨some 25, none, .mov (.t 0)⟩, ⟨some 26, none, .mov (.t 1)⟩, ⟨some 27, none, .bin .add (.t 26) (.c (.int .i64 1))⟩, ⟨some 28, none, .mov (.t 7)⟩, ⟨some 29, none, .slc true 0 (.t 25) (some (.t 27)) (some (.t 28)) none⟩, ⟨some 30, none, .mov (.t 7)⟩, ⟨some 4, none, .mov (.t 29)⟩, ⟨some 5, none, .mov (.t 30)⟩, ⟨some 6, none, .mov (.c (.bool true))⟩] none)
 .ret)))))
theorem f34 : FnIs Try.prog 34 31 c34 [.tmp 4, .tmp 5, .tmp 6] := ⟨_, Try.func34, rfl, by kernel_rfl, rfl⟩
def c35 : AC := (.seq (.reg [⟨some 1, none, .box (.t 0)⟩, ⟨some 2, none, .mov (.c (.bool false))⟩] none)
 (.seq (.reg [⟨some 3, none, .faddr 1 (.t 1)⟩, ⟨some 4, none, .load none (.t 3)⟩, ⟨some 5, none, .len true (.t 4)⟩, ⟨some 6, none, .bin .gtr (.t 5) (.c (.int .i64 199))⟩, ⟨some 2, none, .mov (.t 6)⟩] none)
 .ret))
theorem f35 : FnIs Try.prog 35 7 c35 [.tmp 2] := ⟨_, Try.func35, rfl, by kernel_rfl, rfl⟩
def c36 : AC := (.seq (.reg [⟨some 2, none, .mov (.c (.int .i64 0))⟩] none)
 (.seq (.seq (.reg [⟨some 5, none, .mov (.t 0)⟩, ⟨some 6, none, .len false (.t 5)⟩, ⟨some 7, none, .mov (.c (.int .i64 0))⟩] none)
 (.block 0 (.loop (.seq (.reg [⟨some 8, none, .bin .lss (.t 7) (.t 6)⟩] none)
 (.seq (.cond (.t 8) .skip (.exit 0))
 (.seq (.block 1 (.seq (.reg [⟨some 9, none, .mov (.t 7)⟩, ⟨some 10, none, .iaddr 3 (.t 5) (.t 7)⟩, ⟨some 11, none, .load (some 3) (.t 10)⟩, ⟨some 4, none, .alloc [.int .i64 0, .str [], .bool false]⟩, ⟨some 3, none, .mov (.t 9)⟩, ⟨none, none, .store 3 (.t 4) (.t 11)⟩] none)
 (.seq (.reg [⟨some 12, none, .load (some 3) (.t 4)⟩, ⟨some 13, none, .call 54 [(.t 12)]⟩, ⟨some 14, none, .un .not (.t 13)⟩, ⟨some 15, none, .mov (.t 14)⟩, ⟨some 16, some (15, false), .mov (.t 3)⟩, ⟨some 17, some (15, false), .bin .gtr (.t 16) (.c (.int .i64 0))⟩, ⟨some 18, some (15, false), .mov (.t 17)⟩, ⟨some 19, some (18, true), .faddr 0 (.t 4)⟩, ⟨some 20, some (18, true), .load none (.t 19)⟩, ⟨some 21, some (18, true), .mov (.t 0)⟩, ⟨some 22, some (18, true), .mov (.t 3)⟩, ⟨some 23, some (18, true), .bin .sub (.t 22) (.c (.int .i64 1))⟩, ⟨some 24, some (18, true), .iaddr 3 (.t 21) (.t 23)⟩, ⟨some 25, some (18, true), .faddr 0 (.t 24)⟩, ⟨some 26, some (18, true), .load none (.t 25)⟩, ⟨some 27, some (18, true), .bin .geq (.t 20) (.t 26)⟩, ⟨some 28, some (15, false), .pick (.t 18) (.t 27) (.c (.bool false))⟩, ⟨some 29, none, .pick (.t 15) (.c (.bool true)) (.t 28)⟩] (some [(8, 14)]))
 (.cond (.t 29) (.seq (.reg [⟨some 2, none, .mov (.c (.int .i64 4))⟩] none)
 .ret) .skip))))
 (.reg [⟨some 30, none, .bin .add (.t 7) (.c (.int .i64 1))⟩, ⟨some 7, none, .mov (.t 30)⟩] none)))))))
 (.seq (.reg [⟨some 2, none, .mov (.c (.int .i64 0))⟩] none)
 .ret)))
theorem f36 : FnIs Try.prog 36 31 c36 [.tmp 2] := ⟨_, Try.func36, rfl, by kernel_rfl, rfl⟩
def c37 : AC := (.seq (.reg [⟨some 4, none, .mov (.c (.bool false))⟩] none)
 (.seq (.reg [⟨some 5, none, .mov (.t 0)⟩, ⟨some 6, none, .mov (.t 1)⟩, ⟨some 7, none, .call 55 [(.t 5), (.t 6)]⟩, ⟨some 8, none, .bin .geq (.t 7) (.c (.int .i64 0))⟩, ⟨some 4, none, .mov (.t 8)⟩] none)
 .ret))
theorem f37 : FnIs Try.prog 37 9 c37 [.tmp 4] := ⟨_, Try.func37, rfl, by kernel_rfl, rfl⟩
def c38 : AC := (.seq (.reg [⟨some 10, none, .mov (.c (.bool true))⟩] none)
 (.seq (.reg [⟨some 11, none, .mov (.c (.bool true))⟩] none)
 (.block 0 (.loop (.block 1 (.seq (.reg [⟨some 21, none, .mov (.t 2)⟩, ⟨some 22, none, .mov (.t 1)⟩, ⟨some 23, none, .bin .sub (.t 21) (.t 22)⟩, ⟨some 12, none, .mov (.t 23)⟩] none)
 (.seq (.seq (.reg [⟨some 24, none, .mov (.t 12)⟩, ⟨some 25, none, .bin .leq (.t 24) (.c (.int .i64 12))⟩] none)
 (.cond (.t 25) (.seq (.reg [⟨some 26, none, .mov (.t 0)⟩, ⟨some 27, none, .mov (.t 1)⟩, ⟨some 28, none, .mov (.t 2)⟩, ⟨some 29, none, .mov (.t 4)⟩, ⟨some 30, none, .call 56 [(.t 26), (.t 27), (.t 28), (.t 29)]⟩] none)
 .ret) .skip))
 (.seq (.seq (.reg [⟨some 31, none, .mov (.t 3)⟩, ⟨some 32, none, .bin .eql (.t 31) (.c (.int .i64 0))⟩] none)
 (.cond (.t 32) (.seq (.reg [⟨some 33, none, .mov (.t 0)⟩, ⟨some 34, none, .mov (.t 1)⟩, ⟨some 35, none, .mov (.t 2)⟩, ⟨some 36, none, .mov (.t 4)⟩, ⟨some 37, none, .call 57 [(.t 33), (.t 34), (.t 35), (.t 36)]⟩] none)
 .ret) .skip))
 (.seq (.seq (.reg [⟨some 38, none, .mov (.t 10)⟩, ⟨some 39, none, .un .not (.t 38)⟩] none)
 (.cond (.t 39) (.seq (.reg [⟨some 40, none, .mov (.t 0)⟩, ⟨some 41, none, .mov (.t 1)⟩, ⟨some 42, none, .mov (.t 2)⟩, ⟨some 43, none, .mov (.t 4)⟩, ⟨some 44, none, .call 58 [(.t 40), (.t 41), (.t 42), (.t 43)]⟩] none)
 (.reg [⟨some 45, none, .mov (.t 3)⟩, ⟨some 46, none, .bin .sub (.t 45) (.c (.int .i64 1))⟩, ⟨some 3, none, .mov (.t 46)⟩] none)) .skip))
 (.seq (.reg [⟨some 48, none, .mov (.t 0)⟩, ⟨some 49, none, .mov (.t 1)⟩, ⟨some 50, none, .mov (.t 2)⟩, ⟨some 51, none, .mov (.t 4)⟩, ⟨some 52, none, .call 59 [(.t 48), (.t 49), (.t 50), (.t 51)]⟩, ⟨some 47, none, .mov (.t 52)⟩, ⟨some 53, none, .ext (.t 47) 0⟩, ⟨some 54, none, .ext (.t 47) 1⟩, ⟨some 13, none, .mov (.t 53)⟩, ⟨some 14, none, .mov (.t 54)⟩] none)
 (.seq (.seq (.reg [⟨some 55, none, .mov (.t 14)⟩, ⟨some 56, none, .bin .eql (.t 55) (.c (.int .i64 2))⟩] none)
 (.cond (.t 56) (.seq (.reg [⟨some 57, none, .mov (.t 0)⟩, ⟨some 58, none, .mov (.t 1)⟩, ⟨some 59, none, .mov (.t 2)⟩, ⟨some 60, none, .mov (.t 4)⟩, ⟨some 61, none, .call 60 [(.t 57), (.t 58), (.t 59), (.t 60)]⟩] none)
 (.seq (.reg [⟨some 62, none, .mov (.t 2)⟩, ⟨some 63, none, .bin .sub (.t 62) (.c (.int .i64 1))⟩, ⟨some 64, none, .mov (.t 13)⟩, ⟨some 65, none, .mov (.t 1)⟩, ⟨some 66, none, .bin .sub (.t 64) (.t 65)⟩, ⟨some 67, none, .bin .sub (.t 63) (.t 66)⟩, ⟨some 13, none, .mov (.t 67)⟩] none)
 (.reg [⟨some 14, none, .mov (.c (.int .i64 1))⟩] none))) .skip))
 (.seq (.seq (.reg [⟨some 68, none, .mov (.t 10)⟩, ⟨some 69, none, .mov (.t 68)⟩, ⟨some 70, some (69, true), .mov (.t 11)⟩, ⟨some 71, none, .pick (.t 69) (.t 70) (.c (.bool false))⟩, ⟨some 72, none, .mov (.t 71)⟩, ⟨some 73, some (72, true), .mov (.t 14)⟩, ⟨some 74, some (72, true), .bin .eql (.t 73) (.c (.int .i64 1))⟩, ⟨some 75, none, .pick (.t 72) (.t 74) (.c (.bool false))⟩] none)
 (.cond (.t 75) (.seq (.reg [⟨some 76, none, .mov (.t 0)⟩, ⟨some 77, none, .mov (.t 1)⟩, ⟨some 78, none, .mov (.t 2)⟩, ⟨some 79, none, .mov (.t 4)⟩, ⟨some 80, none, .call 61 [(.t 76), (.t 77), (.t 78), (.t 79)]⟩] none)
 (.cond (.t 80) .ret .skip)) .skip))
 (.seq (.seq (.reg [⟨some 81, none, .mov (.t 1)⟩, ⟨some 82, none, .bin .gtr (.t 81) (.c (.int .i64 0))⟩, ⟨some 83, none, .mov (.t 82)⟩, ⟨some 84, some (83, true), .mov (.t 4)⟩, ⟨some 85, some (83, true), .mov (.t 0)⟩, ⟨some 86, some (83, true), .mov (.t 1)⟩, ⟨some 87, some (83, true), .bin .sub (.t 86) (.c (.int .i64 1))⟩, ⟨some 88, some (83, true), .iaddr 2 (.t 85) (.t 87)⟩, ⟨some 89, some (83, true), .load (some 2) (.t 88)⟩, ⟨some 90, some (83, true), .mov (.t 0)⟩, ⟨some 91, some (83, true), .mov (.t 13)⟩, ⟨some 92, some (83, true), .iaddr 2 (.t 90) (.t 91)⟩, ⟨some 93, some (83, true), .load (some 2) (.t 92)⟩, ⟨some 94, some (83, true), .callv (.t 84) [(.t 89), (.t 93)]⟩, ⟨some 95, some (83, true), .bin .lss (.t 94) (.c (.int .i64 0))⟩, ⟨some 96, some (83, true), .un .not (.t 95)⟩, ⟨some 97, none, .pick (.t 83) (.t 96) (.c (.bool false))⟩] (some [(8, 12)]))
 (.cond (.t 97) (.seq (.reg [⟨some 98, none, .mov (.t 0)⟩, ⟨some 99, none, .mov (.t 1)⟩, ⟨some 100, none, .mov (.t 2)⟩, ⟨some 101, none, .mov (.t 13)⟩, ⟨some 102, none, .mov (.t 4)⟩, ⟨some 103, none, .call 62 [(.t 98), (.t 99), (.t 100), (.t 101), (.t 102)]⟩, ⟨some 15, none, .mov (.t 103)⟩] none)
 (.seq (.reg [⟨some 104, none, .mov (.t 15)⟩, ⟨some 1, none, .mov (.t 104)⟩] none)
 (.exit 1))) .skip))
 (.seq (.reg [⟨some 106, none, .mov (.t 0)⟩, ⟨some 107, none, .mov (.t 1)⟩, ⟨some 108, none, .mov (.t 2)⟩, ⟨some 109, none, .mov (.t 13)⟩, ⟨some 110, none, .mov (.t 4)⟩, ⟨some 111, none, .call 63 [(.t 106), (.t 107), (.t 108), (.t 109), (.t 110)]⟩, ⟨some 105, none, .mov (.t 111)⟩, ⟨some 112, none, .ext (.t 105) 0⟩, ⟨some 113, none, .ext (.t 105) 1⟩, ⟨some 16, none, .mov (.t 112)⟩, ⟨some 17, none, .mov (.t 113)⟩] none)
 (.seq (.reg [⟨some 114, none, .mov (.t 17)⟩, ⟨some 11, none, .mov (.t 114)⟩] none)
 (.seq (.reg [⟨some 115, none, .mov (.t 16)⟩, ⟨some 116, none, .mov (.t 1)⟩, ⟨some 117, none, .bin .sub (.t 115) (.t 116)⟩, ⟨some 118, none, .mov (.t 2)⟩, ⟨some 119, none, .mov (.t 16)⟩, ⟨some 120, none, .bin .sub (.t 118) (.t 119)⟩, ⟨some 18, none, .mov (.t 117)⟩, ⟨some 19, none, .mov (.t 120)⟩] none)
 (.seq (.reg [⟨some 121, none, .mov (.t 12)⟩, ⟨some 122, none, .bin .quo (.t 121) (.c (.int .i64 8))⟩, ⟨some 20, none, .mov (.t 122)⟩] none)
 (.seq (.reg [⟨some 123, none, .mov (.t 18)⟩, ⟨some 124, none, .mov (.t 19)⟩, ⟨some 125, none, .bin .lss (.t 123) (.t 124)⟩] none)
 (.cond (.t 125) (.seq (.reg [⟨some 126, none, .mov (.t 18)⟩, ⟨some 127, none, .mov (.t 20)⟩, ⟨some 128, none, .bin .geq (.t 126) (.t 127)⟩, ⟨some 10, none, .mov (.t 128)⟩] none)
 (.seq (.reg [⟨some 129, none, .mov (.t 0)⟩, ⟨some 130, none, .mov (.t 1)⟩, ⟨some 131, none, .mov (.t 16)⟩, ⟨some 132, none, .mov (.t 3)⟩, ⟨some 133, none, .mov (.t 4)⟩, ⟨some 134, none, .call 38 [(.t 129), (.t 130), (.t 131), (.t 132), (.t 133)]⟩] none)
 (.reg [⟨some 135, none, .mov (.t 16)⟩, ⟨some 136, none, .bin .add (.t 135) (.c (.int .i64 1))⟩, ⟨some 1, none, .mov (.t 136)⟩] none))) (.seq (.reg [⟨some 137, none, .mov (.t 19)⟩, ⟨some 138, none, .mov (.t 20)⟩, ⟨some 139, none, .bin .geq (.t 137) (.t 138)⟩, ⟨some 10, none, .mov (.t 139)⟩] none)
 (.seq (.reg [⟨some 140, none, .mov (.t 0)⟩, ⟨some 141, none, .mov (.t 16)⟩, ⟨some 142, none, .bin .add (.t 141) (.c (.int .i64 1))⟩, ⟨some 143, none, .mov (.t 2)⟩, ⟨some 144, none, .mov (.t 3)⟩, ⟨some 145, none, .mov (.t 4)⟩, ⟨some 146, none, .call 38 [(.t 140), (.t 142), (.t 143), (.t 144), (.t 145)]⟩] none)
 (.reg [⟨some 147, none, .mov (.t 16)⟩, ⟨some 2, none, .mov (.t 147)⟩] none))))))))))))))))))))))
theorem f38 : FnIs Try.prog 38 148 c38 [] := ⟨_, Try.func38, rfl, by kernel_rfl, rfl⟩
def c39 : AC := (.seq (.reg [⟨some 2, none, .mov (.c (.int .i64 0))⟩] none)
 (.seq (.cond (.c (.bool false)) (.seq (.reg [⟨some 3, none, .mov (.t 0)⟩, ⟨some 4, none, .conv (.toInt .u32) (.t 3)⟩, ⟨some 5, none, .call 64 [(.t 4)]⟩, ⟨some 2, none, .mov (.t 5)⟩] none)
 .ret) .skip)
 (.seq (.reg [⟨some 6, none, .mov (.t 0)⟩, ⟨some 7, none, .call 65 [(.t 6)]⟩, ⟨some 2, none, .mov (.t 7)⟩] none)
 .ret)))
theorem f39 : FnIs Try.prog 39 8 c39 [.tmp 2] := ⟨_, Try.func39, rfl, by kernel_rfl, rfl⟩
def c40 : AC := (.seq (.reg [⟨some 2, none, .mov (.c (.bool false))⟩] none)
 (.seq (.reg [⟨some 3, none, .mov (.t 0)⟩, ⟨some 4, none, .mov (.t 0)⟩, ⟨some 5, none, .bin .neq (.t 3) (.t 4)⟩, ⟨some 2, none, .mov (.t 5)⟩] none)
 .ret))
theorem f40 : FnIs Try.prog 40 6 c40 [.tmp 2] := ⟨_, Try.func40, rfl, by kernel_rfl, rfl⟩
def c41 : AC := (.seq (.reg [⟨some 4, none, .mov (.c (.bool false))⟩] none)
 (.seq (.seq (.reg [⟨some 5, none, .mov (.c (.int .i64 0))⟩] none)
 (.block 0 (.loop (.seq (.seq (.reg [⟨some 6, none, .mov (.t 5)⟩, ⟨some 7, none, .mov (.t 0)⟩, ⟨some 8, none, .len true (.t 7)⟩, ⟨some 9, none, .bin .lss (.t 6) (.t 8)⟩, ⟨some 10, none, .mov (.t 9)⟩, ⟨some 11, some (10, true), .mov (.t 5)⟩, ⟨some 12, some (10, true), .mov (.t 1)⟩, ⟨some 13, some (10, true), .len true (.t 12)⟩, ⟨some 14, some (10, true), .bin .lss (.t 11) (.t 13)⟩, ⟨some 15, none, .pick (.t 10) (.t 14) (.c (.bool false))⟩] none)
 (.cond (.t 15) .skip (.exit 0)))
 (.seq (.block 1 (.seq (.reg [⟨some 18, none, .mov (.t 0)⟩, ⟨some 19, none, .mov (.t 5)⟩, ⟨some 20, none, .idx (.t 18) (.t 19)⟩, ⟨some 21, none, .mov (.t 1)⟩, ⟨some 22, none, .mov (.t 5)⟩, ⟨some 23, none, .idx (.t 21) (.t 22)⟩, ⟨some 24, none, .bin .neq (.t 20) (.t 23)⟩] (some []))
 (.cond (.t 24) (.seq (.reg [⟨some 25, none, .mov (.t 0)⟩, ⟨some 26, none, .mov (.t 5)⟩, ⟨some 27, none, .idx (.t 25) (.t 26)⟩, ⟨some 28, none, .mov (.t 1)⟩, ⟨some 29, none, .mov (.t 5)⟩, ⟨some 30, none, .idx (.t 28) (.t 29)⟩, ⟨some 31, none, .bin .lss (.t 27) (.t 30)⟩, ⟨some 4, none, .mov (.t 31)⟩] (some []))
 .ret) .skip)))
 (.reg [⟨some 16, none, .mov (.t 5)⟩, ⟨some 17, none, .bin .add (.t 16) (.c (.int .i64 1))⟩, ⟨some 5, none, .mov (.t 17)⟩] none))))))
 (.seq (.reg [⟨some 32, none, .mov (.t 0)⟩, ⟨some 33, none, .len true (.t 32)⟩, ⟨some 34, none, .mov (.t 1)⟩, ⟨some 35, none, .len true (.t 34)⟩, ⟨some 36, none, .bin .lss (.t 33) (.t 35)⟩, ⟨some 4, none, .mov (.t 36)⟩] none)
 .ret)))
theorem f41 : FnIs Try.prog 41 37 c41 [.tmp 4] := ⟨_, Try.func41, rfl, by kernel_rfl, rfl⟩
def c42 : AC := (.seq (.reg [⟨some 2, none, .mov (.c (.bool false))⟩] none)
 (.seq (.seq (.reg [⟨some 3, none, .mov (.c (.int .i64 0))⟩] none)
 (.block 0 (.loop (.seq (.seq (.reg [⟨some 4, none, .mov (.t 3)⟩, ⟨some 5, none, .mov (.t 0)⟩, ⟨some 6, none, .len false (.t 5)⟩, ⟨some 7, none, .bin .lss (.t 4) (.t 6)⟩] none)
 (.cond (.t 7) .skip (.exit 0)))
 (.seq (.block 1 (.seq (.reg [⟨some 10, none, .mov (.t 0)⟩, ⟨some 11, none, .mov (.t 3)⟩, ⟨some 12, none, .iaddr 3 (.t 10) (.t 11)⟩, ⟨some 13, none, .load (some 3) (.t 12)⟩, ⟨some 14, none, .call 66 [(.t 13)]⟩, ⟨some 15, none, .un .not (.t 14)⟩, ⟨some 16, none, .mov (.t 15)⟩, ⟨some 17, some (16, false), .mov (.t 3)⟩, ⟨some 18, some (16, false), .bin .gtr (.t 17) (.c (.int .i64 0))⟩, ⟨some 19, some (16, false), .mov (.t 18)⟩, ⟨some 20, some (19, true), .mov (.t 0)⟩, ⟨some 21, some (19, true), .mov (.t 3)⟩, ⟨some 22, some (19, true), .iaddr 3 (.t 20) (.t 21)⟩, ⟨some 23, some (19, true), .faddr 0 (.t 22)⟩, ⟨some 24, some (19, true), .load none (.t 23)⟩, ⟨some 25, some (19, true), .mov (.t 0)⟩, ⟨some 26, some (19, true), .mov (.t 3)⟩, ⟨some 27, some (19, true), .bin .sub (.t 26) (.c (.int .i64 1))⟩, ⟨some 28, some (19, true), .iaddr 3 (.t 25) (.t 27)⟩, ⟨some 29, some (19, true), .faddr 0 (.t 28)⟩, ⟨some 30, some (19, true), .load none (.t 29)⟩, ⟨some 31, some (19, true), .bin .geq (.t 24) (.t 30)⟩, ⟨some 32, some (16, false), .pick (.t 19) (.t 31) (.c (.bool false))⟩, ⟨some 33, none, .pick (.t 16) (.c (.bool true)) (.t 32)⟩] (some [(14, 20)]))
 (.cond (.t 33) (.seq (.reg [⟨some 2, none, .mov (.c (.bool false))⟩] none)
 .ret) .skip)))
 (.reg [⟨some 8, none, .mov (.t 3)⟩, ⟨some 9, none, .bin .add (.t 8) (.c (.int .i64 1))⟩, ⟨some 3, none, .mov (.t 9)⟩] none))))))
 (.seq (.reg [⟨some 2, none, .mov (.c (.bool true))⟩] none)
 .ret)))
theorem f42 : FnIs Try.prog 42 34 c42 [.tmp 2] := ⟨_, Try.func42, rfl, by kernel_rfl, rfl⟩
def c43 : AC := (.seq (.reg [⟨some 8, none, .mov (.c (.bool true))⟩] none)
 (.seq (.reg [⟨some 9, none, .mov (.c (.bool true))⟩] none)
 (.block 0 (.loop (.block 1 (.seq (.reg [⟨some 19, none, .mov (.t 2)⟩, ⟨some 20, none, .mov (.t 1)⟩, ⟨some 21, none, .bin .sub (.t 19) (.t 20)⟩, ⟨some 10, none, .mov (.t 21)⟩] none)
 (.seq (.seq (.reg [⟨some 22, none, .mov (.t 10)⟩, ⟨some 23, none, .bin .leq (.t 22) (.c (.int .i64 12))⟩] none)
 (.cond (.t 23) (.seq (.reg [⟨some 24, none, .mov (.t 0)⟩, ⟨some 25, none, .mov (.t 1)⟩, ⟨some 26, none, .mov (.t 2)⟩, ⟨some 27, none, .call 67 [(.t 24), (.t 25), (.t 26)]⟩] none)
 .ret) .skip))
 (.seq (.seq (.reg [⟨some 28, none, .mov (.t 3)⟩, ⟨some 29, none, .bin .eql (.t 28) (.c (.int .i64 0))⟩] none)
 (.cond (.t 29) (.seq (.reg [⟨some 30, none, .mov (.t 0)⟩, ⟨some 31, none, .mov (.t 1)⟩, ⟨some 32, none, .mov (.t 2)⟩, ⟨some 33, none, .call 68 [(.t 30), (.t 31), (.t 32)]⟩] none)
 .ret) .skip))
 (.seq (.seq (.reg [⟨some 34, none, .mov (.t 8)⟩, ⟨some 35, none, .un .not (.t 34)⟩] none)
 (.cond (.t 35) (.seq (.reg [⟨some 36, none, .mov (.t 0)⟩, ⟨some 37, none, .mov (.t 1)⟩, ⟨some 38, none, .mov (.t 2)⟩, ⟨some 39, none, .call 69 [(.t 36), (.t 37), (.t 38)]⟩] none)
 (.reg [⟨some 40, none, .mov (.t 3)⟩, ⟨some 41, none, .bin .sub (.t 40) (.c (.int .i64 1))⟩, ⟨some 3, none, .mov (.t 41)⟩] none)) .skip))
 (.seq (.reg [⟨some 43, none, .mov (.t 0)⟩, ⟨some 44, none, .mov (.t 1)⟩, ⟨some 45, none, .mov (.t 2)⟩, ⟨some 46, none, .call 70 [(.t 43), (.t 44), (.t 45)]⟩, ⟨some 42, none, .mov (.t 46)⟩, ⟨some 47, none, .ext (.t 42) 0⟩, ⟨some 48, none, .ext (.t 42) 1⟩, ⟨some 11, none, .mov (.t 47)⟩, ⟨some 12, none, .mov (.t 48)⟩] none)
 (.seq (.seq (.reg [⟨some 49, none, .mov (.t 12)⟩, ⟨some 50, none, .bin .eql (.t 49) (.c (.int .i64 2))⟩] none)
 (.cond (.t 50) (.seq (.reg [⟨some 51, none, .mov (.t 0)⟩, ⟨some 52, none, .mov (.t 1)⟩, ⟨some 53, none, .mov (.t 2)⟩, ⟨some 54, none, .call 71 [(.t 51), (.t 52), (.t 53)]⟩] none)
 (.seq (.reg [⟨some 55, none, .mov (.t 2)⟩, ⟨some 56, none, .bin .sub (.t 55) (.c (.int .i64 1))⟩, ⟨some 57, none, .mov (.t 11)⟩, ⟨some 58, none, .mov (.t 1)⟩, ⟨some 59, none, .bin .sub (.t 57) (.t 58)⟩, ⟨some 60, none, .bin .sub (.t 56) (.t 59)⟩, ⟨some 11, none, .mov (.t 60)⟩] none)
 (.reg [⟨some 12, none, .mov (.c (.int .i64 1))⟩] none))) .skip))
 (.seq (.seq (.reg [⟨some 61, none, .mov (.t 8)⟩, ⟨some 62, none, .mov (.t 61)⟩, ⟨some 63, some (62, true), .mov (.t 9)⟩, ⟨some 64, none, .pick (.t 62) (.t 63) (.c (.bool false))⟩, ⟨some 65, none, .mov (.t 64)⟩, ⟨some 66, some (65, true), .mov (.t 12)⟩, ⟨some 67, some (65, true), .bin .eql (.t 66) (.c (.int .i64 1))⟩, ⟨some 68, none, .pick (.t 65) (.t 67) (.c (.bool false))⟩] none)
 (.cond (.t 68) (.seq (.reg [⟨some 69, none, .mov (.t 0)⟩, ⟨some 70, none, .mov (.t 1)⟩, ⟨some 71, none, .mov (.t 2)⟩, ⟨some 72, none, .call 72 [(.t 69), (.t 70), (.t 71)]⟩] none)
 (.cond (.t 72) .ret .skip)) .skip))
 (.seq (.seq (.reg [⟨some 73, none, .mov (.t 1)⟩, ⟨some 74, none, .bin .gtr (.t 73) (.c (.int .i64 0))⟩, ⟨some 75, none, .mov (.t 74)⟩, ⟨some 76, some (75, true), .mov (.t 0)⟩, ⟨some 77, some (75, true), .mov (.t 1)⟩, ⟨some 78, some (75, true), .bin .sub (.t 77) (.c (.int .i64 1))⟩, ⟨some 79, some (75, true), .iaddr 1 (.t 76) (.t 78)⟩, ⟨some 80, some (75, true), .load none (.t 79)⟩, ⟨some 81, some (75, true), .mov (.t 0)⟩, ⟨some 82, some (75, true), .mov (.t 11)⟩, ⟨some 83, some (75, true), .iaddr 1 (.t 81) (.t 82)⟩, ⟨some 84, some (75, true), .load none (.t 83)⟩, ⟨some 85, some (75, true), .call 73 [(.t 80), (.t 84)]⟩, ⟨some 86, some (75, true), .un .not (.t 85)⟩, ⟨some 87, none, .pick (.t 75) (.t 86) (.c (.bool false))⟩] (some [(7, 11)]))
 (.cond (.t 87) (.seq (.reg [⟨some 88, none, .mov (.t 0)⟩, ⟨some 89, none, .mov (.t 1)⟩, ⟨some 90, none, .mov (.t 2)⟩, ⟨some 91, none, .mov (.t 11)⟩, ⟨some 92, none, .call 74 [(.t 88), (.t 89), (.t 90), (.t 91)]⟩, ⟨some 13, none, .mov (.t 92)⟩] none)
 (.seq (.reg [⟨some 93, none, .mov (.t 13)⟩, ⟨some 1, none, .mov (.t 93)⟩] none)
 (.exit 1))) .skip))
 (.seq (.reg [⟨some 95, none, .mov (.t 0)⟩, ⟨some 96, none, .mov (.t 1)⟩, ⟨some 97, none, .mov (.t 2)⟩, ⟨some 98, none, .mov (.t 11)⟩, ⟨some 99, none, .call 75 [(.t 95), (.t 96), (.t 97), (.t 98)]⟩, ⟨some 94, none, .mov (.t 99)⟩, ⟨some 100, none, .ext (.t 94) 0⟩, ⟨some 101, none, .ext (.t 94) 1⟩, ⟨some 14, none, .mov (.t 100)⟩, ⟨some 15, none, .mov (.t 101)⟩] none)
 (.seq (.reg [⟨some 102, none, .mov (.t 15)⟩, ⟨some 9, none, .mov (.t 102)⟩] none)
 (.seq (.reg [⟨some 103, none, .mov (.t 14)⟩, ⟨some 104, none, .mov (.t 1)⟩, ⟨some 105, none, .bin .sub (.t 103) (.t 104)⟩, ⟨some 106, none, .mov (.t 2)⟩, ⟨some 107, none, .mov (.t 14)⟩, ⟨some 108, none, .bin .sub (.t 106) (.t 107)⟩, ⟨some 16, none, .mov (.t 105)⟩, ⟨some 17, none, .mov (.t 108)⟩] none)
 (.seq (.reg [⟨some 109, none, .mov (.t 10)⟩, ⟨some 110, none, .bin .quo (.t 109) (.c (.int .i64 8))⟩, ⟨some 18, none, .mov (.t 110)⟩] none)
 (.seq (.reg [⟨some 111, none, .mov (.t 16)⟩, ⟨some 112, none, .mov (.t 17)⟩, ⟨some 113, none, .bin .lss (.t 111) (.t 112)⟩] none)
 (.cond (.t 113) (.seq (.reg [⟨some 114, none, .mov (.t 16)⟩, ⟨some 115, none, .mov (.t 18)⟩, ⟨some 116, none, .bin .geq (.t 114) (.t 115)⟩, ⟨some 8, none, .mov (.t 116)⟩] none)
 (.seq (.reg [⟨some 117, none, .mov (.t 0)⟩, ⟨some 118, none, .mov (.t 1)⟩, ⟨some 119, none, .mov (.t 14)⟩, ⟨some 120, none, .mov (.t 3)⟩, ⟨some 121, none, .call 43 [(.t 117), (.t 118), (.t 119), (.t 120)]⟩] none)
 (.reg [⟨some 122, none, .mov (.t 14)⟩, ⟨some 123, none, .bin .add (.t 122) (.c (.int .i64 1))⟩, ⟨some 1, none, .mov (.t 123)⟩] none))) (.seq (.reg [⟨some 124, none, .mov (.t 17)⟩, ⟨some 125, none, .mov (.t 18)⟩, ⟨some 126, none, .bin .geq (.t 124) (.t 125)⟩, ⟨some 8, none, .mov (.t 126)⟩] none)
 (.seq (.reg [⟨some 127, none, .mov (.t 0)⟩, ⟨some 128, none, .mov (.t 14)⟩, ⟨some 129, none, .bin .add (.t 128) (.c (.int .i64 1))⟩, ⟨some 130, none, .mov (.t 2)⟩, ⟨some 131, none, .mov (.t 3)⟩, ⟨some 132, none, .call 43 [(.t 127), (.t 129), (.t 130), (.t 131)]⟩] none)
 (.reg [⟨some 133, none, .mov (.t 14)⟩, ⟨some 2, none, .mov (.t 133)⟩] none))))))))))))))))))))))
theorem f43 : FnIs Try.prog 43 134 c43 [] := ⟨_, Try.func43, rfl, by kernel_rfl, rfl⟩
def c44 : AC := (.seq (.reg [⟨some 3, none, .box (.t 1)⟩, ⟨some 4, none, .mov (.c (.sl 3 [] (.exact 0)))⟩] none)
 (.seq (.reg [⟨some 5, none, .mov (.c (.sl 3 [] (.exact 0)))⟩] none)
 (.seq (.reg [⟨some 6, none, .mov (.c (.bool false))⟩] none)
 (.seq (.seq (.reg [⟨some 7, none, .mov (.c (.int .i64 0))⟩] none)
 (.block 0 (.loop (.seq (.seq (.reg [⟨some 8, none, .mov (.t 7)⟩, ⟨some 9, none, .mov (.t 0)⟩, ⟨some 10, none, .len false (.t 9)⟩, ⟨some 11, none, .bin .lss (.t 8) (.t 10)⟩] none)
 (.cond (.t 11) .skip (.exit 0)))
 (.seq (.block 1 (.seq (.seq (.reg [⟨some 14, none, .mov (.t 6)⟩, ⟨some 15, none, .un .not (.t 14)⟩, ⟨some 16, none, .mov (.t 15)⟩, ⟨some 17, some (16, true), .mov (.t 0)⟩, ⟨some 18, some (16, true), .mov (.t 7)⟩, ⟨some 19, some (16, true), .iaddr 3 (.t 17) (.t 18)⟩, ⟨some 20, some (16, true), .faddr 0 (.t 19)⟩, ⟨some 21, some (16, true), .load none (.t 20)⟩, ⟨some 22, some (16, true), .faddr 0 (.t 3)⟩, ⟨some 23, some (16, true), .load none (.t 22)⟩, ⟨some 24, some (16, true), .bin .lss (.t 21) (.t 23)⟩, ⟨some 25, none, .pick (.t 16) (.t 24) (.c (.bool false))⟩] (some [(7, 9)]))
 (.cond (.t 25) (.seq (.reg [⟨some 26, none, .mov (.t 5)⟩, ⟨some 27, none, .load (some 3) (.t 3)⟩, ⟨some 28, none, .buildSl 3 [(.t 27)]⟩, ⟨some 29, none, .app false 3 32 (.t 26) (.t 28)⟩, ⟨some 5, none, .mov (.t 29)⟩] none)
 (.reg [⟨some 6, none, .mov (.c (.bool true))⟩] none)) .skip))
 (.reg [⟨some 30, none, .mov (.t 5)⟩, ⟨some 31, none, .mov (.t 0)⟩, ⟨some 32, none, .mov (.t 7)⟩, ⟨some 33, none, .iaddr 3 (.t 31) (.t 32)⟩, ⟨some 34, none, .load (some 3) (.t 33)⟩, ⟨some 35, none, .buildSl 3 [(.t 34)]⟩, ⟨some 36, none, .app false 3 32 (.t 30) (.t 35)⟩, ⟨some 5, none, .mov (.t 36)⟩] none)))
 (.reg [⟨some 12, none, .mov (.t 7)⟩, ⟨some 13, none, .bin .add (.t 12) (.c (.int .i64 1))⟩, ⟨some 7, none, .mov (.t 13)⟩] none))))))
 (.seq (.seq (.reg [⟨some 37, none, .mov (.t 6)⟩, ⟨some 38, none, .un .not (.t 37)⟩] none)
 (.cond (.t 38) (.reg [⟨some 39, none, .mov (.t 5)⟩, ⟨some 40, none, .load (some 3) (.t 3)⟩, ⟨some 41, none, .buildSl 3 [(.t 40)]⟩, ⟨some 42, none, .app false 3 32 (.t 39) (.t 41)⟩, ⟨some 5, none, .mov (.t 42)⟩] none) .skip))
 (.seq (.reg [⟨some 43, none, .mov (.t 5)⟩, ⟨some 4, none, .mov (.t 43)⟩] none)
 .ret))))))
theorem f44 : FnIs Try.prog 44 44 c44 [.tmp 4] := ⟨_, Try.func44, rfl, by kernel_rfl, rfl⟩
def c45 : AC := (.seq (.reg [⟨some 2, none, .box (.t 0)⟩, ⟨some 3, none, .mov (.c (.bool false))⟩] none)
 (.seq (.reg [⟨some 4, none, .faddr 0 (.t 2)⟩, ⟨some 5, none, .load none (.t 4)⟩, ⟨some 6, none, .faddr 0 (.t 1)⟩, ⟨some 7, none, .load none (.t 6)⟩, ⟨some 8, none, .bin .eql (.t 5) (.t 7)⟩, ⟨some 3, none, .mov (.t 8)⟩] none)
 .ret))
theorem f45 : FnIs Try.prog 45 9 c45 [.tmp 3] := ⟨_, Try.func45, rfl, by kernel_rfl, rfl⟩
def c46 : AC := (.seq (.reg [⟨some 1, none, .box (.t 0)⟩, ⟨some 2, none, .mov (.c (.bool false))⟩] none)
 (.seq (.reg [⟨some 3, none, .faddr 0 (.t 1)⟩, ⟨some 4, none, .load none (.t 3)⟩, ⟨some 5, none, .len true (.t 4)⟩, ⟨some 6, none, .bin .leq (.t 5) (.c (.int .i64 120))⟩, ⟨some 7, none, .mov (.t 6)⟩, ⟨some 8, some (7, true), .faddr 1 (.t 1)⟩, ⟨some 9, some (7, true), .load none (.t 8)⟩, ⟨some 10, some (7, true), .len true (.t 9)⟩, ⟨some 11, some (7, true), .bin .leq (.t 10) (.c (.int .i64 199))⟩, ⟨some 12, none, .pick (.t 7) (.t 11) (.c (.bool false))⟩, ⟨some 13, none, .mov (.t 12)⟩, ⟨some 14, some (13, true), .faddr 2 (.t 1)⟩, ⟨some 15, some (13, true), .load none (.t 14)⟩, ⟨some 16, some (13, true), .un .not (.t 15)⟩, ⟨some 17, some (13, true), .mov (.t 16)⟩, ⟨some 18, some (17, false), .faddr 1 (.t 1)⟩, ⟨some 19, some (17, false), .load none (.t 18)⟩, ⟨some 20, some (17, false), .bin .eql (.t 19) (.c (.str []))⟩, ⟨some 21, some (13, true), .pick (.t 17) (.c (.bool true)) (.t 20)⟩, ⟨some 22, none, .pick (.t 13) (.t 21) (.c (.bool false))⟩, ⟨some 2, none, .mov (.t 22)⟩] none)
 .ret))
theorem f46 : FnIs Try.prog 46 23 c46 [.tmp 2] := ⟨_, Try.func46, rfl, by kernel_rfl, rfl⟩
def c47 : AC := (.seq (.reg [⟨some 4, none, .mov (.c (.bool false))⟩] none)
 (.seq (.reg [⟨some 5, none, .mov (.t 0)⟩, ⟨some 6, none, .mov (.t 1)⟩, ⟨some 7, none, .call 76 [(.t 5), (.t 6)]⟩, ⟨some 8, none, .bin .geq (.t 7) (.c (.int .i64 0))⟩, ⟨some 4, none, .mov (.t 8)⟩] none)
 .ret))
theorem f47 : FnIs Try.prog 47 9 c47 [.tmp 4] := ⟨_, Try.func47, rfl, by kernel_rfl, rfl⟩
def c48 : AC := (.seq (.reg [⟨some 1, none, .box (.t 0)⟩, ⟨some 2, none, .mov (.c (.int .i64 0))⟩] none)
 (.seq (.reg [⟨some 3, none, .mov (.c (.int .i64 10))⟩] none)
 (.seq (.seq (.reg [⟨some 6, none, .faddr 1 (.t 1)⟩, ⟨some 7, none, .load none (.t 6)⟩, ⟨some 8, none, .len false (.t 7)⟩, ⟨some 9, none, .mov (.c (.int .i64 0))⟩] none)
 (.block 0 (.loop (.seq (.reg [⟨some 10, none, .bin .lss (.t 9) (.t 8)⟩] none)
 (.seq (.cond (.t 10) .skip (.exit 0))
 (.seq (.block 1 (.seq (.reg [⟨some 11, none, .iaddr 3 (.t 7) (.t 9)⟩, ⟨some 12, none, .load (some 3) (.t 11)⟩, ⟨some 5, none, .alloc [.str [], .str [], .bool false]⟩, ⟨none, none, .store 3 (.t 5) (.t 12)⟩] none)
 (.reg [⟨some 13, none, .mov (.t 3)⟩, ⟨some 14, none, .faddr 0 (.t 5)⟩, ⟨some 15, none, .load none (.t 14)⟩, ⟨some 16, none, .len true (.t 15)⟩, ⟨some 17, none, .bin .add (.c (.int .i64 3)) (.t 16)⟩, ⟨some 18, none, .faddr 1 (.t 5)⟩, ⟨some 19, none, .load none (.t 18)⟩, ⟨some 20, none, .len true (.t 19)⟩, ⟨some 21, none, .bin .add (.t 17) (.t 20)⟩, ⟨some 22, none, .bin .add (.t 13) (.t 21)⟩, ⟨some 3, none, .mov (.t 22)⟩] none)))
 (.reg [⟨some 23, none, .bin .add (.t 9) (.c (.int .i64 1))⟩, ⟨some 9, none, .mov (.t 23)⟩] none)))))))
 (.seq (.reg [⟨some 24, none, .mov (.t 3)⟩, ⟨some 2, none, .mov (.t 24)⟩] none)
 .ret))))
theorem f48 : FnIs Try.prog 48 25 c48 [.tmp 2] := ⟨_, Try.func48, rfl, by kernel_rfl, rfl⟩
def c49 : AC := (.seq (.reg [⟨some 6, none, .mov (.c (.sl 1 [] (.exact 0)))⟩] none)
 (.seq (.seq (.reg [⟨some 8, none, .mov (.t 2)⟩, ⟨some 9, none, .bin .sub (.t 8) (.c (.int .i64 1))⟩, ⟨some 7, none, .mov (.t 9)⟩] none)
 (.block 0 (.loop (.seq (.seq (.reg [⟨some 10, none, .mov (.t 7)⟩, ⟨some 11, none, .bin .geq (.t 10) (.c (.int .i64 0))⟩] none)
 (.cond (.t 11) .skip (.exit 0)))
 (.seq (.block 1 (.reg [⟨some 14, none, .mov (.t 0)⟩, ⟨some 15, none, .mov (.t 1)⟩, ⟨some 16, none, .conv (.toInt .u64) (.t 15)⟩, ⟨some 17, none, .mov (.t 7)⟩, ⟨some 18, none, .bin .mul (.c (.int .i64 8)) (.t 17)⟩, ⟨some 19, none, .bin .shr (.t 16) (.t 18)⟩, ⟨some 20, none, .conv (.toInt .u8) (.t 19)⟩, ⟨some 21, none, .buildSl 1 [(.t 20)]⟩, ⟨some 22, none, .app false 1 1 (.t 14) (.t 21)⟩, ⟨some 0, none, .mov (.t 22)⟩] none))
 (.reg [⟨some 12, none, .mov (.t 7)⟩, ⟨some 13, none, .bin .sub (.t 12) (.c (.int .i64 1))⟩, ⟨some 7, none, .mov (.t 13)⟩] none))))))
 (.seq (.reg [⟨some 23, none, .mov (.t 0)⟩, ⟨some 6, none, .mov (.t 23)⟩] none)
 .ret)))
theorem f49 : FnIs Try.prog 49 24 c49 [.tmp 6] := ⟨_, Try.func49, rfl, by kernel_rfl, rfl⟩
def c50 : AC := (.seq (.reg [⟨some 6, none, .mov (.c (.sl 1 [] (.exact 0)))⟩] none)
 (.seq (.seq (.reg [⟨some 8, none, .mov (.t 2)⟩, ⟨some 9, none, .bin .sub (.t 8) (.c (.int .i64 1))⟩, ⟨some 7, none, .mov (.t 9)⟩] none)
 (.block 0 (.loop (.seq (.seq (.reg [⟨some 10, none, .mov (.t 7)⟩, ⟨some 11, none, .bin .geq (.t 10) (.c (.int .i64 0))⟩] none)
 (.cond (.t 11) .skip (.exit 0)))
 (.seq (.block 1 (.reg [⟨some 14, none, .mov (.t 0)⟩, ⟨some 15, none, .mov (.t 1)⟩, ⟨some 16, none, .mov (.t 7)⟩, ⟨some 17, none, .bin .mul (.c (.int .i64 8)) (.t 16)⟩, ⟨some 18, none, .bin .shr (.t 15) (.t 17)⟩, ⟨some 19, none, .conv (.toInt .u8) (.t 18)⟩, ⟨some 20, none, .buildSl 1 [(.t 19)]⟩, ⟨some 21, none, .app false 1 1 (.t 14) (.t 20)⟩, ⟨some 0, none, .mov (.t 21)⟩] none))
 (.reg [⟨some 12, none, .mov (.t 7)⟩, ⟨some 13, none, .bin .sub (.t 12) (.c (.int .i64 1))⟩, ⟨some 7, none, .mov (.t 13)⟩] none))))))
 (.seq (.reg [⟨some 22, none, .mov (.t 0)⟩, ⟨some 6, none, .mov (.t 22)⟩] none)
 .ret)))
theorem f50 : FnIs Try.prog 50 23 c50 [.tmp 6] := ⟨_, Try.func50, rfl, by kernel_rfl, rfl⟩
def c51 : AC := (.seq (.reg [⟨some 2, none, .mov (.c (.sl 1 [] (.exact 0)))⟩] none)
 (.seq (.seq (.reg [⟨some 3, none, .mov (.t 0)⟩, ⟨some 4, none, .eqN false (.t 3)⟩] none)
 (.cond (.t 4) (.seq (.reg [⟨some 2, none, .mov (.c (.sl 1 [] (.exact 0)))⟩] none)
 .ret) .skip))
 (.seq (.reg [⟨some 5, none, .buildSl 1 []⟩, ⟨some 6, none, .mov (.t 0)⟩, ⟨some 7, none, .app false 1 1 (.t 5) (.t 6)⟩, ⟨some 2, none, .mov (.t 7)⟩] none)
 .ret)))
theorem f51 : FnIs Try.prog 51 8 c51 [.tmp 2] := ⟨_, Try.func51, rfl, by kernel_rfl, rfl⟩
def c52 : AC := (.seq (.reg [⟨some 6, none, .mov (.c (.int .i64 0))⟩] none)
 (.seq (.seq (.reg [⟨some 9, none, .mov (.t 0)⟩, ⟨some 10, none, .call 77 [(.t 9)]⟩, ⟨some 11, none, .un .not (.t 10)⟩] none)
 (.cond (.t 11) (.seq (.reg [⟨some 6, none, .mov (.c (.int .i64 0))⟩] none)
 .ret) .skip))
 (.seq (.reg [⟨some 13, none, .mov (.t 0)⟩, ⟨some 14, none, .mov (.t 0)⟩, ⟨some 15, none, .nilck (.t 14)⟩, ⟨some 16, none, .faddr 2 (.t 15)⟩, ⟨some 17, none, .load none (.t 16)⟩, ⟨some 18, none, .mov (.t 1)⟩, ⟨some 19, none, .call 78 [(.t 13), (.t 17), (.t 18)]⟩, ⟨some 12, none, .mov (.t 19)⟩, ⟨some 20, none, .ext (.t 12) 0⟩, ⟨some 21, none, .ext (.t 12) 1⟩, ⟨some 7, none, .mov (.t 20)⟩, ⟨some 8, none, .mov (.t 21)⟩] none)
 (.seq (.seq (.reg [⟨some 22, none, .mov (.t 8)⟩, ⟨some 23, none, .un .not (.t 22)⟩] none)
 (.cond (.t 23) (.seq (.reg [⟨some 24, none, .mov (.t 0)⟩, ⟨some 25, none, .nilck (.t 24)⟩, ⟨some 26, none, .faddr 3 (.t 25)⟩, ⟨none, none, .store 1 (.t 26) (.c (.int .i64 3))⟩] none)
 (.seq (.reg [⟨some 6, none, .mov (.c (.int .i64 0))⟩] none)
 .ret)) .skip))
 (.seq (.reg [⟨some 27, none, .mov (.t 0)⟩, ⟨some 28, none, .nilck (.t 27)⟩, ⟨some 29, none, .faddr 2 (.t 28)⟩, ⟨some 30, none, .load none (.t 29)⟩, ⟨some 31, none, .mov (.t 1)⟩, ⟨some 32, none, .bin .add (.t 30) (.t 31)⟩, ⟨some 33, none, .nilck (.t 27)⟩, ⟨some 34, none, .faddr 2 (.t 33)⟩, ⟨none, none, .store 1 (.t 34) (.t 32)⟩] none)
 (.seq (.reg [⟨some 35, none, .mov (.t 2)⟩, ⟨some 36, none, .mov (.t 7)⟩, ⟨some 37, none, .callv (.t 35) [(.t 36)]⟩, ⟨some 6, none, .mov (.t 37)⟩] none)
 .ret))))))
theorem f52 : FnIs Try.prog 52 38 c52 [.tmp 6] := ⟨_, Try.func52, rfl, by kernel_rfl, rfl⟩
def c53 : AC := (.seq (.reg [⟨some 2, none, .mov (.c (.int .i64 0))⟩] none)
 (.seq (.reg [⟨some 3, none, .mov (.t 0)⟩, ⟨some 4, none, .conv (.toInt .i64) (.t 3)⟩, ⟨some 2, none, .mov (.t 4)⟩] none)
 .ret))
theorem f53 : FnIs Try.prog 53 5 c53 [.tmp 2] := ⟨_, Try.func53, rfl, by kernel_rfl, rfl⟩
def c54 : AC := (.seq (.reg [⟨some 1, none, .box (.t 0)⟩, ⟨some 2, none, .mov (.c (.bool false))⟩] none)
 (.seq (.reg [⟨some 3, none, .faddr 0 (.t 1)⟩, ⟨some 4, none, .load none (.t 3)⟩, ⟨some 5, none, .bin .geq (.t 4) (.c (.int .i64 1))⟩, ⟨some 6, none, .mov (.t 5)⟩, ⟨some 7, some (6, true), .faddr 0 (.t 1)⟩, ⟨some 8, some (6, true), .load none (.t 7)⟩, ⟨some 9, some (6, true), .bin .leq (.t 8) (.c (.int .i64 1152921504606846976))⟩, ⟨some 10, none, .pick (.t 6) (.t 9) (.c (.bool false))⟩, ⟨some 11, none, .mov (.t 10)⟩, ⟨some 12, some (11, true), .faddr 1 (.t 1)⟩, ⟨some 13, some (11, true), .load none (.t 12)⟩, ⟨some 14, some (11, true), .len true (.t 13)⟩, ⟨some 15, some (11, true), .bin .leq (.t 14) (.c (.int .i64 200))⟩, ⟨some 16, none, .pick (.t 11) (.t 15) (.c (.bool false))⟩, ⟨some 17, none, .mov (.t 16)⟩, ⟨some 18, some (17, true), .faddr 2 (.t 1)⟩, ⟨some 19, some (17, true), .load none (.t 18)⟩, ⟨some 20, some (17, true), .un .not (.t 19)⟩, ⟨some 21, some (17, true), .mov (.t 20)⟩, ⟨some 22, some (21, false), .faddr 1 (.t 1)⟩, ⟨some 23, some (21, false), .load none (.t 22)⟩, ⟨some 24, some (21, false), .bin .eql (.t 23) (.c (.str []))⟩, ⟨some 25, some (17, true), .pick (.t 21) (.c (.bool true)) (.t 24)⟩, ⟨some 26, none, .pick (.t 17) (.t 25) (.c (.bool false))⟩, ⟨some 2, none, .mov (.t 26)⟩] none)
 .ret))
theorem f54 : FnIs Try.prog 54 27 c54 [.tmp 2] := ⟨_, Try.func54, rfl, by kernel_rfl, rfl⟩
def c55 : AC := (.seq (.reg [⟨some 4, none, .mov (.c (.int .i64 0))⟩] none)
 (.seq (.seq (.reg [⟨some 6, none, .mov (.t 0)⟩, ⟨some 7, none, .len false (.t 6)⟩, ⟨some 8, none, .mov (.c (.int .i64 0))⟩] none)
 (.block 0 (.loop (.seq (.reg [⟨some 9, none, .bin .lss (.t 8) (.t 7)⟩] none)
 (.seq (.cond (.t 9) .skip (.exit 0))
 (.seq (.block 1 (.seq (.reg [⟨some 10, none, .mov (.t 8)⟩, ⟨some 5, none, .mov (.t 10)⟩] none)
 (.seq (.reg [⟨some 11, none, .mov (.t 1)⟩, ⟨some 12, none, .mov (.t 0)⟩, ⟨some 13, none, .mov (.t 5)⟩, ⟨some 14, none, .iaddr 3 (.t 12) (.t 13)⟩, ⟨some 15, none, .load (some 3) (.t 14)⟩, ⟨some 16, none, .callv (.t 11) [(.t 15)]⟩] none)
 (.cond (.t 16) (.seq (.reg [⟨some 17, none, .mov (.t 5)⟩, ⟨some 4, none, .mov (.t 17)⟩] none)
 .ret) .skip))))
 (.reg [⟨some 18, none, .bin .add (.t 8) (.c (.int .i64 1))⟩, ⟨some 8, none, .mov (.t 18)⟩] none)))))))
 (.seq (.reg [⟨some 4, none, .mov (.c (.int .i64 (-1)))⟩] none)
 .ret)))
theorem f55 : FnIs Try.prog 55 19 c55 [.tmp 4] := ⟨_, Try.func55, rfl, by kernel_rfl, rfl⟩
def c56 : AC := (.seq (.reg [⟨some 10, none, .mov (.t 1)⟩, ⟨some 11, none, .bin .add (.t 10) (.c (.int .i64 1))⟩, ⟨some 8, none, .mov (.t 11)⟩] none)
 (.block 0 (.loop (.seq (.seq (.reg [⟨some 12, none, .mov (.t 8)⟩, ⟨some 13, none, .mov (.t 2)⟩, ⟨some 14, none, .bin .lss (.t 12) (.t 13)⟩] none)
 (.cond (.t 14) .skip (.exit 0)))
 (.seq (.block 1 (.seq (.reg [⟨some 17, none, .mov (.t 8)⟩, ⟨some 9, none, .mov (.t 17)⟩] none)
 (.block 2 (.loop (.seq (.seq (.reg [⟨some 18, none, .mov (.t 9)⟩, ⟨some 19, none, .mov (.t 1)⟩, ⟨some 20, none, .bin .gtr (.t 18) (.t 19)⟩, ⟨some 21, none, .mov (.t 20)⟩, ⟨some 22, some (21, true), .mov (.t 3)⟩, ⟨some 23, some (21, true), .mov (.t 0)⟩, ⟨some 24, some (21, true), .mov (.t 9)⟩, ⟨some 25, some (21, true), .iaddr 2 (.t 23) (.t 24)⟩, ⟨some 26, some (21, true), .load (some 2) (.t 25)⟩, ⟨some 27, some (21, true), .mov (.t 0)⟩, ⟨some 28, some (21, true), .mov (.t 9)⟩, ⟨some 29, some (21, true), .bin .sub (.t 28) (.c (.int .i64 1))⟩, ⟨some 30, some (21, true), .iaddr 2 (.t 27) (.t 29)⟩, ⟨some 31, some (21, true), .load (some 2) (.t 30)⟩, ⟨some 32, some (21, true), .callv (.t 22) [(.t 26), (.t 31)]⟩, ⟨some 33, some (21, true), .bin .lss (.t 32) (.c (.int .i64 0))⟩, ⟨some 34, none, .pick (.t 21) (.t 33) (.c (.bool false))⟩] (some [(8, 13)]))
 (.cond (.t 34) .skip (.exit 2)))
 (.seq (.block 3 (.reg [⟨some 37, none, .mov (.t 0)⟩, ⟨some 38, none, .mov (.t 9)⟩, ⟨some 39, none, .mov (.t 0)⟩, ⟨some 40, none, .mov (.t 9)⟩, ⟨some 41, none, .bin .sub (.t 40) (.c (.int .i64 1))⟩, ⟨some 42, none, .mov (.t 0)⟩, ⟨some 43, none, .mov (.t 9)⟩, ⟨some 44, none, .bin .sub (.t 43) (.c (.int .i64 1))⟩, ⟨some 45, none, .iaddr 2 (.t 42) (.t 44)⟩, ⟨some 46, none, .load (some 2) (.t 45)⟩, ⟨some 47, none, .mov (.t 0)⟩, ⟨some 48, none, .mov (.t 9)⟩, ⟨some 49, none, .iaddr 2 (.t 47) (.t 48)⟩, ⟨some 50, none, .load (some 2) (.t 49)⟩, ⟨some 51, none, .iaddr 2 (.t 37) (.t 38)⟩, ⟨none, none, .store 2 (.t 51) (.t 46)⟩, ⟨some 52, none, .iaddr 2 (.t 39) (.t 41)⟩, ⟨none, none, .store 2 (.t 52) (.t 50)⟩] (some [(9, 13)])))
 (.reg [⟨some 35, none, .mov (.t 9)⟩, ⟨some 36, none, .bin .sub (.t 35) (.c (.int .i64 1))⟩, ⟨some 9, none, .mov (.t 36)⟩] none)))))))
 (.reg [⟨some 15, none, .mov (.t 8)⟩, ⟨some 16, none, .bin .add (.t 15) (.c (.int .i64 1))⟩, ⟨some 8, none, .mov (.t 16)⟩] none))))))
theorem f56 : FnIs Try.prog 56 53 c56 [] := ⟨_, Try.func56, rfl, by kernel_rfl, rfl⟩
def c57 : AC := (.seq (.reg [⟨some 13, none, .mov (.t 1)⟩, ⟨some 8, none, .mov (.t 13)⟩] none)
 (.seq (.reg [⟨some 9, none, .mov (.c (.int .i64 0))⟩] none)
 (.seq (.reg [⟨some 14, none, .mov (.t 2)⟩, ⟨some 15, none, .mov (.t 1)⟩, ⟨some 16, none, .bin .sub (.t 14) (.t 15)⟩, ⟨some 10, none, .mov (.t 16)⟩] none)
 (.seq (.seq (.reg [⟨some 17, none, .mov (.t 10)⟩, ⟨some 18, none, .bin .sub (.t 17) (.c (.int .i64 1))⟩, ⟨some 19, none, .bin .quo (.t 18) (.c (.int .i64 2))⟩, ⟨some 11, none, .mov (.t 19)⟩] none)
 (.block 0 (.loop (.seq (.seq (.reg [⟨some 20, none, .mov (.t 11)⟩, ⟨some 21, none, .bin .geq (.t 20) (.c (.int .i64 0))⟩] none)
 (.cond (.t 21) .skip (.exit 0)))
 (.seq (.block 1 (.reg [⟨some 24, none, .mov (.t 0)⟩, ⟨some 25, none, .mov (.t 11)⟩, ⟨some 26, none, .mov (.t 10)⟩, ⟨some 27, none, .mov (.t 8)⟩, ⟨some 28, none, .mov (.t 3)⟩, ⟨some 29, none, .call 79 [(.t 24), (.t 25), (.t 26), (.t 27), (.t 28)]⟩] none))
 (.reg [⟨some 22, none, .mov (.t 11)⟩, ⟨some 23, none, .bin .sub (.t 22) (.c (.int .i64 1))⟩, ⟨some 11, none, .mov (.t 23)⟩] none))))))
 (.seq (.reg [⟨some 30, none, .mov (.t 10)⟩, ⟨some 31, none, .bin .sub (.t 30) (.c (.int .i64 1))⟩, ⟨some 12, none, .mov (.t 31)⟩] none)
 (.block 2 (.loop (.seq (.seq (.reg [⟨some 32, none, .mov (.t 12)⟩, ⟨some 33, none, .bin .geq (.t 32) (.c (.int .i64 0))⟩] none)
 (.cond (.t 33) .skip (.exit 2)))
 (.seq (.block 3 (.seq (.reg [⟨some 36, none, .mov (.t 0)⟩, ⟨some 37, none, .mov (.t 8)⟩, ⟨some 38, none, .mov (.t 0)⟩, ⟨some 39, none, .mov (.t 8)⟩, ⟨some 40, none, .mov (.t 12)⟩, ⟨some 41, none, .bin .add (.t 39) (.t 40)⟩, ⟨some 42, none, .mov (.t 0)⟩, ⟨some 43, none, .mov (.t 8)⟩, ⟨some 44, none, .mov (.t 12)⟩, ⟨some 45, none, .bin .add (.t 43) (.t 44)⟩, ⟨some 46, none, .iaddr 2 (.t 42) (.t 45)⟩, ⟨some 47, none, .load (some 2) (.t 46)⟩, ⟨some 48, none, .mov (.t 0)⟩, ⟨some 49, none, .mov (.t 8)⟩, ⟨some 50, none, .iaddr 2 (.t 48) (.t 49)⟩, ⟨some 51, none, .load (some 2) (.t 50)⟩, ⟨some 52, none, .iaddr 2 (.t 36) (.t 37)⟩, ⟨none, none, .store 2 (.t 52) (.t 47)⟩, ⟨some 53, none, .iaddr 2 (.t 38) (.t 41)⟩, ⟨none, none, .store 2 (.t 53) (.t 51)⟩] (some [(11, 15)]))
 (.reg [⟨some 54, none, .mov (.t 0)⟩, ⟨some 55, none, .mov (.t 9)⟩, ⟨some 56, none, .mov (.t 12)⟩, ⟨some 57, none, .mov (.t 8)⟩, ⟨some 58, none, .mov (.t 3)⟩, ⟨some 59, none, .call 79 [(.t 54), (.t 55), (.t 56), (.t 57), (.t 58)]⟩] none)))
 (.reg [⟨some 34, none, .mov (.t 12)⟩, ⟨some 35, none, .bin .sub (.t 34) (.c (.int .i64 1))⟩, ⟨some 12, none, .mov (.t 35)⟩] none))))))))))
theorem f57 : FnIs Try.prog 57 60 c57 [] := ⟨_, Try.func57, rfl, by kernel_rfl, rfl⟩
def c58 : AC := (.seq (.reg [⟨some 13, none, .mov (.t 2)⟩, ⟨some 14, none, .mov (.t 1)⟩, ⟨some 15, none, .bin .sub (.t 13) (.t 14)⟩, ⟨some 8, none, .mov (.t 15)⟩] none)
 (.seq (.reg [⟨some 16, none, .mov (.t 8)⟩, ⟨some 17, none, .bin .geq (.t 16) (.c (.int .i64 8))⟩] none)
 (.cond (.t 17) (.seq (.reg [⟨some 18, none, .mov (.t 8)⟩, ⟨some 19, none, .conv (.toInt .u64) (.t 18)⟩, ⟨some 9, none, .alloc [.int .u64 0]⟩, ⟨none, none, .store 1 (.t 9) (.t 19)⟩] none)
 (.seq (.reg [⟨some 20, none, .mov (.t 8)⟩, ⟨some 21, none, .call 80 [(.t 20)]⟩, ⟨some 10, none, .mov (.t 21)⟩] none)
 (.seq (.reg [⟨some 22, none, .mov (.t 1)⟩, ⟨some 23, none, .mov (.t 8)⟩, ⟨some 24, none, .bin .quo (.t 23) (.c (.int .i64 4))⟩, ⟨some 25, none, .bin .mul (.t 24) (.c (.int .i64 2))⟩, ⟨some 26, none, .bin .add (.t 22) (.t 25)⟩, ⟨some 27, none, .bin .sub (.t 26) (.c (.int .i64 1))⟩, ⟨some 11, none, .mov (.t 27)⟩] none)
 (.block 0 (.loop (.seq (.seq (.reg [⟨some 28, none, .mov (.t 11)⟩, ⟨some 29, none, .mov (.t 1)⟩, ⟨some 30, none, .mov (.t 8)⟩, ⟨some 31, none, .bin .quo (.t 30) (.c (.int .i64 4))⟩, ⟨some 32, none, .bin .mul (.t 31) (.c (.int .i64 2))⟩, ⟨some 33, none, .bin .add (.t 29) (.t 32)⟩, ⟨some 34, none, .bin .add (.t 33) (.c (.int .i64 1))⟩, ⟨some 35, none, .bin .leq (.t 28) (.t 34)⟩] none)
 (.cond (.t 35) .skip (.exit 0)))
 (.seq (.block 1 (.seq (.reg [⟨some 38, none, .call 81 [(.t 9)]⟩, ⟨some 39, none, .mov (.t 10)⟩, ⟨some 40, none, .bin .sub (.t 39) (.c (.int .u64 1))⟩, ⟨some 41, none, .bin .and (.t 38) (.t 40)⟩, ⟨some 42, none, .conv (.toInt .i64) (.t 41)⟩, ⟨some 12, none, .mov (.t 42)⟩] none)
 (.seq (.seq (.reg [⟨some 43, none, .mov (.t 12)⟩, ⟨some 44, none, .mov (.t 8)⟩, ⟨some 45, none, .bin .geq (.t 43) (.t 44)⟩] none)
 (.cond (.t 45) (.reg [⟨some 46, none, .mov (.t 12)⟩, ⟨some 47, none, .mov (.t 8)⟩, ⟨some 48, none, .bin .sub (.t 46) (.t 47)⟩, ⟨some 12, none, .mov (.t 48)⟩] none) .skip))
 (.reg [⟨some 49, none, .mov (.t 0)⟩, ⟨some 50, none, .mov (.t 11)⟩, ⟨some 51, none, .mov (.t 0)⟩, ⟨some 52, none, .mov (.t 1)⟩, ⟨some 53, none, .mov (.t 12)⟩, ⟨some 54, none, .bin .add (.t 52) (.t 53)⟩, ⟨some 55, none, .mov (.t 0)⟩, ⟨some 56, none, .mov (.t 1)⟩, ⟨some 57, none, .mov (.t 12)⟩, ⟨some 58, none, .bin .add (.t 56) (.t 57)⟩, ⟨some 59, none, .iaddr 2 (.t 55) (.t 58)⟩, ⟨some 60, none, .load (some 2) (.t 59)⟩, ⟨some 61, none, .mov (.t 0)⟩, ⟨some 62, none, .mov (.t 11)⟩, ⟨some 63, none, .iaddr 2 (.t 61) (.t 62)⟩, ⟨some 64, none, .load (some 2) (.t 63)⟩, ⟨some 65, none, .iaddr 2 (.t 49) (.t 50)⟩, ⟨none, none, .store 2 (.t 65) (.t 60)⟩, ⟨some 66, none, .iaddr 2 (.t 51) (.t 54)⟩, ⟨none, none, .store 2 (.t 66) (.t 64)⟩] (some [(11, 15)])))))
 (.reg [⟨some 36, none, .mov (.t 11)⟩, ⟨some 37, none, .bin .add (.t 36) (.c (.int .i64 1))⟩, ⟨some 11, none, .mov (.t 37)⟩] none)))))))) .skip)))
theorem f58 : FnIs Try.prog 58 67 c58 [] := ⟨_, Try.func58, rfl, by kernel_rfl, rfl⟩
def c59 : AC := (.seq (.reg [⟨some 8, none, .mov (.c (.int .i64 0))⟩, ⟨some 9, none, .mov (.c (.int .i64 0))⟩] none)
 (.seq (.reg [⟨some 15, none, .mov (.t 2)⟩, ⟨some 16, none, .mov (.t 1)⟩, ⟨some 17, none, .bin .sub (.t 15) (.t 16)⟩, ⟨some 10, none, .mov (.t 17)⟩] none)
 (.seq (.reg [⟨some 11, none, .alloc [.int .i64 0]⟩] none)
 (.seq (.reg [⟨some 18, none, .mov (.t 1)⟩, ⟨some 19, none, .mov (.t 10)⟩, ⟨some 20, none, .bin .quo (.t 19) (.c (.int .i64 4))⟩, ⟨some 21, none, .bin .mul (.t 20) (.c (.int .i64 1))⟩, ⟨some 22, none, .bin .add (.t 18) (.t 21)⟩, ⟨some 12, none, .mov (.t 22)⟩] none)
 (.seq (.reg [⟨some 23, none, .mov (.t 1)⟩, ⟨some 24, none, .mov (.t 10)⟩, ⟨some 25, none, .bin .quo (.t 24) (.c (.int .i64 4))⟩, ⟨some 26, none, .bin .mul (.t 25) (.c (.int .i64 2))⟩, ⟨some 27, none, .bin .add (.t 23) (.t 26)⟩, ⟨some 13, none, .mov (.t 27)⟩] none)
 (.seq (.reg [⟨some 28, none, .mov (.t 1)⟩, ⟨some 29, none, .mov (.t 10)⟩, ⟨some 30, none, .bin .quo (.t 29) (.c (.int .i64 4))⟩, ⟨some 31, none, .bin .mul (.t 30) (.c (.int .i64 3))⟩, ⟨some 32, none, .bin .add (.t 28) (.t 31)⟩, ⟨some 14, none, .mov (.t 32)⟩] none)
 (.seq (.seq (.reg [⟨some 33, none, .mov (.t 10)⟩, ⟨some 34, none, .bin .geq (.t 33) (.c (.int .i64 8))⟩] none)
 (.cond (.t 34) (.seq (.seq (.reg [⟨some 35, none, .mov (.t 10)⟩, ⟨some 36, none, .bin .geq (.t 35) (.c (.int .i64 50))⟩] none)
 (.cond (.t 36) (.seq (.reg [⟨some 37, none, .mov (.t 0)⟩, ⟨some 38, none, .mov (.t 12)⟩, ⟨some 39, none, .mov (.t 3)⟩, ⟨some 40, none, .call 82 [(.t 37), (.t 38), (.t 11), (.t 39)]⟩, ⟨some 12, none, .mov (.t 40)⟩] none)
 (.seq (.reg [⟨some 41, none, .mov (.t 0)⟩, ⟨some 42, none, .mov (.t 13)⟩, ⟨some 43, none, .mov (.t 3)⟩, ⟨some 44, none, .call 82 [(.t 41), (.t 42), (.t 11), (.t 43)]⟩, ⟨some 13, none, .mov (.t 44)⟩] none)
 (.reg [⟨some 45, none, .mov (.t 0)⟩, ⟨some 46, none, .mov (.t 14)⟩, ⟨some 47, none, .mov (.t 3)⟩, ⟨some 48, none, .call 82 [(.t 45), (.t 46), (.t 11), (.t 47)]⟩, ⟨some 14, none, .mov (.t 48)⟩] none))) .skip))
 (.reg [⟨some 49, none, .mov (.t 0)⟩, ⟨some 50, none, .mov (.t 12)⟩, ⟨some 51, none, .mov (.t 13)⟩, ⟨some 52, none, .mov (.t 14)⟩, ⟨some 53, none, .mov (.t 3)⟩, ⟨some 54, none, .call 83 [(.t 49), (.t 50), (.t 51), (.t 52), (.t 11), (.t 53)]⟩, ⟨some 13, none, .mov (.t 54)⟩] none)) .skip))
 (.seq (.reg [⟨some 55, none, .load none (.t 11)⟩] none)
 (.block 0 (.seq (.reg [⟨some 58, none, .bin .eql (.t 55) (.c (.int .i64 0))⟩, ⟨some 57, none, .mov (.t 58)⟩] none)
 (.cond (.t 57) (.seq (.reg [⟨some 59, none, .mov (.t 13)⟩, ⟨some 8, none, .mov (.t 59)⟩, ⟨some 9, none, .mov (.c (.int .i64 1))⟩] none)
 .ret) (.seq (.reg [⟨some 61, none, .bin .eql (.t 55) (.c (.int .i64 12))⟩, ⟨some 60, none, .mov (.t 61)⟩] none)
 (.cond (.t 60) (.seq (.reg [⟨some 62, none, .mov (.t 13)⟩, ⟨some 8, none, .mov (.t 62)⟩, ⟨some 9, none, .mov (.c (.int .i64 2))⟩] none)
 .ret) (.seq (.reg [⟨some 56, none, .mov (.t 13)⟩, ⟨some 8, none, .mov (.t 56)⟩, ⟨some 9, none, .mov (.c (.int .i64 0))⟩] none)
 .ret))))))))))))))
theorem f59 : FnIs Try.prog 59 63 c59 [.tmp 8, .tmp 9] := ⟨_, Try.func59, rfl, by kernel_rfl, rfl⟩
def c60 : AC := (.seq (.reg [⟨some 10, none, .mov (.t 1)⟩, ⟨some 8, none, .mov (.t 10)⟩] none)
 (.seq (.reg [⟨some 11, none, .mov (.t 2)⟩, ⟨some 12, none, .bin .sub (.t 11) (.c (.int .i64 1))⟩, ⟨some 9, none, .mov (.t 12)⟩] none)
 (.block 0 (.loop (.seq (.seq (.reg [⟨some 13, none, .mov (.t 8)⟩, ⟨some 14, none, .mov (.t 9)⟩, ⟨some 15, none, .bin .lss (.t 13) (.t 14)⟩] none)
 (.cond (.t 15) .skip (.exit 0)))
 (.block 1 (.seq (.reg [⟨some 16, none, .mov (.t 0)⟩, ⟨some 17, none, .mov (.t 8)⟩, ⟨some 18, none, .mov (.t 0)⟩, ⟨some 19, none, .mov (.t 9)⟩, ⟨some 20, none, .mov (.t 0)⟩, ⟨some 21, none, .mov (.t 9)⟩, ⟨some 22, none, .iaddr 2 (.t 20) (.t 21)⟩, ⟨some 23, none, .load (some 2) (.t 22)⟩, ⟨some 24, none, .mov (.t 0)⟩, ⟨some 25, none, .mov (.t 8)⟩, ⟨some 26, none, .iaddr 2 (.t 24) (.t 25)⟩, ⟨some 27, none, .load (some 2) (.t 26)⟩, ⟨some 28, none, .iaddr 2 (.t 16) (.t 17)⟩, ⟨none, none, .store 2 (.t 28) (.t 23)⟩, ⟨some 29, none, .iaddr 2 (.t 18) (.t 19)⟩, ⟨none, none, .store 2 (.t 29) (.t 27)⟩] (some [(7, 11)]))
 (.seq (.reg [⟨some 30, none, .mov (.t 8)⟩, ⟨some 31, none, .bin .add (.t 30) (.c (.int .i64 1))⟩, ⟨some 8, none, .mov (.t 31)⟩] none)
 (.reg [⟨some 32, none, .mov (.t 9)⟩, ⟨some 33, none, .bin .sub (.t 32) (.c (.int .i64 1))⟩, ⟨some 9, none, .mov (.t 33)⟩] none)))))))))
theorem f60 : FnIs Try.prog 60 34 c60 [] := ⟨_, Try.func60, rfl, by kernel_rfl, rfl⟩
def c61 : AC := (.seq (.reg [⟨some 8, none, .mov (.c (.bool false))⟩] none)
 (.seq (.reg [⟨some 13, none, .mov (.t 1)⟩, ⟨some 14, none, .bin .add (.t 13) (.c (.int .i64 1))⟩, ⟨some 9, none, .mov (.t 14)⟩] none)
 (.seq (.seq (.reg [⟨some 10, none, .mov (.c (.int .i64 0))⟩] none)
 (.block 0 (.loop (.seq (.seq (.reg [⟨some 15, none, .mov (.t 10)⟩, ⟨some 16, none, .bin .lss (.t 15) (.c (.int .i64 5))⟩] none)
 (.cond (.t 16) .skip (.exit 0)))
 (.seq (.block 1 (.seq (.block 2 (.loop (.seq (.seq (.reg [⟨some 19, none, .mov (.t 9)⟩, ⟨some 20, none, .mov (.t 2)⟩, ⟨some 21, none, .bin .lss (.t 19) (.t 20)⟩, ⟨some 22, none, .mov (.t 21)⟩, ⟨some 23, some (22, true), .mov (.t 3)⟩, ⟨some 24, some (22, true), .mov (.t 0)⟩, ⟨some 25, some (22, true), .mov (.t 9)⟩, ⟨some 26, some (22, true), .iaddr 2 (.t 24) (.t 25)⟩, ⟨some 27, some (22, true), .load (some 2) (.t 26)⟩, ⟨some 28, some (22, true), .mov (.t 0)⟩, ⟨some 29, some (22, true), .mov (.t 9)⟩, ⟨some 30, some (22, true), .bin .sub (.t 29) (.c (.int .i64 1))⟩, ⟨some 31, some (22, true), .iaddr 2 (.t 28) (.t 30)⟩, ⟨some 32, some (22, true), .load (some 2) (.t 31)⟩, ⟨some 33, some (22, true), .callv (.t 23) [(.t 27), (.t 32)]⟩, ⟨some 34, some (22, true), .bin .lss (.t 33) (.c (.int .i64 0))⟩, ⟨some 35, some (22, true), .un .not (.t 34)⟩, ⟨some 36, none, .pick (.t 22) (.t 35) (.c (.bool false))⟩] (some [(8, 13)]))
 (.cond (.t 36) .skip (.exit 2)))
 (.block 3 (.reg [⟨some 37, none, .mov (.t 9)⟩, ⟨some 38, none, .bin .add (.t 37) (.c (.int .i64 1))⟩, ⟨some 9, none, .mov (.t 38)⟩] none)))))
 (.seq (.seq (.reg [⟨some 39, none, .mov (.t 9)⟩, ⟨some 40, none, .mov (.t 2)⟩, ⟨some 41, none, .bin .eql (.t 39) (.t 40)⟩] none)
 (.cond (.t 41) (.seq (.reg [⟨some 8, none, .mov (.c (.bool true))⟩] none)
 .ret) .skip))
 (.seq (.seq (.reg [⟨some 42, none, .mov (.t 2)⟩, ⟨some 43, none, .mov (.t 1)⟩, ⟨some 44, none, .bin .sub (.t 42) (.t 43)⟩, ⟨some 45, none, .bin .lss (.t 44) (.c (.int .i64 50))⟩] none)
 (.cond (.t 45) (.seq (.reg [⟨some 8, none, .mov (.c (.bool false))⟩] none)
 .ret) .skip))
 (.seq (.reg [⟨some 46, none, .mov (.t 0)⟩, ⟨some 47, none, .mov (.t 9)⟩, ⟨some 48, none, .mov (.t 0)⟩, ⟨some 49, none, .mov (.t 9)⟩, ⟨some 50, none, .bin .sub (.t 49) (.c (.int .i64 1))⟩, ⟨some 51, none, .mov (.t 0)⟩, ⟨some 52, none, .mov (.t 9)⟩, ⟨some 53, none, .bin .sub (.t 52) (.c (.int .i64 1))⟩, ⟨some 54, none, .iaddr 2 (.t 51) (.t 53)⟩, ⟨some 55, none, .load (some 2) (.t 54)⟩, ⟨some 56, none, .mov (.t 0)⟩, ⟨some 57, none, .mov (.t 9)⟩, ⟨some 58, none, .iaddr 2 (.t 56) (.t 57)⟩, ⟨some 59, none, .load (some 2) (.t 58)⟩, ⟨some 60, none, .iaddr 2 (.t 46) (.t 47)⟩, ⟨none, none, .store 2 (.t 60) (.t 55)⟩, ⟨some 61, none, .iaddr 2 (.t 48) (.t 50)⟩, ⟨none, none, .store 2 (.t 61) (.t 59)⟩] (some [(9, 13)]))
 (.seq (.seq (.reg [⟨some 62, none, .mov (.t 9)⟩, ⟨some 63, none, .mov (.t 1)⟩, ⟨some 64, none, .bin .sub (.t 62) (.t 63)⟩, ⟨some 65, none, .bin .geq (.t 64) (.c (.int .i64 2))⟩] none)
 (.cond (.t 65) (.seq (.reg [⟨some 66, none, .mov (.t 9)⟩, ⟨some 67, none, .bin .sub (.t 66) (.c (.int .i64 1))⟩, ⟨some 11, none, .mov (.t 67)⟩] none)
 (.block 4 (.loop (.seq (.seq (.reg [⟨some 68, none, .mov (.t 11)⟩, ⟨some 69, none, .bin .geq (.t 68) (.c (.int .i64 1))⟩] none)
 (.cond (.t 69) .skip (.exit 4)))
 (.seq (.block 5 (.seq (.seq (.reg [⟨some 72, none, .mov (.t 3)⟩, ⟨some 73, none, .mov (.t 0)⟩, ⟨some 74, none, .mov (.t 11)⟩, ⟨some 75, none, .iaddr 2 (.t 73) (.t 74)⟩, ⟨some 76, none, .load (some 2) (.t 75)⟩, ⟨some 77, none, .mov (.t 0)⟩, ⟨some 78, none, .mov (.t 11)⟩, ⟨some 79, none, .bin .sub (.t 78) (.c (.int .i64 1))⟩, ⟨some 80, none, .iaddr 2 (.t 77) (.t 79)⟩, ⟨some 81, none, .load (some 2) (.t 80)⟩, ⟨some 82, none, .callv (.t 72) [(.t 76), (.t 81)]⟩, ⟨some 83, none, .bin .lss (.t 82) (.c (.int .i64 0))⟩, ⟨some 84, none, .un .not (.t 83)⟩] (some [(4, 9)]))
 (.cond (.t 84) (.exit 4) .skip))
 (.reg [⟨some 85, none, .mov (.t 0)⟩, ⟨some 86, none, .mov (.t 11)⟩, ⟨some 87, none, .mov (.t 0)⟩, ⟨some 88, none, .mov (.t 11)⟩, ⟨some 89, none, .bin .sub (.t 88) (.c (.int .i64 1))⟩, ⟨some 90, none, .mov (.t 0)⟩, ⟨some 91, none, .mov (.t 11)⟩, ⟨some 92, none, .bin .sub (.t 91) (.c (.int .i64 1))⟩, ⟨some 93, none, .iaddr 2 (.t 90) (.t 92)⟩, ⟨some 94, none, .load (some 2) (.t 93)⟩, ⟨some 95, none, .mov (.t 0)⟩, ⟨some 96, none, .mov (.t 11)⟩, ⟨some 97, none, .iaddr 2 (.t 95) (.t 96)⟩, ⟨some 98, none, .load (some 2) (.t 97)⟩, ⟨some 99, none, .iaddr 2 (.t 85) (.t 86)⟩, ⟨none, none, .store 2 (.t 99) (.t 94)⟩, ⟨some 100, none, .iaddr 2 (.t 87) (.t 89)⟩, ⟨none, none, .store 2 (.t 100) (.t 98)⟩] (some [(9, 13)]))))
 (.reg [⟨some 70, none, .mov (.t 11)⟩, ⟨some 71, none, .bin .sub (.t 70) (.c (.int .i64 1))⟩, ⟨some 11, none, .mov (.t 71)⟩] none)))))) .skip))
 (.seq (.reg [⟨some 101, none, .mov (.t 2)⟩, ⟨some 102, none, .mov (.t 9)⟩, ⟨some 103, none, .bin .sub (.t 101) (.t 102)⟩, ⟨some 104, none, .bin .geq (.t 103) (.c (.int .i64 2))⟩] none)
 (.cond (.t 104) (.seq (.reg [⟨some 105, none, .mov (.t 9)⟩, ⟨some 106, none, .bin .add (.t 105) (.c (.int .i64 1))⟩, ⟨some 12, none, .mov (.t 106)⟩] none)
 (.block 6 (.loop (.seq (.seq (.reg [⟨some 107, none, .mov (.t 12)⟩, ⟨some 108, none, .mov (.t 2)⟩, ⟨some 109, none, .bin .lss (.t 107) (.t 108)⟩] none)
 (.cond (.t 109) .skip (.exit 6)))
 (.seq (.block 7 (.seq (.seq (.reg [⟨some 112, none, .mov (.t 3)⟩, ⟨some 113, none, .mov (.t 0)⟩, ⟨some 114, none, .mov (.t 12)⟩, ⟨some 115, none, .iaddr 2 (.t 113) (.t 114)⟩, ⟨some 116, none, .load (some 2) (.t 115)⟩, ⟨some 117, none, .mov (.t 0)⟩, ⟨some 118, none, .mov (.t 12)⟩, ⟨some 119, none, .bin .sub (.t 118) (.c (.int .i64 1))⟩, ⟨some 120, none, .iaddr 2 (.t 117) (.t 119)⟩, ⟨some 121, none, .load (some 2) (.t 120)⟩, ⟨some 122, none, .callv (.t 112) [(.t 116), (.t 121)]⟩, ⟨some 123, none, .bin .lss (.t 122) (.c (.int .i64 0))⟩, ⟨some 124, none, .un .not (.t 123)⟩] (some [(4, 9)]))
 (.cond (.t 124) (.exit 6) .skip))
 (.reg [⟨some 125, none, .mov (.t 0)⟩, ⟨some 126, none, .mov (.t 12)⟩, ⟨some 127, none, .mov (.t 0)⟩, ⟨some 128, none, .mov (.t 12)⟩, ⟨some 129, none, .bin .sub (.t 128) (.c (.int .i64 1))⟩, ⟨some 130, none, .mov (.t 0)⟩, ⟨some 131, none, .mov (.t 12)⟩, ⟨some 132, none, .bin .sub (.t 131) (.c (.int .i64 1))⟩, ⟨some 133, none, .iaddr 2 (.t 130) (.t 132)⟩, ⟨some 134, none, .load (some 2) (.t 133)⟩, ⟨some 135, none, .mov (.t 0)⟩, ⟨some 136, none, .mov (.t 12)⟩, ⟨some 137, none, .iaddr 2 (.t 135) (.t 136)⟩, ⟨some 138, none, .load (some 2) (.t 137)⟩, ⟨some 139, none, .iaddr 2 (.t 125) (.t 126)⟩, ⟨none, none, .store 2 (.t 139) (.t 134)⟩, ⟨some 140, none, .iaddr 2 (.t 127) (.t 129)⟩, ⟨none, none, .store 2 (.t 140) (.t 138)⟩] (some [(9, 13)]))))
 (.reg [⟨some 110, none, .mov (.t 12)⟩, ⟨some 111, none, .bin .add (.t 110) (.c (.int .i64 1))⟩, ⟨some 12, none, .mov (.t 111)⟩] none)))))) .skip))))))))
 (.reg [⟨some 17, none, .mov (.t 10)⟩, ⟨some 18, none, .bin .add (.t 17) (.c (.int .i64 1))⟩, ⟨some 10, none, .mov (.t 18)⟩] none))))))
 (.seq (.reg [⟨some 8, none, .mov (.c (.bool false))⟩] none)
 .ret))))
theorem f61 : FnIs Try.prog 61 141 c61 [.tmp 8] := ⟨_, Try.func61, rfl, by kernel_rfl, rfl⟩
def c62 : AC := (.seq (.reg [⟨some 10, none, .mov (.c (.int .i64 0))⟩] none)
 (.seq (.reg [⟨some 13, none, .mov (.t 0)⟩, ⟨some 14, none, .mov (.t 1)⟩, ⟨some 15, none, .mov (.t 0)⟩, ⟨some 16, none, .mov (.t 3)⟩, ⟨some 17, none, .mov (.t 0)⟩, ⟨some 18, none, .mov (.t 3)⟩, ⟨some 19, none, .iaddr 2 (.t 17) (.t 18)⟩, ⟨some 20, none, .load (some 2) (.t 19)⟩, ⟨some 21, none, .mov (.t 0)⟩, ⟨some 22, none, .mov (.t 1)⟩, ⟨some 23, none, .iaddr 2 (.t 21) (.t 22)⟩, ⟨some 24, none, .load (some 2) (.t 23)⟩, ⟨some 25, none, .iaddr 2 (.t 13) (.t 14)⟩, ⟨none, none, .store 2 (.t 25) (.t 20)⟩, ⟨some 26, none, .iaddr 2 (.t 15) (.t 16)⟩, ⟨none, none, .store 2 (.t 26) (.t 24)⟩] (some [(7, 11)]))
 (.seq (.reg [⟨some 27, none, .mov (.t 1)⟩, ⟨some 28, none, .bin .add (.t 27) (.c (.int .i64 1))⟩, ⟨some 29, none, .mov (.t 2)⟩, ⟨some 30, none, .bin .sub (.t 29) (.c (.int .i64 1))⟩, ⟨some 11, none, .mov (.t 28)⟩, ⟨some 12, none, .mov (.t 30)⟩] none)
 (.seq (.block 0 (.loop (.block 1 (.seq (.block 2 (.loop (.seq (.seq (.reg [⟨some 31, none, .mov (.t 11)⟩, ⟨some 32, none, .mov (.t 12)⟩, ⟨some 33, none, .bin .leq (.t 31) (.t 32)⟩, ⟨some 34, none, .mov (.t 33)⟩, ⟨some 35, some (34, true), .mov (.t 4)⟩, ⟨some 36, some (34, true), .mov (.t 0)⟩, ⟨some 37, some (34, true), .mov (.t 1)⟩, ⟨some 38, some (34, true), .iaddr 2 (.t 36) (.t 37)⟩, ⟨some 39, some (34, true), .load (some 2) (.t 38)⟩, ⟨some 40, some (34, true), .mov (.t 0)⟩, ⟨some 41, some (34, true), .mov (.t 11)⟩, ⟨some 42, some (34, true), .iaddr 2 (.t 40) (.t 41)⟩, ⟨some 43, some (34, true), .load (some 2) (.t 42)⟩, ⟨some 44, some (34, true), .callv (.t 35) [(.t 39), (.t 43)]⟩, ⟨some 45, some (34, true), .bin .lss (.t 44) (.c (.int .i64 0))⟩, ⟨some 46, some (34, true), .un .not (.t 45)⟩, ⟨some 47, none, .pick (.t 34) (.t 46) (.c (.bool false))⟩] (some [(8, 12)]))
 (.cond (.t 47) .skip (.exit 2)))
 (.block 3 (.reg [⟨some 48, none, .mov (.t 11)⟩, ⟨some 49, none, .bin .add (.t 48) (.c (.int .i64 1))⟩, ⟨some 11, none, .mov (.t 49)⟩] none)))))
 (.seq (.block 4 (.loop (.seq (.seq (.reg [⟨some 50, none, .mov (.t 11)⟩, ⟨some 51, none, .mov (.t 12)⟩, ⟨some 52, none, .bin .leq (.t 50) (.t 51)⟩, ⟨some 53, none, .mov (.t 52)⟩, ⟨some 54, some (53, true), .mov (.t 4)⟩, ⟨some 55, some (53, true), .mov (.t 0)⟩, ⟨some 56, some (53, true), .mov (.t 1)⟩, ⟨some 57, some (53, true), .iaddr 2 (.t 55) (.t 56)⟩, ⟨some 58, some (53, true), .load (some 2) (.t 57)⟩, ⟨some 59, some (53, true), .mov (.t 0)⟩, ⟨some 60, some (53, true), .mov (.t 12)⟩, ⟨some 61, some (53, true), .iaddr 2 (.t 59) (.t 60)⟩, ⟨some 62, some (53, true), .load (some 2) (.t 61)⟩, ⟨some 63, some (53, true), .callv (.t 54) [(.t 58), (.t 62)]⟩, ⟨some 64, some (53, true), .bin .lss (.t 63) (.c (.int .i64 0))⟩, ⟨some 65, none, .pick (.t 53) (.t 64) (.c (.bool false))⟩] (some [(8, 12)]))
 (.cond (.t 65) .skip (.exit 4)))
 (.block 5 (.reg [⟨some 66, none, .mov (.t 12)⟩, ⟨some 67, none, .bin .sub (.t 66) (.c (.int .i64 1))⟩, ⟨some 12, none, .mov (.t 67)⟩] none)))))
 (.seq (.seq (.reg [⟨some 68, none, .mov (.t 11)⟩, ⟨some 69, none, .mov (.t 12)⟩, ⟨some 70, none, .bin .gtr (.t 68) (.t 69)⟩] none)
 (.cond (.t 70) (.exit 0) .skip))
 (.seq (.reg [⟨some 71, none, .mov (.t 0)⟩, ⟨some 72, none, .mov (.t 11)⟩, ⟨some 73, none, .mov (.t 0)⟩, ⟨some 74, none, .mov (.t 12)⟩, ⟨some 75, none, .mov (.t 0)⟩, ⟨some 76, none, .mov (.t 12)⟩, ⟨some 77, none, .iaddr 2 (.t 75) (.t 76)⟩, ⟨some 78, none, .load (some 2) (.t 77)⟩, ⟨some 79, none, .mov (.t 0)⟩, ⟨some 80, none, .mov (.t 11)⟩, ⟨some 81, none, .iaddr 2 (.t 79) (.t 80)⟩, ⟨some 82, none, .load (some 2) (.t 81)⟩, ⟨some 83, none, .iaddr 2 (.t 71) (.t 72)⟩, ⟨none, none, .store 2 (.t 83) (.t 78)⟩, ⟨some 84, none, .iaddr 2 (.t 73) (.t 74)⟩, ⟨none, none, .store 2 (.t 84) (.t 82)⟩] (some [(7, 11)]))
 (.seq (.reg [⟨some 85, none, .mov (.t 11)⟩, ⟨some 86, none, .bin .add (.t 85) (.c (.int .i64 1))⟩, ⟨some 11, none, .mov (.t 86)⟩] none)
 (.reg [⟨some 87, none, .mov (.t 12)⟩, ⟨some 88, none, .bin .sub (.t 87) (.c (.int .i64 1))⟩, ⟨some 12, none, .mov (.t 88)⟩] none)))))))))
 (.seq (.reg [⟨some 89, none, .mov (.t 11)⟩, ⟨some 10, none, .mov (.t 89)⟩] none)
 .ret)))))
theorem f62 : FnIs Try.prog 62 90 c62 [.tmp 10] := ⟨_, Try.func62, rfl, by kernel_rfl, rfl⟩
def c63 : AC := (.seq (.reg [⟨some 10, none, .mov (.c (.int .i64 0))⟩, ⟨some 11, none, .mov (.c (.bool false))⟩] none)
 (.seq (.reg [⟨some 14, none, .mov (.t 0)⟩, ⟨some 15, none, .mov (.t 1)⟩, ⟨some 16, none, .mov (.t 0)⟩, ⟨some 17, none, .mov (.t 3)⟩, ⟨some 18, none, .mov (.t 0)⟩, ⟨some 19, none, .mov (.t 3)⟩, ⟨some 20, none, .iaddr 2 (.t 18) (.t 19)⟩, ⟨some 21, none, .load (some 2) (.t 20)⟩, ⟨some 22, none, .mov (.t 0)⟩, ⟨some 23, none, .mov (.t 1)⟩, ⟨some 24, none, .iaddr 2 (.t 22) (.t 23)⟩, ⟨some 25, none, .load (some 2) (.t 24)⟩, ⟨some 26, none, .iaddr 2 (.t 14) (.t 15)⟩, ⟨none, none, .store 2 (.t 26) (.t 21)⟩, ⟨some 27, none, .iaddr 2 (.t 16) (.t 17)⟩, ⟨none, none, .store 2 (.t 27) (.t 25)⟩] (some [(7, 11)]))
 (.seq (.reg [⟨some 28, none, .mov (.t 1)⟩, ⟨some 29, none, .bin .add (.t 28) (.c (.int .i64 1))⟩, ⟨some 30, none, .mov (.t 2)⟩, ⟨some 31, none, .bin .sub (.t 30) (.c (.int .i64 1))⟩, ⟨some 12, none, .mov (.t 29)⟩, ⟨some 13, none, .mov (.t 31)⟩] none)
 (.seq (.block 0 (.loop (.seq (.seq (.reg [⟨some 32, none, .mov (.t 12)⟩, ⟨some 33, none, .mov (.t 13)⟩, ⟨some 34, none, .bin .leq (.t 32) (.t 33)⟩, ⟨some 35, none, .mov (.t 34)⟩, ⟨some 36, some (35, true), .mov (.t 4)⟩, ⟨some 37, some (35, true), .mov (.t 0)⟩, ⟨some 38, some (35, true), .mov (.t 12)⟩, ⟨some 39, some (35, true), .iaddr 2 (.t 37) (.t 38)⟩, ⟨some 40, some (35, true), .load (some 2) (.t 39)⟩, ⟨some 41, some (35, true), .mov (.t 0)⟩, ⟨some 42, some (35, true), .mov (.t 1)⟩, ⟨some 43, some (35, true), .iaddr 2 (.t 41) (.t 42)⟩, ⟨some 44, some (35, true), .load (some 2) (.t 43)⟩, ⟨some 45, some (35, true), .callv (.t 36) [(.t 40), (.t 44)]⟩, ⟨some 46, some (35, true), .bin .lss (.t 45) (.c (.int .i64 0))⟩, ⟨some 47, none, .pick (.t 35) (.t 46) (.c (.bool false))⟩] (some [(8, 12)]))
 (.cond (.t 47) .skip (.exit 0)))
 (.block 1 (.reg [⟨some 48, none, .mov (.t 12)⟩, ⟨some 49, none, .bin .add (.t 48) (.c (.int .i64 1))⟩, ⟨some 12, none, .mov (.t 49)⟩] none)))))
 (.seq (.block 2 (.loop (.seq (.seq (.reg [⟨some 50, none, .mov (.t 12)⟩, ⟨some 51, none, .mov (.t 13)⟩, ⟨some 52, none, .bin .leq (.t 50) (.t 51)⟩, ⟨some 53, none, .mov (.t 52)⟩, ⟨some 54, some (53, true), .mov (.t 4)⟩, ⟨some 55, some (53, true), .mov (.t 0)⟩, ⟨some 56, some (53, true), .mov (.t 13)⟩, ⟨some 57, some (53, true), .iaddr 2 (.t 55) (.t 56)⟩, ⟨some 58, some (53, true), .load (some 2) (.t 57)⟩, ⟨some 59, some (53, true), .mov (.t 0)⟩, ⟨some 60, some (53, true), .mov (.t 1)⟩, ⟨some 61, some (53, true), .iaddr 2 (.t 59) (.t 60)⟩, ⟨some 62, some (53, true), .load (some 2) (.t 61)⟩, ⟨some 63, some (53, true), .callv (.t 54) [(.t 58), (.t 62)]⟩, ⟨some 64, some (53, true), .bin .lss (.t 63) (.c (.int .i64 0))⟩, ⟨some 65, some (53, true), .un .not (.t 64)⟩, ⟨some 66, none, .pick (.t 53) (.t 65) (.c (.bool false))⟩] (some [(8, 12)]))
 (.cond (.t 66) .skip (.exit 2)))
 (.block 3 (.reg [⟨some 67, none, .mov (.t 13)⟩, ⟨some 68, none, .bin .sub (.t 67) (.c (.int .i64 1))⟩, ⟨some 13, none, .mov (.t 68)⟩] none)))))
 (.seq (.seq (.reg [⟨some 69, none, .mov (.t 12)⟩, ⟨some 70, none, .mov (.t 13)⟩, ⟨some 71, none, .bin .gtr (.t 69) (.t 70)⟩] none)
 (.cond (.t 71) (.seq (.reg [⟨some 72, none, .mov (.t 0)⟩, ⟨some 73, none, .mov (.t 13)⟩, ⟨some 74, none, .mov (.t 0)⟩, ⟨some 75, none, .mov (.t 1)⟩, ⟨some 76, none, .mov (.t 0)⟩, ⟨some 77, none, .mov (.t 1)⟩, ⟨some 78, none, .iaddr 2 (.t 76) (.t 77)⟩, ⟨some 79, none, .load (some 2) (.t 78)⟩, ⟨some 80, none, .mov (.t 0)⟩, ⟨some 81, none, .mov (.t 13)⟩, ⟨some 82, none, .iaddr 2 (.t 80) (.t 81)⟩, ⟨some 83, none, .load (some 2) (.t 82)⟩, ⟨some 84, none, .iaddr 2 (.t 72) (.t 73)⟩, ⟨none, none, .store 2 (.t 84) (.t 79)⟩, ⟨some 85, none, .iaddr 2 (.t 74) (.t 75)⟩, ⟨none, none, .store 2 (.t 85) (.t 83)⟩] (some [(7, 11)]))
 (.seq (.reg [⟨some 86, none, .mov (.t 13)⟩, ⟨some 10, none, .mov (.t 86)⟩, ⟨some 11, none, .mov (.c (.bool true))⟩] none)
 .ret)) .skip))
 (.seq (.reg [⟨some 87, none, .mov (.t 0)⟩, ⟨some 88, none, .mov (.t 12)⟩, ⟨some 89, none, .mov (.t 0)⟩, ⟨some 90, none, .mov (.t 13)⟩, ⟨some 91, none, .mov (.t 0)⟩, ⟨some 92, none, .mov (.t 13)⟩, ⟨some 93, none, .iaddr 2 (.t 91) (.t 92)⟩, ⟨some 94, none, .load (some 2) (.t 93)⟩, ⟨some 95, none, .mov (.t 0)⟩, ⟨some 96, none, .mov (.t 12)⟩, ⟨some 97, none, .iaddr 2 (.t 95) (.t 96)⟩, ⟨some 98, none, .load (some 2) (.t 97)⟩, ⟨some 99, none, .iaddr 2 (.t 87) (.t 88)⟩, ⟨none, none, .store 2 (.t 99) (.t 94)⟩, ⟨some 100, none, .iaddr 2 (.t 89) (.t 90)⟩, ⟨none, none, .store 2 (.t 100) (.t 98)⟩] (some [(7, 11)]))
 (.seq (.reg [⟨some 101, none, .mov (.t 12)⟩, ⟨some 102, none, .bin .add (.t 101) (.c (.int .i64 1))⟩, ⟨some 12, none, .mov (.t 102)⟩] none)
 (.seq (.reg [⟨some 103, none, .mov (.t 13)⟩, ⟨some 104, none, .bin .sub (.t 103) (.c (.int .i64 1))⟩, ⟨some 13, none, .mov (.t 104)⟩] none)
 (.seq (.block 4 (.loop (.block 5 (.seq (.block 6 (.loop (.seq (.seq (.reg [⟨some 105, none, .mov (.t 12)⟩, ⟨some 106, none, .mov (.t 13)⟩, ⟨some 107, none, .bin .leq (.t 105) (.t 106)⟩, ⟨some 108, none, .mov (.t 107)⟩, ⟨some 109, some (108, true), .mov (.t 4)⟩, ⟨some 110, some (108, true), .mov (.t 0)⟩, ⟨some 111, some (108, true), .mov (.t 12)⟩, ⟨some 112, some (108, true), .iaddr 2 (.t 110) (.t 111)⟩, ⟨some 113, some (108, true), .load (some 2) (.t 112)⟩, ⟨some 114, some (108, true), .mov (.t 0)⟩, ⟨some 115, some (108, true), .mov (.t 1)⟩, ⟨some 116, some (108, true), .iaddr 2 (.t 114) (.t 115)⟩, ⟨some 117, some (108, true), .load (some 2) (.t 116)⟩, ⟨some 118, some (108, true), .callv (.t 109) [(.t 113), (.t 117)]⟩, ⟨some 119, some (108, true), .bin .lss (.t 118) (.c (.int .i64 0))⟩, ⟨some 120, none, .pick (.t 108) (.t 119) (.c (.bool false))⟩] (some [(8, 12)]))
 (.cond (.t 120) .skip (.exit 6)))
 (.block 7 (.reg [⟨some 121, none, .mov (.t 12)⟩, ⟨some 122, none, .bin .add (.t 121) (.c (.int .i64 1))⟩, ⟨some 12, none, .mov (.t 122)⟩] none)))))
 (.seq (.block 8 (.loop (.seq (.seq (.reg [⟨some 123, none, .mov (.t 12)⟩, ⟨some 124, none, .mov (.t 13)⟩, ⟨some 125, none, .bin .leq (.t 123) (.t 124)⟩, ⟨some 126, none, .mov (.t 125)⟩, ⟨some 127, some (126, true), .mov (.t 4)⟩, ⟨some 128, some (126, true), .mov (.t 0)⟩, ⟨some 129, some (126, true), .mov (.t 13)⟩, ⟨some 130, some (126, true), .iaddr 2 (.t 128) (.t 129)⟩, ⟨some 131, some (126, true), .load (some 2) (.t 130)⟩, ⟨some 132, some (126, true), .mov (.t 0)⟩, ⟨some 133, some (126, true), .mov (.t 1)⟩, ⟨some 134, some (126, true), .iaddr 2 (.t 132) (.t 133)⟩, ⟨some 135, some (126, true), .load (some 2) (.t 134)⟩, ⟨some 136, some (126, true), .callv (.t 127) [(.t 131), (.t 135)]⟩, ⟨some 137, some (126, true), .bin .lss (.t 136) (.c (.int .i64 0))⟩, ⟨some 138, some (126, true), .un .not (.t 137)⟩, ⟨some 139, none, .pick (.t 126) (.t 138) (.c (.bool false))⟩] (some [(8, 12)]))
 (.cond (.t 139) .skip (.exit 8)))
 (.block 9 (.reg [⟨some 140, none, .mov (.t 13)⟩, ⟨some 141, none, .bin .sub (.t 140) (.c (.int .i64 1))⟩, ⟨some 13, none, .mov (.t 141)⟩] none)))))
 (.seq (.seq (.reg [⟨some 142, none, .mov (.t 12)⟩, ⟨some 143, none, .mov (.t 13)⟩, ⟨some 144, none, .bin .gtr (.t 142) (.t 143)⟩] none)
 (.cond (.t 144) (.exit 4) .skip))
 (.seq (.reg [⟨some 145, none, .mov (.t 0)⟩, ⟨some 146, none, .mov (.t 12)⟩, ⟨some 147, none, .mov (.t 0)⟩, ⟨some 148, none, .mov (.t 13)⟩, ⟨some 149, none, .mov (.t 0)⟩, ⟨some 150, none, .mov (.t 13)⟩, ⟨some 151, none, .iaddr 2 (.t 149) (.t 150)⟩, ⟨some 152, none, .load (some 2) (.t 151)⟩, ⟨some 153, none, .mov (.t 0)⟩, ⟨some 154, none, .mov (.t 12)⟩, ⟨some 155, none, .iaddr 2 (.t 153) (.t 154)⟩, ⟨some 156, none, .load (some 2) (.t 155)⟩, ⟨some 157, none, .iaddr 2 (.t 145) (.t 146)⟩, ⟨none, none, .store 2 (.t 157) (.t 152)⟩, ⟨some 158, none, .iaddr 2 (.t 147) (.t 148)⟩, ⟨none, none, .store 2 (.t 158) (.t 156)⟩] (some [(7, 11)]))
 (.seq (.reg [⟨some 159, none, .mov (.t 12)⟩, ⟨some 160, none, .bin .add (.t 159) (.c (.int .i64 1))⟩, ⟨some 12, none, .mov (.t 160)⟩] none)
 (.reg [⟨some 161, none, .mov (.t 13)⟩, ⟨some 162, none, .bin .sub (.t 161) (.c (.int .i64 1))⟩, ⟨some 13, none, .mov (.t 162)⟩] none)))))))))
 (.seq (.reg [⟨some 163, none, .mov (.t 0)⟩, ⟨some 164, none, .mov (.t 13)⟩, ⟨some 165, none, .mov (.t 0)⟩, ⟨some 166, none, .mov (.t 1)⟩, ⟨some 167, none, .mov (.t 0)⟩, ⟨some 168, none, .mov (.t 1)⟩, ⟨some 169, none, .iaddr 2 (.t 167) (.t 168)⟩, ⟨some 170, none, .load (some 2) (.t 169)⟩, ⟨some 171, none, .mov (.t 0)⟩, ⟨some 172, none, .mov (.t 13)⟩, ⟨some 173, none, .iaddr 2 (.t 171) (.t 172)⟩, ⟨some 174, none, .load (some 2) (.t 173)⟩, ⟨some 175, none, .iaddr 2 (.t 163) (.t 164)⟩, ⟨none, none, .store 2 (.t 175) (.t 170)⟩, ⟨some 176, none, .iaddr 2 (.t 165) (.t 166)⟩, ⟨none, none, .store 2 (.t 176) (.t 174)⟩] (some [(7, 11)]))
 (.seq (.reg [⟨some 177, none, .mov (.t 13)⟩, ⟨some 10, none, .mov (.t 177)⟩, ⟨some 11, none, .mov (.c (.bool false))⟩] none)
 .ret))))))))))))
theorem f63 : FnIs Try.prog 63 178 c63 [.tmp 10, .tmp 11] := ⟨_, Try.func63, rfl, by kernel_rfl, rfl⟩
def c64 : AC := (.seq (.reg [⟨some 2, none, .mov (.c (.int .i64 0))⟩] none)
 (.seq (.seq (.reg [⟨some 3, none, .mov (.t 0)⟩, ⟨some 4, none, .bin .geq (.t 3) (.c (.int .u32 65536))⟩] none)
 (.cond (.t 4) (.seq (.reg [⟨some 5, none, .mov (.t 0)⟩, ⟨some 6, none, .bin .shr (.t 5) (.c (.int .u64 16))⟩, ⟨some 0, none, .mov (.t 6)⟩] none)
 (.reg [⟨some 2, none, .mov (.c (.int .i64 16))⟩] none)) .skip))
 (.seq (.seq (.reg [⟨some 7, none, .mov (.t 0)⟩, ⟨some 8, none, .bin .geq (.t 7) (.c (.int .u32 256))⟩] none)
 (.cond (.t 8) (.seq (.reg [⟨some 9, none, .mov (.t 0)⟩, ⟨some 10, none, .bin .shr (.t 9) (.c (.int .u64 8))⟩, ⟨some 0, none, .mov (.t 10)⟩] none)
 (.reg [⟨some 11, none, .mov (.t 2)⟩, ⟨some 12, none, .bin .add (.t 11) (.c (.int .i64 8))⟩, ⟨some 2, none, .mov (.t 12)⟩] none)) .skip))
 (.seq (.reg [⟨some 13, none, .mov (.t 2)⟩, ⟨some 14, none, .mov (.t 0)⟩, ⟨some 15, none, .conv (.toInt .u8) (.t 14)⟩, ⟨some 16, none, .idx (.c (.str [0, 1, 2, 2, 3, 3, 3, 3, 4, 4, 4, 4, 4, 4, 4, 4, 5, 5, 5, 5, 5, 5, 5, 5, 5, 5, 5, 5, 5, 5, 5, 5, 6, 6, 6, 6, 6, 6, 6, 6, 6, 6, 6, 6, 6, 6, 6, 6, 6, 6, 6, 6, 6, 6, 6, 6, 6, 6, 6, 6, 6, 6, 6, 6, 7, 7, 7, 7, 7, 7, 7, 7, 7, 7, 7, 7, 7, 7, 7, 7, 7, 7, 7, 7, 7, 7, 7, 7, 7, 7, 7, 7, 7, 7, 7, 7, 7, 7, 7, 7, 7, 7, 7, 7, 7, 7, 7, 7, 7, 7, 7, 7, 7, 7, 7, 7, 7, 7, 7, 7, 7, 7, 7, 7, 7, 7, 7, 7, 8, 8, 8, 8, 8, 8, 8, 8, 8, 8, 8, 8, 8, 8, 8, 8, 8, 8, 8, 8, 8, 8, 8, 8, 8, 8, 8, 8, 8, 8, 8, 8, 8, 8, 8, 8, 8, 8, 8, 8, 8, 8, 8, 8, 8, 8, 8, 8, 8, 8, 8, 8, 8, 8, 8, 8, 8, 8, 8, 8, 8, 8, 8, 8, 8, 8, 8, 8, 8, 8, 8, 8, 8, 8, 8, 8, 8, 8, 8, 8, 8, 8, 8, 8, 8, 8, 8, 8, 8, 8, 8, 8, 8, 8, 8, 8, 8, 8, 8, 8, 8, 8, 8, 8, 8, 8, 8, 8, 8, 8, 8, 8, 8, 8, 8, 8, 8, 8, 8, 8, 8, 8, 8, 8, 8, 8, 8, 8])) (.t 15)⟩, ⟨some 17, none, .conv (.toInt .i64) (.t 16)⟩, ⟨some 18, none, .bin .add (.t 13) (.t 17)⟩, ⟨some 2, none, .mov (.t 18)⟩] none)
 .ret))))
theorem f64 : FnIs Try.prog 64 19 c64 [.tmp 2] := ⟨_, Try.func64, rfl, by kernel_rfl, rfl⟩
def c65 : AC := (.seq (.reg [⟨some 2, none, .mov (.c (.int .i64 0))⟩] none)
 (.seq (.seq (.reg [⟨some 3, none, .mov (.t 0)⟩, ⟨some 4, none, .bin .geq (.t 3) (.c (.int .u64 4294967296))⟩] none)
 (.cond (.t 4) (.seq (.reg [⟨some 5, none, .mov (.t 0)⟩, ⟨some 6, none, .bin .shr (.t 5) (.c (.int .u64 32))⟩, ⟨some 0, none, .mov (.t 6)⟩] none)
 (.reg [⟨some 2, none, .mov (.c (.int .i64 32))⟩] none)) .skip))
 (.seq (.seq (.reg [⟨some 7, none, .mov (.t 0)⟩, ⟨some 8, none, .bin .geq (.t 7) (.c (.int .u64 65536))⟩] none)
 (.cond (.t 8) (.seq (.reg [⟨some 9, none, .mov (.t 0)⟩, ⟨some 10, none, .bin .shr (.t 9) (.c (.int .u64 16))⟩, ⟨some 0, none, .mov (.t 10)⟩] none)
 (.reg [⟨some 11, none, .mov (.t 2)⟩, ⟨some 12, none, .bin .add (.t 11) (.c (.int .i64 16))⟩, ⟨some 2, none, .mov (.t 12)⟩] none)) .skip))
 (.seq (.seq (.reg [⟨some 13, none, .mov (.t 0)⟩, ⟨some 14, none, .bin .geq (.t 13) (.c (.int .u64 256))⟩] none)
 (.cond (.t 14) (.seq (.reg [⟨some 15, none, .mov (.t 0)⟩, ⟨some 16, none, .bin .shr (.t 15) (.c (.int .u64 8))⟩, ⟨some 0, none, .mov (.t 16)⟩] none)
 (.reg [⟨some 17, none, .mov (.t 2)⟩, ⟨some 18, none, .bin .add (.t 17) (.c (.int .i64 8))⟩, ⟨some 2, none, .mov (.t 18)⟩] none)) .skip))
 (.seq (.reg [⟨some 19, none, .mov (.t 2)⟩, ⟨some 20, none, .mov (.t 0)⟩, ⟨some 21, none, .conv (.toInt .u8) (.t 20)⟩, ⟨some 22, none, .idx (.c (.str [0, 1, 2, 2, 3, 3, 3, 3, 4, 4, 4, 4, 4, 4, 4, 4, 5, 5, 5, 5, 5, 5, 5, 5, 5, 5, 5, 5, 5, 5, 5, 5, 6, 6, 6, 6, 6, 6, 6, 6, 6, 6, 6, 6, 6, 6, 6, 6, 6, 6, 6, 6, 6, 6, 6, 6, 6, 6, 6, 6, 6, 6, 6, 6, 7, 7, 7, 7, 7, 7, 7, 7, 7, 7, 7, 7, 7, 7, 7, 7, 7, 7, 7, 7, 7, 7, 7, 7, 7, 7, 7, 7, 7, 7, 7, 7, 7, 7, 7, 7, 7, 7, 7, 7, 7, 7, 7, 7, 7, 7, 7, 7, 7, 7, 7, 7, 7, 7, 7, 7, 7, 7, 7, 7, 7, 7, 7, 7, 8, 8, 8, 8, 8, 8, 8, 8, 8, 8, 8, 8, 8, 8, 8, 8, 8, 8, 8, 8, 8, 8, 8, 8, 8, 8, 8, 8, 8, 8, 8, 8, 8, 8, 8, 8, 8, 8, 8, 8, 8, 8, 8, 8, 8, 8, 8, 8, 8, 8, 8, 8, 8, 8, 8, 8, 8, 8, 8, 8, 8, 8, 8, 8, 8, 8, 8, 8, 8, 8, 8, 8, 8, 8, 8, 8, 8, 8, 8, 8, 8, 8, 8, 8, 8, 8, 8, 8, 8, 8, 8, 8, 8, 8, 8, 8, 8, 8, 8, 8, 8, 8, 8, 8, 8, 8, 8, 8, 8, 8, 8, 8, 8, 8, 8, 8, 8, 8, 8, 8, 8, 8, 8, 8, 8, 8, 8, 8])) (.t 21)⟩, ⟨some 23, none, .conv (.toInt .i64) (.t 22)⟩, ⟨some 24, none, .bin .add (.t 19) (.t 23)⟩, ⟨some 2, none, .mov (.t 24)⟩] none)
 .ret)))))
theorem f65 : FnIs Try.prog 65 25 c65 [.tmp 2] := ⟨_, Try.func65, rfl, by kernel_rfl, rfl⟩
def c66 : AC := (.seq (.reg [⟨some 1, none, .box (.t 0)⟩, ⟨some 2, none, .mov (.c (.bool false))⟩] none)
 (.seq (.reg [⟨some 3, none, .faddr 0 (.t 1)⟩, ⟨some 4, none, .load none (.t 3)⟩, ⟨some 5, none, .bin .geq (.t 4) (.c (.int .i64 1))⟩, ⟨some 6, none, .mov (.t 5)⟩, ⟨some 7, some (6, true), .faddr 0 (.t 1)⟩, ⟨some 8, some (6, true), .load none (.t 7)⟩, ⟨some 9, some (6, true), .bin .leq (.t 8) (.c (.int .i64 1152921504606846976))⟩, ⟨some 10, none, .pick (.t 6) (.t 9) (.c (.bool false))⟩, ⟨some 11, none, .mov (.t 10)⟩, ⟨some 12, some (11, true), .faddr 1 (.t 1)⟩, ⟨some 13, some (11, true), .load none (.t 12)⟩, ⟨some 14, some (11, true), .len true (.t 13)⟩, ⟨some 15, some (11, true), .bin .leq (.t 14) (.c (.int .i64 200))⟩, ⟨some 16, none, .pick (.t 11) (.t 15) (.c (.bool false))⟩, ⟨some 17, none, .mov (.t 16)⟩, ⟨some 18, some (17, true), .faddr 2 (.t 1)⟩, ⟨some 19, some (17, true), .load none (.t 18)⟩, ⟨some 20, some (17, true), .un .not (.t 19)⟩, ⟨some 21, some (17, true), .mov (.t 20)⟩, ⟨some 22, some (21, false), .faddr 1 (.t 1)⟩, ⟨some 23, some (21, false), .load none (.t 22)⟩, ⟨some 24, some (21, false), .bin .eql (.t 23) (.c (.str []))⟩, ⟨some 25, some (17, true), .pick (.t 21) (.c (.bool true)) (.t 24)⟩, ⟨some 26, none, .pick (.t 17) (.t 25) (.c (.bool false))⟩, ⟨some 2, none, .mov (.t 26)⟩] none)
 .ret))
theorem f66 : FnIs Try.prog 66 27 c66 [.tmp 2] := ⟨_, Try.func66, rfl, by kernel_rfl, rfl⟩
def c67 : AC := (.seq (.reg [⟨some 8, none, .mov (.t 1)⟩, ⟨some 9, none, .bin .add (.t 8) (.c (.int .i64 1))⟩, ⟨some 6, none, .mov (.t 9)⟩] none)
 (.block 0 (.loop (.seq (.seq (.reg [⟨some 10, none, .mov (.t 6)⟩, ⟨some 11, none, .mov (.t 2)⟩, ⟨some 12, none, .bin .lss (.t 10) (.t 11)⟩] none)
 (.cond (.t 12) .skip (.exit 0)))
 (.seq (.block 1 (.seq (.reg [⟨some 15, none, .mov (.t 6)⟩, ⟨some 7, none, .mov (.t 15)⟩] none)
 (.block 2 (.loop (.seq (.seq (.reg [⟨some 16, none, .mov (.t 7)⟩, ⟨some 17, none, .mov (.t 1)⟩, ⟨some 18, none, .bin .gtr (.t 16) (.t 17)⟩, ⟨some 19, none, .mov (.t 18)⟩, ⟨some 20, some (19, true), .mov (.t 0)⟩, ⟨some 21, some (19, true), .mov (.t 7)⟩, ⟨some 22, some (19, true), .iaddr 1 (.t 20) (.t 21)⟩, ⟨some 23, some (19, true), .load none (.t 22)⟩, ⟨some 24, some (19, true), .mov (.t 0)⟩, ⟨some 25, some (19, true), .mov (.t 7)⟩, ⟨some 26, some (19, true), .bin .sub (.t 25) (.c (.int .i64 1))⟩, ⟨some 27, some (19, true), .iaddr 1 (.t 24) (.t 26)⟩, ⟨some 28, some (19, true), .load none (.t 27)⟩, ⟨some 29, some (19, true), .call 73 [(.t 23), (.t 28)]⟩, ⟨some 30, none, .pick (.t 19) (.t 29) (.c (.bool false))⟩] (some [(7, 12)]))
 (.cond (.t 30) .skip (.exit 2)))
 (.seq (.block 3 (.reg [⟨some 33, none, .mov (.t 0)⟩, ⟨some 34, none, .mov (.t 7)⟩, ⟨some 35, none, .mov (.t 0)⟩, ⟨some 36, none, .mov (.t 7)⟩, ⟨some 37, none, .bin .sub (.t 36) (.c (.int .i64 1))⟩, ⟨some 38, none, .mov (.t 0)⟩, ⟨some 39, none, .mov (.t 7)⟩, ⟨some 40, none, .bin .sub (.t 39) (.c (.int .i64 1))⟩, ⟨some 41, none, .iaddr 1 (.t 38) (.t 40)⟩, ⟨some 42, none, .load none (.t 41)⟩, ⟨some 43, none, .mov (.t 0)⟩, ⟨some 44, none, .mov (.t 7)⟩, ⟨some 45, none, .iaddr 1 (.t 43) (.t 44)⟩, ⟨some 46, none, .load none (.t 45)⟩, ⟨some 47, none, .iaddr 1 (.t 33) (.t 34)⟩, ⟨none, none, .store 1 (.t 47) (.t 42)⟩, ⟨some 48, none, .iaddr 1 (.t 35) (.t 37)⟩, ⟨none, none, .store 1 (.t 48) (.t 46)⟩] (some [(9, 13)])))
 (.reg [⟨some 31, none, .mov (.t 7)⟩, ⟨some 32, none, .bin .sub (.t 31) (.c (.int .i64 1))⟩, ⟨some 7, none, .mov (.t 32)⟩] none)))))))
 (.reg [⟨some 13, none, .mov (.t 6)⟩, ⟨some 14, none, .bin .add (.t 13) (.c (.int .i64 1))⟩, ⟨some 6, none, .mov (.t 14)⟩] none))))))
theorem f67 : FnIs Try.prog 67 49 c67 [] := ⟨_, Try.func67, rfl, by kernel_rfl, rfl⟩
def c68 : AC := (.seq (.reg [⟨some 11, none, .mov (.t 1)⟩, ⟨some 6, none, .mov (.t 11)⟩] none)
 (.seq (.reg [⟨some 7, none, .mov (.c (.int .i64 0))⟩] none)
 (.seq (.reg [⟨some 12, none, .mov (.t 2)⟩, ⟨some 13, none, .mov (.t 1)⟩, ⟨some 14, none, .bin .sub (.t 12) (.t 13)⟩, ⟨some 8, none, .mov (.t 14)⟩] none)
 (.seq (.seq (.reg [⟨some 15, none, .mov (.t 8)⟩, ⟨some 16, none, .bin .sub (.t 15) (.c (.int .i64 1))⟩, ⟨some 17, none, .bin .quo (.t 16) (.c (.int .i64 2))⟩, ⟨some 9, none, .mov (.t 17)⟩] none)
 (.block 0 (.loop (.seq (.seq (.reg [⟨some 18, none, .mov (.t 9)⟩, ⟨some 19, none, .bin .geq (.t 18) (.c (.int .i64 0))⟩] none)
 (.cond (.t 19) .skip (.exit 0)))
 (.seq (.block 1 (.reg [⟨some 22, none, .mov (.t 0)⟩, ⟨some 23, none, .mov (.t 9)⟩, ⟨some 24, none, .mov (.t 8)⟩, ⟨some 25, none, .mov (.t 6)⟩, ⟨some 26, none, .call 84 [(.t 22), (.t 23), (.t 24), (.t 25)]⟩] none))
 (.reg [⟨some 20, none, .mov (.t 9)⟩, ⟨some 21, none, .bin .sub (.t 20) (.c (.int .i64 1))⟩, ⟨some 9, none, .mov (.t 21)⟩] none))))))
 (.seq (.reg [⟨some 27, none, .mov (.t 8)⟩, ⟨some 28, none, .bin .sub (.t 27) (.c (.int .i64 1))⟩, ⟨some 10, none, .mov (.t 28)⟩] none)
 (.block 2 (.loop (.seq (.seq (.reg [⟨some 29, none, .mov (.t 10)⟩, ⟨some 30, none, .bin .geq (.t 29) (.c (.int .i64 0))⟩] none)
 (.cond (.t 30) .skip (.exit 2)))
 (.seq (.block 3 (.seq (.reg [⟨some 33, none, .mov (.t 0)⟩, ⟨some 34, none, .mov (.t 6)⟩, ⟨some 35, none, .mov (.t 0)⟩, ⟨some 36, none, .mov (.t 6)⟩, ⟨some 37, none, .mov (.t 10)⟩, ⟨some 38, none, .bin .add (.t 36) (.t 37)⟩, ⟨some 39, none, .mov (.t 0)⟩, ⟨some 40, none, .mov (.t 6)⟩, ⟨some 41, none, .mov (.t 10)⟩, ⟨some 42, none, .bin .add (.t 40) (.t 41)⟩, ⟨some 43, none, .iaddr 1 (.t 39) (.t 42)⟩, ⟨some 44, none, .load none (.t 43)⟩, ⟨some 45, none, .mov (.t 0)⟩, ⟨some 46, none, .mov (.t 6)⟩, ⟨some 47, none, .iaddr 1 (.t 45) (.t 46)⟩, ⟨some 48, none, .load none (.t 47)⟩, ⟨some 49, none, .iaddr 1 (.t 33) (.t 34)⟩, ⟨none, none, .store 1 (.t 49) (.t 44)⟩, ⟨some 50, none, .iaddr 1 (.t 35) (.t 38)⟩, ⟨none, none, .store 1 (.t 50) (.t 48)⟩] (some [(11, 15)]))
 (.reg [⟨some 51, none, .mov (.t 0)⟩, ⟨some 52, none, .mov (.t 7)⟩, ⟨some 53, none, .mov (.t 10)⟩, ⟨some 54, none, .mov (.t 6)⟩, ⟨some 55, none, .call 84 [(.t 51), (.t 52), (.t 53), (.t 54)]⟩] none)))
 (.reg [⟨some 31, none, .mov (.t 10)⟩, ⟨some 32, none, .bin .sub (.t 31) (.c (.int .i64 1))⟩, ⟨some 10, none, .mov (.t 32)⟩] none))))))))))
theorem f68 : FnIs Try.prog 68 56 c68 [] := ⟨_, Try.func68, rfl, by kernel_rfl, rfl⟩
def c69 : AC := (.seq (.reg [⟨some 11, none, .mov (.t 2)⟩, ⟨some 12, none, .mov (.t 1)⟩, ⟨some 13, none, .bin .sub (.t 11) (.t 12)⟩, ⟨some 6, none, .mov (.t 13)⟩] none)
 (.seq (.reg [⟨some 14, none, .mov (.t 6)⟩, ⟨some 15, none, .bin .geq (.t 14) (.c (.int .i64 8))⟩] none)
 (.cond (.t 15) (.seq (.reg [⟨some 16, none, .mov (.t 6)⟩, ⟨some 17, none, .conv (.toInt .u64) (.t 16)⟩, ⟨some 7, none, .alloc [.int .u64 0]⟩, ⟨none, none, .store 1 (.t 7) (.t 17)⟩] none)
 (.seq (.reg [⟨some 18, none, .mov (.t 6)⟩, ⟨some 19, none, .call 80 [(.t 18)]⟩, ⟨some 8, none, .mov (.t 19)⟩] none)
 (.seq (.reg [⟨some 20, none, .mov (.t 1)⟩, ⟨some 21, none, .mov (.t 6)⟩, ⟨some 22, none, .bin .quo (.t 21) (.c (.int .i64 4))⟩, ⟨some 23, none, .bin .mul (.t 22) (.c (.int .i64 2))⟩, ⟨some 24, none, .bin .add (.t 20) (.t 23)⟩, ⟨some 25, none, .bin .sub (.t 24) (.c (.int .i64 1))⟩, ⟨some 9, none, .mov (.t 25)⟩] none)
 (.block 0 (.loop (.seq (.seq (.reg [⟨some 26, none, .mov (.t 9)⟩, ⟨some 27, none, .mov (.t 1)⟩, ⟨some 28, none, .mov (.t 6)⟩, ⟨some 29, none, .bin .quo (.t 28) (.c (.int .i64 4))⟩, ⟨some 30, none, .bin .mul (.t 29) (.c (.int .i64 2))⟩, ⟨some 31, none, .bin .add (.t 27) (.t 30)⟩, ⟨some 32, none, .bin .add (.t 31) (.c (.int .i64 1))⟩, ⟨some 33, none, .bin .leq (.t 26) (.t 32)⟩] none)
 (.cond (.t 33) .skip (.exit 0)))
 (.seq (.block 1 (.seq (.reg [⟨some 36, none, .call 81 [(.t 7)]⟩, ⟨some 37, none, .mov (.t 8)⟩, ⟨some 38, none, .bin .sub (.t 37) (.c (.int .u64 1))⟩, ⟨some 39, none, .bin .and (.t 36) (.t 38)⟩, ⟨some 40, none, .conv (.toInt .i64) (.t 39)⟩, ⟨some 10, none, .mov (.t 40)⟩] none)
 (.seq (.seq (.reg [⟨some 41, none, .mov (.t 10)⟩, ⟨some 42, none, .mov (.t 6)⟩, ⟨some 43, none, .bin .geq (.t 41) (.t 42)⟩] none)
 (.cond (.t 43) (.reg [⟨some 44, none, .mov (.t 10)⟩, ⟨some 45, none, .mov (.t 6)⟩, ⟨some 46, none, .bin .sub (.t 44) (.t 45)⟩, ⟨some 10, none, .mov (.t 46)⟩] none) .skip))
 (.reg [⟨some 47, none, .mov (.t 0)⟩, ⟨some 48, none, .mov (.t 9)⟩, ⟨some 49, none, .mov (.t 0)⟩, ⟨some 50, none, .mov (.t 1)⟩, ⟨some 51, none, .mov (.t 10)⟩, ⟨some 52, none, .bin .add (.t 50) (.t 51)⟩, ⟨some 53, none, .mov (.t 0)⟩, ⟨some 54, none, .mov (.t 1)⟩, ⟨some 55, none, .mov (.t 10)⟩, ⟨some 56, none, .bin .add (.t 54) (.t 55)⟩, ⟨some 57, none, .iaddr 1 (.t 53) (.t 56)⟩, ⟨some 58, none, .load none (.t 57)⟩, ⟨some 59, none, .mov (.t 0)⟩, ⟨some 60, none, .mov (.t 9)⟩, ⟨some 61, none, .iaddr 1 (.t 59) (.t 60)⟩, ⟨some 62, none, .load none (.t 61)⟩, ⟨some 63, none, .iaddr 1 (.t 47) (.t 48)⟩, ⟨none, none, .store 1 (.t 63) (.t 58)⟩, ⟨some 64, none, .iaddr 1 (.t 49) (.t 52)⟩, ⟨none, none, .store 1 (.t 64) (.t 62)⟩] (some [(11, 15)])))))
 (.reg [⟨some 34, none, .mov (.t 9)⟩, ⟨some 35, none, .bin .add (.t 34) (.c (.int .i64 1))⟩, ⟨some 9, none, .mov (.t 35)⟩] none)))))))) .skip)))
theorem f69 : FnIs Try.prog 69 65 c69 [] := ⟨_, Try.func69, rfl, by kernel_rfl, rfl⟩
def c70 : AC := (.seq (.reg [⟨some 6, none, .mov (.c (.int .i64 0))⟩, ⟨some 7, none, .mov (.c (.int .i64 0))⟩] none)
 (.seq (.reg [⟨some 13, none, .mov (.t 2)⟩, ⟨some 14, none, .mov (.t 1)⟩, ⟨some 15, none, .bin .sub (.t 13) (.t 14)⟩, ⟨some 8, none, .mov (.t 15)⟩] none)
 (.seq (.reg [⟨some 9, none, .alloc [.int .i64 0]⟩] none)
 (.seq (.reg [⟨some 16, none, .mov (.t 1)⟩, ⟨some 17, none, .mov (.t 8)⟩, ⟨some 18, none, .bin .quo (.t 17) (.c (.int .i64 4))⟩, ⟨some 19, none, .bin .mul (.t 18) (.c (.int .i64 1))⟩, ⟨some 20, none, .bin .add (.t 16) (.t 19)⟩, ⟨some 10, none, .mov (.t 20)⟩] none)
 (.seq (.reg [⟨some 21, none, .mov (.t 1)⟩, ⟨some 22, none, .mov (.t 8)⟩, ⟨some 23, none, .bin .quo (.t 22) (.c (.int .i64 4))⟩, ⟨some 24, none, .bin .mul (.t 23) (.c (.int .i64 2))⟩, ⟨some 25, none, .bin .add (.t 21) (.t 24)⟩, ⟨some 11, none, .mov (.t 25)⟩] none)
 (.seq (.reg [⟨some 26, none, .mov (.t 1)⟩, ⟨some 27, none, .mov (.t 8)⟩, ⟨some 28, none, .bin .quo (.t 27) (.c (.int .i64 4))⟩, ⟨some 29, none, .bin .mul (.t 28) (.c (.int .i64 3))⟩, ⟨some 30, none, .bin .add (.t 26) (.t 29)⟩, ⟨some 12, none, .mov (.t 30)⟩] none)
 (.seq (.seq (.reg [⟨some 31, none, .mov (.t 8)⟩, ⟨some 32, none, .bin .geq (.t 31) (.c (.int .i64 8))⟩] none)
 (.cond (.t 32) (.seq (.seq (.reg [⟨some 33, none, .mov (.t 8)⟩, ⟨some 34, none, .bin .geq (.t 33) (.c (.int .i64 50))⟩] none)
 (.cond (.t 34) (.seq (.reg [⟨some 35, none, .mov (.t 0)⟩, ⟨some 36, none, .mov (.t 10)⟩, ⟨some 37, none, .call 85 [(.t 35), (.t 36), (.t 9)]⟩, ⟨some 10, none, .mov (.t 37)⟩] none)
 (.seq (.reg [⟨some 38, none, .mov (.t 0)⟩, ⟨some 39, none, .mov (.t 11)⟩, ⟨some 40, none, .call 85 [(.t 38), (.t 39), (.t 9)]⟩, ⟨some 11, none, .mov (.t 40)⟩] none)
 (.reg [⟨some 41, none, .mov (.t 0)⟩, ⟨some 42, none, .mov (.t 12)⟩, ⟨some 43, none, .call 85 [(.t 41), (.t 42), (.t 9)]⟩, ⟨some 12, none, .mov (.t 43)⟩] none))) .skip))
 (.reg [⟨some 44, none, .mov (.t 0)⟩, ⟨some 45, none, .mov (.t 10)⟩, ⟨some 46, none, .mov (.t 11)⟩, ⟨some 47, none, .mov (.t 12)⟩, ⟨some 48, none, .call 86 [(.t 44), (.t 45), (.t 46), (.t 47), (.t 9)]⟩, ⟨some 11, none, .mov (.t 48)⟩] none)) .skip))
 (.seq (.reg [⟨some 49, none, .load none (.t 9)⟩] none)
 (.block 0 (.seq (.reg [⟨some 52, none, .bin .eql (.t 49) (.c (.int .i64 0))⟩, ⟨some 51, none, .mov (.t 52)⟩] none)
 (.cond (.t 51) (.seq (.reg [⟨some 53, none, .mov (.t 11)⟩, ⟨some 6, none, .mov (.t 53)⟩, ⟨some 7, none, .mov (.c (.int .i64 1))⟩] none)
 .ret) (.seq (.reg [⟨some 55, none, .bin .eql (.t 49) (.c (.int .i64 12))⟩, ⟨some 54, none, .mov (.t 55)⟩] none)
 (.cond (.t 54) (.seq (.reg [⟨some 56, none, .mov (.t 11)⟩, ⟨some 6, none, .mov (.t 56)⟩, ⟨some 7, none, .mov (.c (.int .i64 2))⟩] none)
 .ret) (.seq (.reg [⟨some 50, none, .mov (.t 11)⟩, ⟨some 6, none, .mov (.t 50)⟩, ⟨some 7, none, .mov (.c (.int .i64 0))⟩] none)
 .ret))))))))))))))
theorem f70 : FnIs Try.prog 70 57 c70 [.tmp 6, .tmp 7] := ⟨_, Try.func70, rfl, by kernel_rfl, rfl⟩
def c71 : AC := (.seq (.reg [⟨some 8, none, .mov (.t 1)⟩, ⟨some 6, none, .mov (.t 8)⟩] none)
 (.seq (.reg [⟨some 9, none, .mov (.t 2)⟩, ⟨some 10, none, .bin .sub (.t 9) (.c (.int .i64 1))⟩, ⟨some 7, none, .mov (.t 10)⟩] none)
 (.block 0 (.loop (.seq (.seq (.reg [⟨some 11, none, .mov (.t 6)⟩, ⟨some 12, none, .mov (.t 7)⟩, ⟨some 13, none, .bin .lss (.t 11) (.t 12)⟩] none)
 (.cond (.t 13) .skip (.exit 0)))
 (.block 1 (.seq (.reg [⟨some 14, none, .mov (.t 0)⟩, ⟨some 15, none, .mov (.t 6)⟩, ⟨some 16, none, .mov (.t 0)⟩, ⟨some 17, none, .mov (.t 7)⟩, ⟨some 18, none, .mov (.t 0)⟩, ⟨some 19, none, .mov (.t 7)⟩, ⟨some 20, none, .iaddr 1 (.t 18) (.t 19)⟩, ⟨some 21, none, .load none (.t 20)⟩, ⟨some 22, none, .mov (.t 0)⟩, ⟨some 23, none, .mov (.t 6)⟩, ⟨some 24, none, .iaddr 1 (.t 22) (.t 23)⟩, ⟨some 25, none, .load none (.t 24)⟩, ⟨some 26, none, .iaddr 1 (.t 14) (.t 15)⟩, ⟨none, none, .store 1 (.t 26) (.t 21)⟩, ⟨some 27, none, .iaddr 1 (.t 16) (.t 17)⟩, ⟨none, none, .store 1 (.t 27) (.t 25)⟩] (some [(7, 11)]))
 (.seq (.reg [⟨some 28, none, .mov (.t 6)⟩, ⟨some 29, none, .bin .add (.t 28) (.c (.int .i64 1))⟩, ⟨some 6, none, .mov (.t 29)⟩] none)
 (.reg [⟨some 30, none, .mov (.t 7)⟩, ⟨some 31, none, .bin .sub (.t 30) (.c (.int .i64 1))⟩, ⟨some 7, none, .mov (.t 31)⟩] none)))))))))
theorem f71 : FnIs Try.prog 71 32 c71 [] := ⟨_, Try.func71, rfl, by kernel_rfl, rfl⟩
def c72 : AC := (.seq (.reg [⟨some 6, none, .mov (.c (.bool false))⟩] none)
 (.seq (.reg [⟨some 11, none, .mov (.t 1)⟩, ⟨some 12, none, .bin .add (.t 11) (.c (.int .i64 1))⟩, ⟨some 7, none, .mov (.t 12)⟩] none)
 (.seq (.seq (.reg [⟨some 8, none, .mov (.c (.int .i64 0))⟩] none)
 (.block 0 (.loop (.seq (.seq (.reg [⟨some 13, none, .mov (.t 8)⟩, ⟨some 14, none, .bin .lss (.t 13) (.c (.int .i64 5))⟩] none)
 (.cond (.t 14) .skip (.exit 0)))
 (.seq (.block 1 (.seq (.block 2 (.loop (.seq (.seq (.reg [⟨some 17, none, .mov (.t 7)⟩, ⟨some 18, none, .mov (.t 2)⟩, ⟨some 19, none, .bin .lss (.t 17) (.t 18)⟩, ⟨some 20, none, .mov (.t 19)⟩, ⟨some 21, some (20, true), .mov (.t 0)⟩, ⟨some 22, some (20, true), .mov (.t 7)⟩, ⟨some 23, some (20, true), .iaddr 1 (.t 21) (.t 22)⟩, ⟨some 24, some (20, true), .load none (.t 23)⟩, ⟨some 25, some (20, true), .mov (.t 0)⟩, ⟨some 26, some (20, true), .mov (.t 7)⟩, ⟨some 27, some (20, true), .bin .sub (.t 26) (.c (.int .i64 1))⟩, ⟨some 28, some (20, true), .iaddr 1 (.t 25) (.t 27)⟩, ⟨some 29, some (20, true), .load none (.t 28)⟩, ⟨some 30, some (20, true), .call 73 [(.t 24), (.t 29)]⟩, ⟨some 31, some (20, true), .un .not (.t 30)⟩, ⟨some 32, none, .pick (.t 20) (.t 31) (.c (.bool false))⟩] (some [(7, 12)]))
 (.cond (.t 32) .skip (.exit 2)))
 (.block 3 (.reg [⟨some 33, none, .mov (.t 7)⟩, ⟨some 34, none, .bin .add (.t 33) (.c (.int .i64 1))⟩, ⟨some 7, none, .mov (.t 34)⟩] none)))))
 (.seq (.seq (.reg [⟨some 35, none, .mov (.t 7)⟩, ⟨some 36, none, .mov (.t 2)⟩, ⟨some 37, none, .bin .eql (.t 35) (.t 36)⟩] none)
 (.cond (.t 37) (.seq (.reg [⟨some 6, none, .mov (.c (.bool true))⟩] none)
 .ret) .skip))
 (.seq (.seq (.reg [⟨some 38, none, .mov (.t 2)⟩, ⟨some 39, none, .mov (.t 1)⟩, ⟨some 40, none, .bin .sub (.t 38) (.t 39)⟩, ⟨some 41, none, .bin .lss (.t 40) (.c (.int .i64 50))⟩] none)
 (.cond (.t 41) (.seq (.reg [⟨some 6, none, .mov (.c (.bool false))⟩] none)
 .ret) .skip))
 (.seq (.reg [⟨some 42, none, .mov (.t 0)⟩, ⟨some 43, none, .mov (.t 7)⟩, ⟨some 44, none, .mov (.t 0)⟩, ⟨some 45, none, .mov (.t 7)⟩, ⟨some 46, none, .bin .sub (.t 45) (.c (.int .i64 1))⟩, ⟨some 47, none, .mov (.t 0)⟩, ⟨some 48, none, .mov (.t 7)⟩, ⟨some 49, none, .bin .sub (.t 48) (.c (.int .i64 1))⟩, ⟨some 50, none, .iaddr 1 (.t 47) (.t 49)⟩, ⟨some 51, none, .load none (.t 50)⟩, ⟨some 52, none, .mov (.t 0)⟩, ⟨some 53, none, .mov (.t 7)⟩, ⟨some 54, none, .iaddr 1 (.t 52) (.t 53)⟩, ⟨some 55, none, .load none (.t 54)⟩, ⟨some 56, none, .iaddr 1 (.t 42) (.t 43)⟩, ⟨none, none, .store 1 (.t 56) (.t 51)⟩, ⟨some 57, none, .iaddr 1 (.t 44) (.t 46)⟩, ⟨none, none, .store 1 (.t 57) (.t 55)⟩] (some [(9, 13)]))
 (.seq (.seq (.reg [⟨some 58, none, .mov (.t 7)⟩, ⟨some 59, none, .mov (.t 1)⟩, ⟨some 60, none, .bin .sub (.t 58) (.t 59)⟩, ⟨some 61, none, .bin .geq (.t 60) (.c (.int .i64 2))⟩] none)
 (.cond (.t 61) (.seq (.reg [⟨some 62, none, .mov (.t 7)⟩, ⟨some 63, none, .bin .sub (.t 62) (.c (.int .i64 1))⟩, ⟨some 9, none, .mov (.t 63)⟩] none)
 (.block 4 (.loop (.seq (.seq (.reg [⟨some 64, none, .mov (.t 9)⟩, ⟨some 65, none, .bin .geq (.t 64) (.c (.int .i64 1))⟩] none)
 (.cond (.t 65) .skip (.exit 4)))
 (.seq (.block 5 (.seq (.seq (.reg [⟨some 68, none, .mov (.t 0)⟩, ⟨some 69, none, .mov (.t 9)⟩, ⟨some 70, none, .iaddr 1 (.t 68) (.t 69)⟩, ⟨some 71, none, .load none (.t 70)⟩, ⟨some 72, none, .mov (.t 0)⟩, ⟨some 73, none, .mov (.t 9)⟩, ⟨some 74, none, .bin .sub (.t 73) (.c (.int .i64 1))⟩, ⟨some 75, none, .iaddr 1 (.t 72) (.t 74)⟩, ⟨some 76, none, .load none (.t 75)⟩, ⟨some 77, none, .call 73 [(.t 71), (.t 76)]⟩, ⟨some 78, none, .un .not (.t 77)⟩] (some [(3, 8)]))
 (.cond (.t 78) (.exit 4) .skip))
 (.reg [⟨some 79, none, .mov (.t 0)⟩, ⟨some 80, none, .mov (.t 9)⟩, ⟨some 81, none, .mov (.t 0)⟩, ⟨some 82, none, .mov (.t 9)⟩, ⟨some 83, none, .bin .sub (.t 82) (.c (.int .i64 1))⟩, ⟨some 84, none, .mov (.t 0)⟩, ⟨some 85, none, .mov (.t 9)⟩, ⟨some 86, none, .bin .sub (.t 85) (.c (.int .i64 1))⟩, ⟨some 87, none, .iaddr 1 (.t 84) (.t 86)⟩, ⟨some 88, none, .load none (.t 87)⟩, ⟨some 89, none, .mov (.t 0)⟩, ⟨some 90, none, .mov (.t 9)⟩, ⟨some 91, none, .iaddr 1 (.t 89) (.t 90)⟩, ⟨some 92, none, .load none (.t 91)⟩, ⟨some 93, none, .iaddr 1 (.t 79) (.t 80)⟩, ⟨none, none, .store 1 (.t 93) (.t 88)⟩, ⟨some 94, none, .iaddr 1 (.t 81) (.t 83)⟩, ⟨none, none, .store 1 (.t 94) (.t 92)⟩] (some [(9, 13)]))))
 (.reg [⟨some 66, none, .mov (.t 9)⟩, ⟨some 67, none, .bin .sub (.t 66) (.c (.int .i64 1))⟩, ⟨some 9, none, .mov (.t 67)⟩] none)))))) .skip))
 (.seq (.reg [⟨some 95, none, .mov (.t 2)⟩, ⟨some 96, none, .mov (.t 7)⟩, ⟨some 97, none, .bin .sub (.t 95) (.t 96)⟩, ⟨some 98, none, .bin .geq (.t 97) (.c (.int .i64 2))⟩] none)
 (.cond (.t 98) (.seq (.reg [⟨some 99, none, .mov (.t 7)⟩, ⟨some 100, none, .bin .add (.t 99) (.c (.int .i64 1))⟩, ⟨some 10, none, .mov (.t 100)⟩] none)
 (.block 6 (.loop (.seq (.seq (.reg [⟨some 101, none, .mov (.t 10)⟩, ⟨some 102, none, .mov (.t 2)⟩, ⟨some 103, none, .bin .lss (.t 101) (.t 102)⟩] none)
 (.cond (.t 103) .skip (.exit 6)))
 (.seq (.block 7 (.seq (.seq (.reg [⟨some 106, none, .mov (.t 0)⟩, ⟨some 107, none, .mov (.t 10)⟩, ⟨some 108, none, .iaddr 1 (.t 106) (.t 107)⟩, ⟨some 109, none, .load none (.t 108)⟩, ⟨some 110, none, .mov (.t 0)⟩, ⟨some 111, none, .mov (.t 10)⟩, ⟨some 112, none, .bin .sub (.t 111) (.c (.int .i64 1))⟩, ⟨some 113, none, .iaddr 1 (.t 110) (.t 112)⟩, ⟨some 114, none, .load none (.t 113)⟩, ⟨some 115, none, .call 73 [(.t 109), (.t 114)]⟩, ⟨some 116, none, .un .not (.t 115)⟩] (some [(3, 8)]))
 (.cond (.t 116) (.exit 6) .skip))
 (.reg [⟨some 117, none, .mov (.t 0)⟩, ⟨some 118, none, .mov (.t 10)⟩, ⟨some 119, none, .mov (.t 0)⟩, ⟨some 120, none, .mov (.t 10)⟩, ⟨some 121, none, .bin .sub (.t 120) (.c (.int .i64 1))⟩, ⟨some 122, none, .mov (.t 0)⟩, ⟨some 123, none, .mov (.t 10)⟩, ⟨some 124, none, .bin .sub (.t 123) (.c (.int .i64 1))⟩, ⟨some 125, none, .iaddr 1 (.t 122) (.t 124)⟩, ⟨some 126, none, .load none (.t 125)⟩, ⟨some 127, none, .mov (.t 0)⟩, ⟨some 128, none, .mov (.t 10)⟩, ⟨some 129, none, .iaddr 1 (.t 127) (.t 128)⟩, ⟨some 130, none, .load none (.t 129)⟩, ⟨some 131, none, .iaddr 1 (.t 117) (.t 118)⟩, ⟨none, none, .store 1 (.t 131) (.t 126)⟩, ⟨some 132, none, .iaddr 1 (.t 119) (.t 121)⟩, ⟨none, none, .store 1 (.t 132) (.t 130)⟩] (some [(9, 13)]))))
 (.reg [⟨some 104, none, .mov (.t 10)⟩, ⟨some 105, none, .bin .add (.t 104) (.c (.int .i64 1))⟩, ⟨some 10, none, .mov (.t 105)⟩] none)))))) .skip))))))))
 (.reg [⟨some 15, none, .mov (.t 8)⟩, ⟨some 16, none, .bin .add (.t 15) (.c (.int .i64 1))⟩, ⟨some 8, none, .mov (.t 16)⟩] none))))))
 (.seq (.reg [⟨some 6, none, .mov (.c (.bool false))⟩] none)
 .ret))))
theorem f72 : FnIs Try.prog 72 133 c72 [.tmp 6] := ⟨_, Try.func72, rfl, by kernel_rfl, rfl⟩
def c73 : AC := (.seq (.reg [⟨some 4, none, .mov (.c (.bool false))⟩] none)
 (.seq (.reg [⟨some 5, none, .mov (.t 0)⟩, ⟨some 6, none, .call 40 [(.t 5)]⟩, ⟨some 7, none, .mov (.t 6)⟩, ⟨some 8, some (7, true), .mov (.t 1)⟩, ⟨some 9, some (7, true), .call 40 [(.t 8)]⟩, ⟨some 10, some (7, true), .un .not (.t 9)⟩, ⟨some 11, none, .pick (.t 7) (.t 10) (.c (.bool false))⟩, ⟨some 12, none, .mov (.t 11)⟩, ⟨some 13, some (12, false), .mov (.t 0)⟩, ⟨some 14, some (12, false), .mov (.t 1)⟩, ⟨some 15, some (12, false), .bin .lss (.t 13) (.t 14)⟩, ⟨some 16, none, .pick (.t 12) (.c (.bool true)) (.t 15)⟩, ⟨some 4, none, .mov (.t 16)⟩] none)
 .ret))
theorem f73 : FnIs Try.prog 73 17 c73 [.tmp 4] := ⟨_, Try.func73, rfl, by kernel_rfl, rfl⟩
def c74 : AC := (.seq (.reg [⟨some 8, none, .mov (.c (.int .i64 0))⟩] none)
 (.seq (.reg [⟨some 11, none, .mov (.t 0)⟩, ⟨some 12, none, .mov (.t 1)⟩, ⟨some 13, none, .mov (.t 0)⟩, ⟨some 14, none, .mov (.t 3)⟩, ⟨some 15, none, .mov (.t 0)⟩, ⟨some 16, none, .mov (.t 3)⟩, ⟨some 17, none, .iaddr 1 (.t 15) (.t 16)⟩, ⟨some 18, none, .load none (.t 17)⟩, ⟨some 19, none, .mov (.t 0)⟩, ⟨some 20, none, .mov (.t 1)⟩, ⟨some 21, none, .iaddr 1 (.t 19) (.t 20)⟩, ⟨some 22, none, .load none (.t 21)⟩, ⟨some 23, none, .iaddr 1 (.t 11) (.t 12)⟩, ⟨none, none, .store 1 (.t 23) (.t 18)⟩, ⟨some 24, none, .iaddr 1 (.t 13) (.t 14)⟩, ⟨none, none, .store 1 (.t 24) (.t 22)⟩] (some [(7, 11)]))
 (.seq (.reg [⟨some 25, none, .mov (.t 1)⟩, ⟨some 26, none, .bin .add (.t 25) (.c (.int .i64 1))⟩, ⟨some 27, none, .mov (.t 2)⟩, ⟨some 28, none, .bin .sub (.t 27) (.c (.int .i64 1))⟩, ⟨some 9, none, .mov (.t 26)⟩, ⟨some 10, none, .mov (.t 28)⟩] none)
 (.seq (.block 0 (.loop (.block 1 (.seq (.block 2 (.loop (.seq (.seq (.reg [⟨some 29, none, .mov (.t 9)⟩, ⟨some 30, none, .mov (.t 10)⟩, ⟨some 31, none, .bin .leq (.t 29) (.t 30)⟩, ⟨some 32, none, .mov (.t 31)⟩, ⟨some 33, some (32, true), .mov (.t 0)⟩, ⟨some 34, some (32, true), .mov (.t 1)⟩, ⟨some 35, some (32, true), .iaddr 1 (.t 33) (.t 34)⟩, ⟨some 36, some (32, true), .load none (.t 35)⟩, ⟨some 37, some (32, true), .mov (.t 0)⟩, ⟨some 38, some (32, true), .mov (.t 9)⟩, ⟨some 39, some (32, true), .iaddr 1 (.t 37) (.t 38)⟩, ⟨some 40, some (32, true), .load none (.t 39)⟩, ⟨some 41, some (32, true), .call 73 [(.t 36), (.t 40)]⟩, ⟨some 42, some (32, true), .un .not (.t 41)⟩, ⟨some 43, none, .pick (.t 32) (.t 42) (.c (.bool false))⟩] (some [(7, 11)]))
 (.cond (.t 43) .skip (.exit 2)))
 (.block 3 (.reg [⟨some 44, none, .mov (.t 9)⟩, ⟨some 45, none, .bin .add (.t 44) (.c (.int .i64 1))⟩, ⟨some 9, none, .mov (.t 45)⟩] none)))))
 (.seq (.block 4 (.loop (.seq (.seq (.reg [⟨some 46, none, .mov (.t 9)⟩, ⟨some 47, none, .mov (.t 10)⟩, ⟨some 48, none, .bin .leq (.t 46) (.t 47)⟩, ⟨some 49, none, .mov (.t 48)⟩, ⟨some 50, some (49, true), .mov (.t 0)⟩, ⟨some 51, some (49, true), .mov (.t 1)⟩, ⟨some 52, some (49, true), .iaddr 1 (.t 50) (.t 51)⟩, ⟨some 53, some (49, true), .load none (.t 52)⟩, ⟨some 54, some (49, true), .mov (.t 0)⟩, ⟨some 55, some (49, true), .mov (.t 10)⟩, ⟨some 56, some (49, true), .iaddr 1 (.t 54) (.t 55)⟩, ⟨some 57, some (49, true), .load none (.t 56)⟩, ⟨some 58, some (49, true), .call 73 [(.t 53), (.t 57)]⟩, ⟨some 59, none, .pick (.t 49) (.t 58) (.c (.bool false))⟩] (some [(7, 11)]))
 (.cond (.t 59) .skip (.exit 4)))
 (.block 5 (.reg [⟨some 60, none, .mov (.t 10)⟩, ⟨some 61, none, .bin .sub (.t 60) (.c (.int .i64 1))⟩, ⟨some 10, none, .mov (.t 61)⟩] none)))))
 (.seq (.seq (.reg [⟨some 62, none, .mov (.t 9)⟩, ⟨some 63, none, .mov (.t 10)⟩, ⟨some 64, none, .bin .gtr (.t 62) (.t 63)⟩] none)
 (.cond (.t 64) (.exit 0) .skip))
 (.seq (.reg [⟨some 65, none, .mov (.t 0)⟩, ⟨some 66, none, .mov (.t 9)⟩, ⟨some 67, none, .mov (.t 0)⟩, ⟨some 68, none, .mov (.t 10)⟩, ⟨some 69, none, .mov (.t 0)⟩, ⟨some 70, none, .mov (.t 10)⟩, ⟨some 71, none, .iaddr 1 (.t 69) (.t 70)⟩, ⟨some 72, none, .load none (.t 71)⟩, ⟨some 73, none, .mov (.t 0)⟩, ⟨some 74, none, .mov (.t 9)⟩, ⟨some 75, none, .iaddr 1 (.t 73) (.t 74)⟩, ⟨some 76, none, .load none (.t 75)⟩, ⟨some 77, none, .iaddr 1 (.t 65) (.t 66)⟩, ⟨none, none, .store 1 (.t 77) (.t 72)⟩, ⟨some 78, none, .iaddr 1 (.t 67) (.t 68)⟩, ⟨none, none, .store 1 (.t 78) (.t 76)⟩] (some [(7, 11)]))
 (.seq (.reg [⟨some 79, none, .mov (.t 9)⟩, ⟨some 80, none, .bin .add (.t 79) (.c (.int .i64 1))⟩, ⟨some 9, none, .mov (.t 80)⟩] none)
 (.reg [⟨some 81, none, .mov (.t 10)⟩, ⟨some 82, none, .bin .sub (.t 81) (.c (.int .i64 1))⟩, ⟨some 10, none, .mov (.t 82)⟩] none)))))))))
 (.seq (.reg [⟨some 83, none, .mov (.t 9)⟩, ⟨some 8, none, .mov (.t 83)⟩] none)
 .ret)))))
theorem f74 : FnIs Try.prog 74 84 c74 [.tmp 8] := ⟨_, Try.func74, rfl, by kernel_rfl, rfl⟩
def c75 : AC := (.seq (.reg [⟨some 8, none, .mov (.c (.int .i64 0))⟩, ⟨some 9, none, .mov (.c (.bool false))⟩] none)
 (.seq (.reg [⟨some 12, none, .mov (.t 0)⟩, ⟨some 13, none, .mov (.t 1)⟩, ⟨some 14, none, .mov (.t 0)⟩, ⟨some 15, none, .mov (.t 3)⟩, ⟨some 16, none, .mov (.t 0)⟩, ⟨some 17, none, .mov (.t 3)⟩, ⟨some 18, none, .iaddr 1 (.t 16) (.t 17)⟩, ⟨some 19, none, .load none (.t 18)⟩, ⟨some 20, none, .mov (.t 0)⟩, ⟨some 21, none, .mov (.t 1)⟩, ⟨some 22, none, .iaddr 1 (.t 20) (.t 21)⟩, ⟨some 23, none, .load none (.t 22)⟩, ⟨some 24, none, .iaddr 1 (.t 12) (.t 13)⟩, ⟨none, none, .store 1 (.t 24) (.t 19)⟩, ⟨some 25, none, .iaddr 1 (.t 14) (.t 15)⟩, ⟨none, none, .store 1 (.t 25) (.t 23)⟩] (some [(7, 11)]))
 (.seq (.reg [⟨some 26, none, .mov (.t 1)⟩, ⟨some 27, none, .bin .add (.t 26) (.c (.int .i64 1))⟩, ⟨some 28, none, .mov (.t 2)⟩, ⟨some 29, none, .bin .sub (.t 28) (.c (.int .i64 1))⟩, ⟨some 10, none, .mov (.t 27)⟩, ⟨some 11, none, .mov (.t 29)⟩] none)
 (.seq (.block 0 (.loop (.seq (.seq (.reg [⟨some 30, none, .mov (.t 10)⟩, ⟨some 31, none, .mov (.t 11)⟩, ⟨some 32, none, .bin .leq (.t 30) (.t 31)⟩, ⟨some 33, none, .mov (.t 32)⟩, ⟨some 34, some (33, true), .mov (.t 0)⟩, ⟨some 35, some (33, true), .mov (.t 10)⟩, ⟨some 36, some (33, true), .iaddr 1 (.t 34) (.t 35)⟩, ⟨some 37, some (33, true), .load none (.t 36)⟩, ⟨some 38, some (33, true), .mov (.t 0)⟩, ⟨some 39, some (33, true), .mov (.t 1)⟩, ⟨some 40, some (33, true), .iaddr 1 (.t 38) (.t 39)⟩, ⟨some 41, some (33, true), .load none (.t 40)⟩, ⟨some 42, some (33, true), .call 73 [(.t 37), (.t 41)]⟩, ⟨some 43, none, .pick (.t 33) (.t 42) (.c (.bool false))⟩] (some [(7, 11)]))
 (.cond (.t 43) .skip (.exit 0)))
 (.block 1 (.reg [⟨some 44, none, .mov (.t 10)⟩, ⟨some 45, none, .bin .add (.t 44) (.c (.int .i64 1))⟩, ⟨some 10, none, .mov (.t 45)⟩] none)))))
 (.seq (.block 2 (.loop (.seq (.seq (.reg [⟨some 46, none, .mov (.t 10)⟩, ⟨some 47, none, .mov (.t 11)⟩, ⟨some 48, none, .bin .leq (.t 46) (.t 47)⟩, ⟨some 49, none, .mov (.t 48)⟩, ⟨some 50, some (49, true), .mov (.t 0)⟩, ⟨some 51, some (49, true), .mov (.t 11)⟩, ⟨some 52, some (49, true), .iaddr 1 (.t 50) (.t 51)⟩, ⟨some 53, some (49, true), .load none (.t 52)⟩, ⟨some 54, some (49, true), .mov (.t 0)⟩, ⟨some 55, some (49, true), .mov (.t 1)⟩, ⟨some 56, some (49, true), .iaddr 1 (.t 54) (.t 55)⟩, ⟨some 57, some (49, true), .load none (.t 56)⟩, ⟨some 58, some (49, true), .call 73 [(.t 53), (.t 57)]⟩, ⟨some 59, some (49, true), .un .not (.t 58)⟩, ⟨some 60, none, .pick (.t 49) (.t 59) (.c (.bool false))⟩] (some [(7, 11)]))
 (.cond (.t 60) .skip (.exit 2)))
 (.block 3 (.reg [⟨some 61, none, .mov (.t 11)⟩, ⟨some 62, none, .bin .sub (.t 61) (.c (.int .i64 1))⟩, ⟨some 11, none, .mov (.t 62)⟩] none)))))
 (.seq (.seq (.reg [⟨some 63, none, .mov (.t 10)⟩, ⟨some 64, none, .mov (.t 11)⟩, ⟨some 65, none, .bin .gtr (.t 63) (.t 64)⟩] none)
 (.cond (.t 65) (.seq (.reg [⟨some 66, none, .mov (.t 0)⟩, ⟨some 67, none, .mov (.t 11)⟩, ⟨some 68, none, .mov (.t 0)⟩, ⟨some 69, none, .mov (.t 1)⟩, ⟨some 70, none, .mov (.t 0)⟩, ⟨some 71, none, .mov (.t 1)⟩, ⟨some 72, none, .iaddr 1 (.t 70) (.t 71)⟩, ⟨some 73, none, .load none (.t 72)⟩, ⟨some 74, none, .mov (.t 0)⟩, ⟨some 75, none, .mov (.t 11)⟩, ⟨some 76, none, .iaddr 1 (.t 74) (.t 75)⟩, ⟨some 77, none, .load none (.t 76)⟩, ⟨some 78, none, .iaddr 1 (.t 66) (.t 67)⟩, ⟨none, none, .store 1 (.t 78) (.t 73)⟩, ⟨some 79, none, .iaddr 1 (.t 68) (.t 69)⟩, ⟨none, none, .store 1 (.t 79) (.t 77)⟩] (some [(7, 11)]))
 (.seq (.reg [⟨some 80, none, .mov (.t 11)⟩, ⟨some 8, none, .mov (.t 80)⟩, ⟨some 9, none, .mov (.c (.bool true))⟩] none)
 .ret)) .skip))
 (.seq (.reg [⟨some 81, none, .mov (.t 0)⟩, ⟨some 82, none, .mov (.t 10)⟩, ⟨some 83, none, .mov (.t 0)⟩, ⟨some 84, none, .mov (.t 11)⟩, ⟨some 85, none, .mov (.t 0)⟩, ⟨some 86, none, .mov (.t 11)⟩, ⟨some 87, none, .iaddr 1 (.t 85) (.t 86)⟩, ⟨some 88, none, .load none (.t 87)⟩, ⟨some 89, none, .mov (.t 0)⟩, ⟨some 90, none, .mov (.t 10)⟩, ⟨some 91, none, .iaddr 1 (.t 89) (.t 90)⟩, ⟨some 92, none, .load none (.t 91)⟩, ⟨some 93, none, .iaddr 1 (.t 81) (.t 82)⟩, ⟨none, none, .store 1 (.t 93) (.t 88)⟩, ⟨some 94, none, .iaddr 1 (.t 83) (.t 84)⟩, ⟨none, none, .store 1 (.t 94) (.t 92)⟩] (some [(7, 11)]))
 (.seq (.reg [⟨some 95, none, .mov (.t 10)⟩, ⟨some 96, none, .bin .add (.t 95) (.c (.int .i64 1))⟩, ⟨some 10, none, .mov (.t 96)⟩] none)
 (.seq (.reg [⟨some 97, none, .mov (.t 11)⟩, ⟨some 98, none, .bin .sub (.t 97) (.c (.int .i64 1))⟩, ⟨some 11, none, .mov (.t 98)⟩] none)
 (.seq (.block 4 (.loop (.block 5 (.seq (.block 6 (.loop (.seq (.seq (.reg [⟨some 99, none, .mov (.t 10)⟩, ⟨some 100, none, .mov (.t 11)⟩, ⟨some 101, none, .bin .leq (.t 99) (.t 100)⟩, ⟨some 102, none, .mov (.t 101)⟩, ⟨some 103, some (102, true), .mov (.t 0)⟩, ⟨some 104, some (102, true), .mov (.t 10)⟩, ⟨some 105, some (102, true), .iaddr 1 (.t 103) (.t 104)⟩, ⟨some 106, some (102, true), .load none (.t 105)⟩, ⟨some 107, some (102, true), .mov (.t 0)⟩, ⟨some 108, some (102, true), .mov (.t 1)⟩, ⟨some 109, some (102, true), .iaddr 1 (.t 107) (.t 108)⟩, ⟨some 110, some (102, true), .load none (.t 109)⟩, ⟨some 111, some (102, true), .call 73 [(.t 106), (.t 110)]⟩, ⟨some 112, none, .pick (.t 102) (.t 111) (.c (.bool false))⟩] (some [(7, 11)]))
 (.cond (.t 112) .skip (.exit 6)))
 (.block 7 (.reg [⟨some 113, none, .mov (.t 10)⟩, ⟨some 114, none, .bin .add (.t 113) (.c (.int .i64 1))⟩, ⟨some 10, none, .mov (.t 114)⟩] none)))))
 (.seq (.block 8 (.loop (.seq (.seq (.reg [⟨some 115, none, .mov (.t 10)⟩, ⟨some 116, none, .mov (.t 11)⟩, ⟨some 117, none, .bin .leq (.t 115) (.t 116)⟩, ⟨some 118, none, .mov (.t 117)⟩, ⟨some 119, some (118, true), .mov (.t 0)⟩, ⟨some 120, some (118, true), .mov (.t 11)⟩, ⟨some 121, some (118, true), .iaddr 1 (.t 119) (.t 120)⟩, ⟨some 122, some (118, true), .load none (.t 121)⟩, ⟨some 123, some (118, true), .mov (.t 0)⟩, ⟨some 124, some (118, true), .mov (.t 1)⟩, ⟨some 125, some (118, true), .iaddr 1 (.t 123) (.t 124)⟩, ⟨some 126, some (118, true), .load none (.t 125)⟩, ⟨some 127, some (118, true), .call 73 [(.t 122), (.t 126)]⟩, ⟨some 128, some (118, true), .un .not (.t 127)⟩, ⟨some 129, none, .pick (.t 118) (.t 128) (.c (.bool false))⟩] (some [(7, 11)]))
 (.cond (.t 129) .skip (.exit 8)))
 (.block 9 (.reg [⟨some 130, none, .mov (.t 11)⟩, ⟨some 131, none, .bin .sub (.t 130) (.c (.int .i64 1))⟩, ⟨some 11, none, .mov (.t 131)⟩] none)))))
 (.seq (.seq (.reg [⟨some 132, none, .mov (.t 10)⟩, ⟨some 133, none, .mov (.t 11)⟩, ⟨some 134, none, .bin .gtr (.t 132) (.t 133)⟩] none)
 (.cond (.t 134) (.exit 4) .skip))
 (.seq (.reg [⟨some 135, none, .mov (.t 0)⟩, ⟨some 136, none, .mov (.t 10)⟩, ⟨some 137, none, .mov (.t 0)⟩, ⟨some 138, none, .mov (.t 11)⟩, ⟨some 139, none, .mov (.t 0)⟩, ⟨some 140, none, .mov (.t 11)⟩, ⟨some 141, none, .iaddr 1 (.t 139) (.t 140)⟩, ⟨some 142, none, .load none (.t 141)⟩, ⟨some 143, none, .mov (.t 0)⟩, ⟨some 144, none, .mov (.t 10)⟩, ⟨some 145, none, .iaddr 1 (.t 143) (.t 144)⟩, ⟨some 146, none, .load none (.t 145)⟩, ⟨some 147, none, .iaddr 1 (.t 135) (.t 136)⟩, ⟨none, none, .store 1 (.t 147) (.t 142)⟩, ⟨some 148, none, .iaddr 1 (.t 137) (.t 138)⟩, ⟨none, none, .store 1 (.t 148) (.t 146)⟩] (some [(7, 11)]))
 (.seq (.reg [⟨some 149, none, .mov (.t 10)⟩, ⟨some 150, none, .bin .add (.t 149) (.c (.int .i64 1))⟩, ⟨some 10, none, .mov (.t 150)⟩] none)
 (.reg [⟨some 151, none, .mov (.t 11)⟩, ⟨some 152, none, .bin .sub (.t 151) (.c (.int .i64 1))⟩, ⟨some 11, none, .mov (.t 152)⟩] none)))))))))
 (.seq (.reg [⟨some 153, none, .mov (.t 0)⟩, ⟨some 154, none, .mov (.t 11)⟩, ⟨some 155, none, .mov (.t 0)⟩, ⟨some 156, none, .mov (.t 1)⟩, ⟨some 157, none, .mov (.t 0)⟩, ⟨some 158, none, .mov (.t 1)⟩, ⟨some 159, none, .iaddr 1 (.t 157) (.t 158)⟩, ⟨some 160, none, .load none (.t 159)⟩, ⟨some 161, none, .mov (.t 0)⟩, ⟨some 162, none, .mov (.t 11)⟩, ⟨some 163, none, .iaddr 1 (.t 161) (.t 162)⟩, ⟨some 164, none, .load none (.t 163)⟩, ⟨some 165, none, .iaddr 1 (.t 153) (.t 154)⟩, ⟨none, none, .store 1 (.t 165) (.t 160)⟩, ⟨some 166, none, .iaddr 1 (.t 155) (.t 156)⟩, ⟨none, none, .store 1 (.t 166) (.t 164)⟩] (some [(7, 11)]))
 (.seq (.reg [⟨some 167, none, .mov (.t 11)⟩, ⟨some 8, none, .mov (.t 167)⟩, ⟨some 9, none, .mov (.c (.bool false))⟩] none)
 .ret))))))))))))
theorem f75 : FnIs Try.prog 75 168 c75 [.tmp 8, .tmp 9] := ⟨_, Try.func75, rfl, by kernel_rfl, rfl⟩
def c76 : AC := (.seq (.reg [⟨some 4, none, .mov (.c (.int .i64 0))⟩] none)
 (.seq (.seq (.reg [⟨some 6, none, .mov (.t 0)⟩, ⟨some 7, none, .len false (.t 6)⟩, ⟨some 8, none, .mov (.c (.int .i64 0))⟩] none)
 (.block 0 (.loop (.seq (.reg [⟨some 9, none, .bin .lss (.t 8) (.t 7)⟩] none)
 (.seq (.cond (.t 9) .skip (.exit 0))
 (.seq (.block 1 (.seq (.reg [⟨some 10, none, .mov (.t 8)⟩, ⟨some 5, none, .mov (.t 10)⟩] none)
 (.seq (.reg [⟨some 11, none, .mov (.t 1)⟩, ⟨some 12, none, .mov (.t 0)⟩, ⟨some 13, none, .mov (.t 5)⟩, ⟨some 14, none, .iaddr 3 (.t 12) (.t 13)⟩, ⟨some 15, none, .load (some 3) (.t 14)⟩, ⟨some 16, none, .callv (.t 11) [(.t 15)]⟩] none)
 (.cond (.t 16) (.seq (.reg [⟨some 17, none, .mov (.t 5)⟩, ⟨some 4, none, .mov (.t 17)⟩] none)
 .ret) .skip))))
 (.reg [⟨some 18, none, .bin .add (.t 8) (.c (.int .i64 1))⟩, ⟨some 8, none, .mov (.t 18)⟩] none)))))))
 (.seq (.reg [⟨some 4, none, .mov (.c (.int .i64 (-1)))⟩] none)
 .ret)))
theorem f76 : FnIs Try.prog 76 19 c76 [.tmp 4] := ⟨_, Try.func76, rfl, by kernel_rfl, rfl⟩
def c77 : AC := (.seq (.reg [⟨some 2, none, .mov (.c (.bool false))⟩] none)
 (.seq (.reg [⟨some 3, none, .mov (.t 0)⟩, ⟨some 4, none, .eqP true (.t 3) (.c (.sc (.pointer none)))⟩, ⟨some 5, none, .mov (.t 4)⟩, ⟨some 6, some (5, true), .mov (.t 0)⟩, ⟨some 7, some (5, true), .nilck (.t 6)⟩, ⟨some 8, some (5, true), .faddr 0 (.t 7)⟩, ⟨some 9, some (5, true), .load none (.t 8)⟩, ⟨some 10, none, .pick (.t 5) (.t 9) (.c (.bool false))⟩, ⟨some 11, none, .mov (.t 10)⟩, ⟨some 12, some (11, true), .mov (.t 0)⟩, ⟨some 13, some (11, true), .nilck (.t 12)⟩, ⟨some 14, some (11, true), .faddr 3 (.t 13)⟩, ⟨some 15, some (11, true), .load none (.t 14)⟩, ⟨some 16, some (11, true), .bin .eql (.t 15) (.c (.int .i64 0))⟩, ⟨some 17, none, .pick (.t 11) (.t 16) (.c (.bool false))⟩, ⟨some 2, none, .mov (.t 17)⟩] none)
 .ret))
theorem f77 : FnIs Try.prog 77 18 c77 [.tmp 2] := ⟨_, Try.func77, rfl, by kernel_rfl, rfl⟩
def c78 : AC := (.seq (.reg [⟨some 6, none, .mov (.c (.int .u64 0))⟩, ⟨some 7, none, .mov (.c (.bool false))⟩] none)
 (.seq (.seq (.reg [⟨some 11, none, .mov (.t 0)⟩, ⟨some 12, none, .nilck (.t 11)⟩, ⟨some 13, none, .faddr 1 (.t 12)⟩, ⟨some 14, none, .load none (.t 13)⟩, ⟨some 15, none, .len false (.t 14)⟩, ⟨some 16, none, .mov (.t 1)⟩, ⟨some 17, none, .bin .sub (.t 15) (.t 16)⟩, ⟨some 18, none, .mov (.t 2)⟩, ⟨some 19, none, .bin .lss (.t 17) (.t 18)⟩] none)
 (.cond (.t 19) (.seq (.reg [⟨some 6, none, .mov (.c (.int .u64 0))⟩, ⟨some 7, none, .mov (.c (.bool false))⟩] none)
 .ret) .skip))
 (.seq (.reg [⟨some 8, none, .mov (.c (.int .u64 0))⟩] none)
 (.seq (.seq (.reg [⟨some 20, none, .mov (.t 0)⟩, ⟨some 21, none, .nilck (.t 20)⟩, ⟨some 22, none, .faddr 1 (.t 21)⟩, ⟨some 23, none, .load none (.t 22)⟩, ⟨some 24, none, .mov (.t 1)⟩, ⟨some 25, none, .mov (.t 1)⟩, ⟨some 26, none, .mov (.t 2)⟩, ⟨some 27, none, .bin .add (.t 25) (.t 26)⟩, ⟨some 28, none, .slc false 1 (.t 23) (some (.t 24)) (some (.t 27)) none⟩, ⟨some 29, none, .len false (.t 28)⟩, ⟨some 30, none, .mov (.c (.int .i64 0))⟩] none)
 (.block 0 (.loop (.seq (.reg [⟨some 31, none, .bin .lss (.t 30) (.t 29)⟩] none)
 (.seq (.cond (.t 31) .skip (.exit 0))
 (.seq (.block 1 (.seq (.reg [⟨some 32, none, .iaddr 1 (.t 28) (.t 30)⟩, ⟨some 33, none, .load none (.t 32)⟩, ⟨some 10, none, .mov (.t 33)⟩] none)
 (.reg [⟨some 34, none, .mov (.t 8)⟩, ⟨some 35, none, .bin .shl (.t 34) (.c (.int .u64 8))⟩, ⟨some 36, none, .mov (.t 10)⟩, ⟨some 37, none, .conv (.toInt .u64) (.t 36)⟩, ⟨some 38, none, .bin .or (.t 35) (.t 37)⟩, ⟨some 8, none, .mov (.t 38)⟩] none)))
 (.reg [⟨some 39, none, .bin .add (.t 30) (.c (.int .i64 1))⟩, ⟨some 30, none, .mov (.t 39)⟩] none)))))))
 (.seq (.reg [⟨some 40, none, .mov (.t 8)⟩, ⟨some 6, none, .mov (.t 40)⟩, ⟨some 7, none, .mov (.c (.bool true))⟩] none)
 .ret)))))
theorem f78 : FnIs Try.prog 78 41 c78 [.tmp 6, .tmp 7] := ⟨_, Try.func78, rfl, by kernel_rfl, rfl⟩
def c79 : AC := (.seq (.reg [⟨some 12, none, .mov (.t 1)⟩, ⟨some 10, none, .mov (.t 12)⟩] none)
 (.block 0 (.loop (.block 1 (.seq (.reg [⟨some 13, none, .mov (.t 10)⟩, ⟨some 14, none, .bin .mul (.c (.int .i64 2)) (.t 13)⟩, ⟨some 15, none, .bin .add (.t 14) (.c (.int .i64 1))⟩, ⟨some 11, none, .mov (.t 15)⟩] none)
 (.seq (.seq (.reg [⟨some 16, none, .mov (.t 11)⟩, ⟨some 17, none, .mov (.t 2)⟩, ⟨some 18, none, .bin .geq (.t 16) (.t 17)⟩] none)
 (.cond (.t 18) (.exit 0) .skip))
 (.seq (.seq (.reg [⟨some 19, none, .mov (.t 11)⟩, ⟨some 20, none, .bin .add (.t 19) (.c (.int .i64 1))⟩, ⟨some 21, none, .mov (.t 2)⟩, ⟨some 22, none, .bin .lss (.t 20) (.t 21)⟩, ⟨some 23, none, .mov (.t 22)⟩, ⟨some 24, some (23, true), .mov (.t 4)⟩, ⟨some 25, some (23, true), .mov (.t 0)⟩, ⟨some 26, some (23, true), .mov (.t 3)⟩, ⟨some 27, some (23, true), .mov (.t 11)⟩, ⟨some 28, some (23, true), .bin .add (.t 26) (.t 27)⟩, ⟨some 29, some (23, true), .iaddr 2 (.t 25) (.t 28)⟩, ⟨some 30, some (23, true), .load (some 2) (.t 29)⟩, ⟨some 31, some (23, true), .mov (.t 0)⟩, ⟨some 32, some (23, true), .mov (.t 3)⟩, ⟨some 33, some (23, true), .mov (.t 11)⟩, ⟨some 34, some (23, true), .bin .add (.t 32) (.t 33)⟩, ⟨some 35, some (23, true), .bin .add (.t 34) (.c (.int .i64 1))⟩, ⟨some 36, some (23, true), .iaddr 2 (.t 31) (.t 35)⟩, ⟨some 37, some (23, true), .load (some 2) (.t 36)⟩, ⟨some 38, some (23, true), .callv (.t 24) [(.t 30), (.t 37)]⟩, ⟨some 39, some (23, true), .bin .lss (.t 38) (.c (.int .i64 0))⟩, ⟨some 40, none, .pick (.t 23) (.t 39) (.c (.bool false))⟩] (some [(11, 18)]))
 (.cond (.t 40) (.reg [⟨some 41, none, .mov (.t 11)⟩, ⟨some 42, none, .bin .add (.t 41) (.c (.int .i64 1))⟩, ⟨some 11, none, .mov (.t 42)⟩] none) .skip))
 (.seq (.seq (.reg [⟨some 43, none, .mov (.t 4)⟩, ⟨some 44, none, .mov (.t 0)⟩, ⟨some 45, none, .mov (.t 3)⟩, ⟨some 46, none, .mov (.t 10)⟩, ⟨some 47, none, .bin .add (.t 45) (.t 46)⟩, ⟨some 48, none, .iaddr 2 (.t 44) (.t 47)⟩, ⟨some 49, none, .load (some 2) (.t 48)⟩, ⟨some 50, none, .mov (.t 0)⟩, ⟨some 51, none, .mov (.t 3)⟩, ⟨some 52, none, .mov (.t 11)⟩, ⟨some 53, none, .bin .add (.t 51) (.t 52)⟩, ⟨some 54, none, .iaddr 2 (.t 50) (.t 53)⟩, ⟨some 55, none, .load (some 2) (.t 54)⟩, ⟨some 56, none, .callv (.t 43) [(.t 49), (.t 55)]⟩, ⟨some 57, none, .bin .lss (.t 56) (.c (.int .i64 0))⟩, ⟨some 58, none, .un .not (.t 57)⟩] (some [(6, 12)]))
 (.cond (.t 58) .ret .skip))
 (.seq (.reg [⟨some 59, none, .mov (.t 0)⟩, ⟨some 60, none, .mov (.t 3)⟩, ⟨some 61, none, .mov (.t 10)⟩, ⟨some 62, none, .bin .add (.t 60) (.t 61)⟩, ⟨some 63, none, .mov (.t 0)⟩, ⟨some 64, none, .mov (.t 3)⟩, ⟨some 65, none, .mov (.t 11)⟩, ⟨some 66, none, .bin .add (.t 64) (.t 65)⟩, ⟨some 67, none, .mov (.t 0)⟩, ⟨some 68, none, .mov (.t 3)⟩, ⟨some 69, none, .mov (.t 11)⟩, ⟨some 70, none, .bin .add (.t 68) (.t 69)⟩, ⟨some 71, none, .iaddr 2 (.t 67) (.t 70)⟩, ⟨some 72, none, .load (some 2) (.t 71)⟩, ⟨some 73, none, .mov (.t 0)⟩, ⟨some 74, none, .mov (.t 3)⟩, ⟨some 75, none, .mov (.t 10)⟩, ⟨some 76, none, .bin .add (.t 74) (.t 75)⟩, ⟨some 77, none, .iaddr 2 (.t 73) (.t 76)⟩, ⟨some 78, none, .load (some 2) (.t 77)⟩, ⟨some 79, none, .iaddr 2 (.t 59) (.t 62)⟩, ⟨none, none, .store 2 (.t 79) (.t 72)⟩, ⟨some 80, none, .iaddr 2 (.t 63) (.t 66)⟩, ⟨none, none, .store 2 (.t 80) (.t 78)⟩] (some [(13, 19)]))
 (.reg [⟨some 81, none, .mov (.t 11)⟩, ⟨some 10, none, .mov (.t 81)⟩] none))))))))))
theorem f79 : FnIs Try.prog 79 82 c79 [] := ⟨_, Try.func79, rfl, by kernel_rfl, rfl⟩
def c80 : AC := (.seq (.reg [⟨some 2, none, .mov (.c (.int .u64 0))⟩] none)
 (.seq (.reg [⟨some 3, none, .mov (.t 0)⟩, ⟨some 4, none, .conv (.toInt .u64) (.t 3)⟩, ⟨some 5, none, .call 39 [(.t 4)]⟩, ⟨some 6, none, .bin .shl (.c (.int .u64 1)) (.t 5)⟩, ⟨some 2, none, .mov (.t 6)⟩] none)
 .ret))
theorem f80 : FnIs Try.prog 80 7 c80 [.tmp 2] := ⟨_, Try.func80, rfl, by kernel_rfl, rfl⟩
def c81 : AC := (.seq (.reg [⟨some 2, none, .mov (.c (.int .u64 0))⟩] none)
 (.seq (.reg [⟨some 3, none, .mov (.t 0)⟩, ⟨some 4, none, .nilck (.t 3)⟩, ⟨some 5, none, .load none (.t 4)⟩, ⟨some 6, none, .mov (.t 0)⟩, ⟨some 7, none, .nilck (.t 6)⟩, ⟨some 8, none, .load none (.t 7)⟩, ⟨some 9, none, .bin .shl (.t 8) (.c (.int .u64 13))⟩, ⟨some 10, none, .bin .xor (.t 5) (.t 9)⟩, ⟨some 11, none, .nilck (.t 3)⟩, ⟨none, none, .store 1 (.t 11) (.t 10)⟩] (some [(2, 5)]))
 (.seq (.reg [⟨some 12, none, .mov (.t 0)⟩, ⟨some 13, none, .nilck (.t 12)⟩, ⟨some 14, none, .load none (.t 13)⟩, ⟨some 15, none, .mov (.t 0)⟩, ⟨some 16, none, .nilck (.t 15)⟩, ⟨some 17, none, .load none (.t 16)⟩, ⟨some 18, none, .bin .shr (.t 17) (.c (.int .u64 7))⟩, ⟨some 19, none, .bin .xor (.t 14) (.t 18)⟩, ⟨some 20, none, .nilck (.t 12)⟩, ⟨none, none, .store 1 (.t 20) (.t 19)⟩] (some [(2, 5)]))
 (.seq (.reg [⟨some 21, none, .mov (.t 0)⟩, ⟨some 22, none, .nilck (.t 21)⟩, ⟨some 23, none, .load none (.t 22)⟩, ⟨some 24, none, .mov (.t 0)⟩, ⟨some 25, none, .nilck (.t 24)⟩, ⟨some 26, none, .load none (.t 25)⟩, ⟨some 27, none, .bin .shl (.t 26) (.c (.int .u64 17))⟩, ⟨some 28, none, .bin .xor (.t 23) (.t 27)⟩, ⟨some 29, none, .nilck (.t 21)⟩, ⟨none, none, .store 1 (.t 29) (.t 28)⟩] (some [(2, 5)]))
 (.seq (.reg [⟨some 30, none, .mov (.t 0)⟩, ⟨some 31, none, .nilck (.t 30)⟩, ⟨some 32, none, .load none (.t 31)⟩, ⟨some 2, none, .mov (.t 32)⟩] none)
 .ret)))))
theorem f81 : FnIs Try.prog 81 33 c81 [.tmp 2] := ⟨_, Try.func81, rfl, by kernel_rfl, rfl⟩
def c82 : AC := (.seq (.reg [⟨some 8, none, .mov (.c (.int .i64 0))⟩] none)
 (.seq (.reg [⟨some 9, none, .mov (.t 0)⟩, ⟨some 10, none, .mov (.t 1)⟩, ⟨some 11, none, .bin .sub (.t 10) (.c (.int .i64 1))⟩, ⟨some 12, none, .mov (.t 1)⟩, ⟨some 13, none, .mov (.t 1)⟩, ⟨some 14, none, .bin .add (.t 13) (.c (.int .i64 1))⟩, ⟨some 15, none, .mov (.t 2)⟩, ⟨some 16, none, .mov (.t 3)⟩, ⟨some 17, none, .call 83 [(.t 9), (.t 11), (.t 12), (.t 14), (.t 15), (.t 16)]⟩, ⟨some 8, none, .mov (.t 17)⟩] none)
 .ret))
theorem f82 : FnIs Try.prog 82 18 c82 [.tmp 8] := ⟨_, Try.func82, rfl, by kernel_rfl, rfl⟩
def c83 : AC := (.seq (.reg [⟨some 12, none, .mov (.c (.int .i64 0))⟩] none)
 (.seq (.reg [⟨some 14, none, .mov (.t 0)⟩, ⟨some 15, none, .mov (.t 1)⟩, ⟨some 16, none, .mov (.t 2)⟩, ⟨some 17, none, .mov (.t 4)⟩, ⟨some 18, none, .mov (.t 5)⟩, ⟨some 19, none, .call 87 [(.t 14), (.t 15), (.t 16), (.t 17), (.t 18)]⟩, ⟨some 13, none, .mov (.t 19)⟩, ⟨some 20, none, .ext (.t 13) 0⟩, ⟨some 21, none, .ext (.t 13) 1⟩, ⟨some 1, none, .mov (.t 20)⟩, ⟨some 2, none, .mov (.t 21)⟩] none)
 (.seq (.reg [⟨some 23, none, .mov (.t 0)⟩, ⟨some 24, none, .mov (.t 2)⟩, ⟨some 25, none, .mov (.t 3)⟩, ⟨some 26, none, .mov (.t 4)⟩, ⟨some 27, none, .mov (.t 5)⟩, ⟨some 28, none, .call 87 [(.t 23), (.t 24), (.t 25), (.t 26), (.t 27)]⟩, ⟨some 22, none, .mov (.t 28)⟩, ⟨some 29, none, .ext (.t 22) 0⟩, ⟨some 30, none, .ext (.t 22) 1⟩, ⟨some 2, none, .mov (.t 29)⟩, ⟨some 3, none, .mov (.t 30)⟩] none)
 (.seq (.reg [⟨some 32, none, .mov (.t 0)⟩, ⟨some 33, none, .mov (.t 1)⟩, ⟨some 34, none, .mov (.t 2)⟩, ⟨some 35, none, .mov (.t 4)⟩, ⟨some 36, none, .mov (.t 5)⟩, ⟨some 37, none, .call 87 [(.t 32), (.t 33), (.t 34), (.t 35), (.t 36)]⟩, ⟨some 31, none, .mov (.t 37)⟩, ⟨some 38, none, .ext (.t 31) 0⟩, ⟨some 39, none, .ext (.t 31) 1⟩, ⟨some 1, none, .mov (.t 38)⟩, ⟨some 2, none, .mov (.t 39)⟩] none)
 (.seq (.reg [⟨some 40, none, .mov (.t 2)⟩, ⟨some 12, none, .mov (.t 40)⟩] none)
 .ret)))))
theorem f83 : FnIs Try.prog 83 41 c83 [.tmp 12] := ⟨_, Try.func83, rfl, by kernel_rfl, rfl⟩
def c84 : AC := (.seq (.reg [⟨some 10, none, .mov (.t 1)⟩, ⟨some 8, none, .mov (.t 10)⟩] none)
 (.block 0 (.loop (.block 1 (.seq (.reg [⟨some 11, none, .mov (.t 8)⟩, ⟨some 12, none, .bin .mul (.c (.int .i64 2)) (.t 11)⟩, ⟨some 13, none, .bin .add (.t 12) (.c (.int .i64 1))⟩, ⟨some 9, none, .mov (.t 13)⟩] none)
 (.seq (.seq (.reg [⟨some 14, none, .mov (.t 9)⟩, ⟨some 15, none, .mov (.t 2)⟩, ⟨some 16, none, .bin .geq (.t 14) (.t 15)⟩] none)
 (.cond (.t 16) (.exit 0) .skip))
 (.seq (.seq (.reg [⟨some 17, none, .mov (.t 9)⟩, ⟨some 18, none, .bin .add (.t 17) (.c (.int .i64 1))⟩, ⟨some 19, none, .mov (.t 2)⟩, ⟨some 20, none, .bin .lss (.t 18) (.t 19)⟩, ⟨some 21, none, .mov (.t 20)⟩, ⟨some 22, some (21, true), .mov (.t 0)⟩, ⟨some 23, some (21, true), .mov (.t 3)⟩, ⟨some 24, some (21, true), .mov (.t 9)⟩, ⟨some 25, some (21, true), .bin .add (.t 23) (.t 24)⟩, ⟨some 26, some (21, true), .iaddr 1 (.t 22) (.t 25)⟩, ⟨some 27, some (21, true), .load none (.t 26)⟩, ⟨some 28, some (21, true), .mov (.t 0)⟩, ⟨some 29, some (21, true), .mov (.t 3)⟩, ⟨some 30, some (21, true), .mov (.t 9)⟩, ⟨some 31, some (21, true), .bin .add (.t 29) (.t 30)⟩, ⟨some 32, some (21, true), .bin .add (.t 31) (.c (.int .i64 1))⟩, ⟨some 33, some (21, true), .iaddr 1 (.t 28) (.t 32)⟩, ⟨some 34, some (21, true), .load none (.t 33)⟩, ⟨some 35, some (21, true), .call 73 [(.t 27), (.t 34)]⟩, ⟨some 36, none, .pick (.t 21) (.t 35) (.c (.bool false))⟩] (some [(10, 17)]))
 (.cond (.t 36) (.reg [⟨some 37, none, .mov (.t 9)⟩, ⟨some 38, none, .bin .add (.t 37) (.c (.int .i64 1))⟩, ⟨some 9, none, .mov (.t 38)⟩] none) .skip))
 (.seq (.seq (.reg [⟨some 39, none, .mov (.t 0)⟩, ⟨some 40, none, .mov (.t 3)⟩, ⟨some 41, none, .mov (.t 8)⟩, ⟨some 42, none, .bin .add (.t 40) (.t 41)⟩, ⟨some 43, none, .iaddr 1 (.t 39) (.t 42)⟩, ⟨some 44, none, .load none (.t 43)⟩, ⟨some 45, none, .mov (.t 0)⟩, ⟨some 46, none, .mov (.t 3)⟩, ⟨some 47, none, .mov (.t 9)⟩, ⟨some 48, none, .bin .add (.t 46) (.t 47)⟩, ⟨some 49, none, .iaddr 1 (.t 45) (.t 48)⟩, ⟨some 50, none, .load none (.t 49)⟩, ⟨some 51, none, .call 73 [(.t 44), (.t 50)]⟩, ⟨some 52, none, .un .not (.t 51)⟩] (some [(5, 11)]))
 (.cond (.t 52) .ret .skip))
 (.seq (.reg [⟨some 53, none, .mov (.t 0)⟩, ⟨some 54, none, .mov (.t 3)⟩, ⟨some 55, none, .mov (.t 8)⟩, ⟨some 56, none, .bin .add (.t 54) (.t 55)⟩, ⟨some 57, none, .mov (.t 0)⟩, ⟨some 58, none, .mov (.t 3)⟩, ⟨some 59, none, .mov (.t 9)⟩, ⟨some 60, none, .bin .add (.t 58) (.t 59)⟩, ⟨some 61, none, .mov (.t 0)⟩, ⟨some 62, none, .mov (.t 3)⟩, ⟨some 63, none, .mov (.t 9)⟩, ⟨some 64, none, .bin .add (.t 62) (.t 63)⟩, ⟨some 65, none, .iaddr 1 (.t 61) (.t 64)⟩, ⟨some 66, none, .load none (.t 65)⟩, ⟨some 67, none, .mov (.t 0)⟩, ⟨some 68, none, .mov (.t 3)⟩, ⟨some 69, none, .mov (.t 8)⟩, ⟨some 70, none, .bin .add (.t 68) (.t 69)⟩, ⟨some 71, none, .iaddr 1 (.t 67) (.t 70)⟩, ⟨some 72, none, .load none (.t 71)⟩, ⟨some 73, none, .iaddr 1 (.t 53) (.t 56)⟩, ⟨none, none, .store 1 (.t 73) (.t 66)⟩, ⟨some 74, none, .iaddr 1 (.t 57) (.t 60)⟩, ⟨none, none, .store 1 (.t 74) (.t 72)⟩] (some [(13, 19)]))
 (.reg [⟨some 75, none, .mov (.t 9)⟩, ⟨some 8, none, .mov (.t 75)⟩] none))))))))))
theorem f84 : FnIs Try.prog 84 76 c84 [] := ⟨_, Try.func84, rfl, by kernel_rfl, rfl⟩
def c85 : AC := (.seq (.reg [⟨some 6, none, .mov (.c (.int .i64 0))⟩] none)
 (.seq (.reg [⟨some 7, none, .mov (.t 0)⟩, ⟨some 8, none, .mov (.t 1)⟩, ⟨some 9, none, .bin .sub (.t 8) (.c (.int .i64 1))⟩, ⟨some 10, none, .mov (.t 1)⟩, ⟨some 11, none, .mov (.t 1)⟩, ⟨some 12, none, .bin .add (.t 11) (.c (.int .i64 1))⟩, ⟨some 13, none, .mov (.t 2)⟩, ⟨some 14, none, .call 86 [(.t 7), (.t 9), (.t 10), (.t 12), (.t 13)]⟩, ⟨some 6, none, .mov (.t 14)⟩] none)
 .ret))
theorem f85 : FnIs Try.prog 85 15 c85 [.tmp 6] := ⟨_, Try.func85, rfl, by kernel_rfl, rfl⟩
def c86 : AC := (.seq (.reg [⟨some 10, none, .mov (.c (.int .i64 0))⟩] none)
 (.seq (.reg [⟨some 12, none, .mov (.t 0)⟩, ⟨some 13, none, .mov (.t 1)⟩, ⟨some 14, none, .mov (.t 2)⟩, ⟨some 15, none, .mov (.t 4)⟩, ⟨some 16, none, .call 88 [(.t 12), (.t 13), (.t 14), (.t 15)]⟩, ⟨some 11, none, .mov (.t 16)⟩, ⟨some 17, none, .ext (.t 11) 0⟩, ⟨some 18, none, .ext (.t 11) 1⟩, ⟨some 1, none, .mov (.t 17)⟩, ⟨some 2, none, .mov (.t 18)⟩] none)
 (.seq (.reg [⟨some 20, none, .mov (.t 0)⟩, ⟨some 21, none, .mov (.t 2)⟩, ⟨some 22, none, .mov (.t 3)⟩, ⟨some 23, none, .mov (.t 4)⟩, ⟨some 24, none, .call 88 [(.t 20), (.t 21), (.t 22), (.t 23)]⟩, ⟨some 19, none, .mov (.t 24)⟩, ⟨some 25, none, .ext (.t 19) 0⟩, ⟨some 26, none, .ext (.t 19) 1⟩, ⟨some 2, none, .mov (.t 25)⟩, ⟨some 3, none, .mov (.t 26)⟩] none)
 (.seq (.reg [⟨some 28, none, .mov (.t 0)⟩, ⟨some 29, none, .mov (.t 1)⟩, ⟨some 30, none, .mov (.t 2)⟩, ⟨some 31, none, .mov (.t 4)⟩, ⟨some 32, none, .call 88 [(.t 28), (.t 29), (.t 30), (.t 31)]⟩, ⟨some 27, none, .mov (.t 32)⟩, ⟨some 33, none, .ext (.t 27) 0⟩, ⟨some 34, none, .ext (.t 27) 1⟩, ⟨some 1, none, .mov (.t 33)⟩, ⟨some 2, none, .mov (.t 34)⟩] none)
 (.seq (.reg [⟨some 35, none, .mov (.t 2)⟩, ⟨some 10, none, .mov (.t 35)⟩] none)
 .ret)))))
theorem f86 : FnIs Try.prog 86 36 c86 [.tmp 10] := ⟨_, Try.func86, rfl, by kernel_rfl, rfl⟩
def c87 : AC := (.seq (.reg [⟨some 10, none, .mov (.c (.int .i64 0))⟩, ⟨some 11, none, .mov (.c (.int .i64 0))⟩] none)
 (.seq (.seq (.reg [⟨some 12, none, .mov (.t 4)⟩, ⟨some 13, none, .mov (.t 0)⟩, ⟨some 14, none, .mov (.t 2)⟩, ⟨some 15, none, .iaddr 2 (.t 13) (.t 14)⟩, ⟨some 16, none, .load (some 2) (.t 15)⟩, ⟨some 17, none, .mov (.t 0)⟩, ⟨some 18, none, .mov (.t 1)⟩, ⟨some 19, none, .iaddr 2 (.t 17) (.t 18)⟩, ⟨some 20, none, .load (some 2) (.t 19)⟩, ⟨some 21, none, .callv (.t 12) [(.t 16), (.t 20)]⟩, ⟨some 22, none, .bin .lss (.t 21) (.c (.int .i64 0))⟩] (some [(4, 8)]))
 (.cond (.t 22) (.seq (.reg [⟨some 23, none, .mov (.t 3)⟩, ⟨some 24, none, .nilck (.t 23)⟩, ⟨some 25, none, .load none (.t 24)⟩, ⟨some 26, none, .bin .add (.t 25) (.c (.int .i64 1))⟩, ⟨some 27, none, .nilck (.t 23)⟩, ⟨none, none, .store 1 (.t 27) (.t 26)⟩] none)
 (.seq (.reg [⟨some 28, none, .mov (.t 2)⟩, ⟨some 29, none, .mov (.t 1)⟩, ⟨some 10, none, .mov (.t 28)⟩, ⟨some 11, none, .mov (.t 29)⟩] none)
 .ret)) .skip))
 (.seq (.reg [⟨some 30, none, .mov (.t 1)⟩, ⟨some 31, none, .mov (.t 2)⟩, ⟨some 10, none, .mov (.t 30)⟩, ⟨some 11, none, .mov (.t 31)⟩] none)
 .ret)))
theorem f87 : FnIs Try.prog 87 32 c87 [.tmp 10, .tmp 11] := ⟨_, Try.func87, rfl, by kernel_rfl, rfl⟩
def c88 : AC := (.seq (.reg [⟨some 8, none, .mov (.c (.int .i64 0))⟩, ⟨some 9, none, .mov (.c (.int .i64 0))⟩] none)
 (.seq (.seq (.reg [⟨some 10, none, .mov (.t 0)⟩, ⟨some 11, none, .mov (.t 2)⟩, ⟨some 12, none, .iaddr 1 (.t 10) (.t 11)⟩, ⟨some 13, none, .load none (.t 12)⟩, ⟨some 14, none, .mov (.t 0)⟩, ⟨some 15, none, .mov (.t 1)⟩, ⟨some 16, none, .iaddr 1 (.t 14) (.t 15)⟩, ⟨some 17, none, .load none (.t 16)⟩, ⟨some 18, none, .call 73 [(.t 13), (.t 17)]⟩] (some [(3, 7)]))
 (.cond (.t 18) (.seq (.reg [⟨some 19, none, .mov (.t 3)⟩, ⟨some 20, none, .nilck (.t 19)⟩, ⟨some 21, none, .load none (.t 20)⟩, ⟨some 22, none, .bin .add (.t 21) (.c (.int .i64 1))⟩, ⟨some 23, none, .nilck (.t 19)⟩, ⟨none, none, .store 1 (.t 23) (.t 22)⟩] none)
 (.seq (.reg [⟨some 24, none, .mov (.t 2)⟩, ⟨some 25, none, .mov (.t 1)⟩, ⟨some 8, none, .mov (.t 24)⟩, ⟨some 9, none, .mov (.t 25)⟩] none)
 .ret)) .skip))
 (.seq (.reg [⟨some 26, none, .mov (.t 1)⟩, ⟨some 27, none, .mov (.t 2)⟩, ⟨some 8, none, .mov (.t 26)⟩, ⟨some 9, none, .mov (.t 27)⟩] none)
 .ret)))
theorem f88 : FnIs Try.prog 88 28 c88 [.tmp 8, .tmp 9] := ⟨_, Try.func88, rfl, by kernel_rfl, rfl⟩
end Go.Proofs.Ytobokfclaooloaa.C
end
section
set_option linter.unusedVariables false
set_option linter.unusedSimpArgs false
namespace Go.Av
section
variable {P : Program} {N : Nat} {s : St} {Q : AExit → St → Prop}
theorem Wp.seqReg {items : List AItem} {p : Option (List (Nat × Nat))} {y : AC} {t' : Tm} {h' : H} {log : List Ent} (he : evalOps items s.t s.h [] = ([], t', h', log)) (hp : pairsQ p log.reverse) (h : Wp P N y ⟨t', h'⟩ Q) : Wp P N (.seq (.reg items p) y) s Q :=
  Wp.seq (Wp.reg (WpItems.eval he (WpItems.nil ⟨hp, h⟩)))
theorem Wp.reg1 {items : List AItem} {p : Option (List (Nat × Nat))} {t' : Tm} {h' : H} {log : List Ent} (he : evalOps items s.t s.h [] = ([], t', h', log)) (hp : pairsQ p log.reverse) (h : Q .normal ⟨t', h'⟩) : Wp P N (.reg items p) s Q :=
  Wp.reg (WpItems.eval he (WpItems.nil ⟨hp, h⟩))
theorem Wp.seqItems {items its : List AItem} {p : Option (List (Nat × Nat))} {y : AC} {t' : Tm} {h' : H} {log : List Ent} (he : evalOps items s.t s.h [] = (its, t', h', log)) (h : WpItems P N its t' h' log fun t h l => pairsQ p l ∧ Wp P N y ⟨t, h⟩ Q) : Wp P N (.seq (.reg items p) y) s Q :=
  Wp.seq (Wp.reg (WpItems.eval he h))
theorem Wp.items {items its : List AItem} {p : Option (List (Nat × Nat))} {t' : Tm} {h' : H} {log : List Ent} (he : evalOps items s.t s.h [] = (its, t', h', log)) (h : WpItems P N its t' h' log fun t h l => pairsQ p l ∧ Q .normal ⟨t, h⟩) : Wp P N (.reg items p) s Q :=
  Wp.reg (WpItems.eval he h)
def tm : List (Nat × AV) → Tm
  | [] => fun _ => .any
  | (i, v) :: l => upd (tm l) i v
def AllSub (t : Tm) : List (Nat × AV) → Prop
  | [] => True
  | (i, v) :: l => VSub (t i) v ∧ AllSub t l
theorem tm_le {t : Tm} : ∀ {l : List (Nat × AV)}, AllSub t l → ∀ i, VSub (t i) (tm l i)
  | [], _, i => VSub.any _
  | (k, v) :: l, h, i => by
    simp only [tm, upd]
    split
    · rename_i e; subst e; exact h.1
    · exact tm_le h.2 i
theorem StLe.tm {t : Tm} {h : H} {l : List (Nat × AV)} (hs : AllSub t l) : StLe ⟨t, h⟩ ⟨Av.tm l, h⟩ := StLe.mk' (tm_le hs) h.sub_refl.le (Nat.le_refl _) (Nat.le_refl _)
theorem Wp.loopT {β : Type} (S : β → List (Nat × AV)) (I : β → Prop) (μ : β → Nat) {c : AC} {h : H} {t : Tm} (b0 : β) (h0 : I b0) (hs : AllSub t (S b0))
    (round : ∀ b, I b → Wp P N c ⟨tm (S b), h⟩ (AExit.andThen (fun s' => ∃ b', I b' ∧ μ b' < μ b ∧ StLe s' ⟨tm (S b'), h⟩) Q)) : Wp P N (.loop c) ⟨t, h⟩ Q :=
  Wp.loop (fun b => ⟨tm (S b), h⟩) I μ b0 h0 (StLe.tm hs) round
theorem AllSub.append {t : Tm} : ∀ {l m : List (Nat × AV)}, AllSub t l → AllSub t m → AllSub t (l ++ m)
  | [], _, _, h => h
  | (_, _) :: _, _, h, h' => ⟨h.1, AllSub.append h.2 h'⟩
theorem AllSub.self {t : Tm} : ∀ (L : List Nat), AllSub t (L.map fun i => (i, t i))
  | [] => trivial
  | _ :: L => ⟨VSub.refl _, AllSub.self L⟩
theorem Wp.loopK {β : Type} (L : List Nat) {K : List (Nat × AV)} {c : AC} {h : H} {t : Tm} (hK : (L.map fun i => (i, t i)) = K) (ch : β → List (Nat × AV)) (I : β → Prop) (μ : β → Nat) (b0 : β) (h0 : I b0) (hs : AllSub t (ch b0))
    (round : ∀ b, I b → Wp P N c ⟨tm (K ++ ch b), h⟩ (AExit.andThen (fun s' => ∃ b', I b' ∧ μ b' < μ b ∧ StLe s' ⟨tm (K ++ ch b'), h⟩) Q)) : Wp P N (.loop c) ⟨t, h⟩ Q :=
  Wp.loopT (fun b => K ++ ch b) I μ b0 h0 (AllSub.append (hK ▸ AllSub.self L) hs) round
theorem Wp.loopH {β : Type} (L : List Nat) {K : List (Nat × AV)} {c : AC} {h : H} {t : Tm} (hK : (L.map fun i => (i, t i)) = K) (ch : β → List (Nat × AV)) (hp : β → H) (I : β → Prop) (μ : β → Nat) (b0 : β) (h0 : I b0) (hh : h = hp b0) (hs : AllSub t (ch b0))
    (round : ∀ b, I b → Wp P N c ⟨tm (K ++ ch b), hp b⟩ (AExit.andThen (fun s' => ∃ b', I b' ∧ μ b' < μ b ∧ StLe s' ⟨tm (K ++ ch b'), hp b'⟩) Q)) : Wp P N (.loop c) ⟨t, h⟩ Q :=
  Wp.loop (fun b => ⟨tm (K ++ ch b), hp b⟩) I μ b0 h0 (hh ▸ StLe.tm (AllSub.append (hK ▸ AllSub.self L) hs)) round
theorem VSub.int {k : IntKind} {a b : Int} (h : a = b) : VSub (.int k a) (.int k b) := h ▸ VSub.refl _
theorem VSub.of_eq {x y : AV} (h : x = y) : VSub x y := h ▸ VSub.refl _
def capPure : Cap → Bool
  | .own _ => false
  | _ => true
mutual
def isPure : AV → Bool
  | .sl _ xs c => capPure c && allPure xs
  | .ref cs => allPure cs
  | .agg cs => allPure cs
  | .tup cs => allPure cs
  | .ptr _ _ | .tsl _ _ _ _ _ | .mp _ | .yld _ => false
  | .clo _ a b => allPure a && allPure b
  | .ifc _ x => isPure x
  | .slt _ xs ys => allPure xs && allPure ys
  | _ => true
def allPure : List AV → Bool
  | [] => true
  | x :: xs => isPure x && allPure xs
end
mutual
theorem isPure_ok : ∀ (x : AV), isPure x = true → VPure x
  | .any, _ => fun _ _ _ _ _ _ h => h
  | .int _ _, _ => fun _ _ _ _ _ _ h => h
  | .bool _, _ => fun _ _ _ _ _ _ h => h
  | .str _, _ => fun _ _ _ _ _ _ h => h
  | .sc _, _ => fun _ _ _ _ _ _ h => h
  | .sl sz xs c, hp => by
    simp only [isPure, Bool.and_eq_true] at hp
    intro G G' w v e1 e2 h
    simp only [VRel] at h ⊢
    rcases h with h | ⟨B, off, C, vs, h1, h2, h3, h4, h5, h6⟩
    · exact .inl h
    · refine .inr ⟨B, off, C, vs, h1, h2, h3, allPure_els xs hp.2 G G' w sz vs e1 e2 h4, fun i v hv => ?_, ?_⟩
      · rw [e1, e2]; exact h5 i v hv
      · cases c with
        | own t => simp [capPure] at hp
        | any => trivial
        | exact k => exact h6
  | .ref cs, hp => by
    simp only [isPure] at hp
    intro G G' w v e1 e2 h
    simp only [VRel] at h ⊢
    obtain ⟨B, off, vs, h1, h2, h3⟩ := h
    exact ⟨B, off, vs, h1, allPure_ok cs hp G G' w vs e1 e2 h2, fun i v hv => by rw [e1, e2]; exact h3 i v hv⟩
  | .agg cs, hp => by
    simp only [isPure] at hp
    intro G G' w v e1 e2 h
    simp only [VRel] at h ⊢
    obtain ⟨vs, h1, h2⟩ := h
    exact ⟨vs, h1, allPure_ok cs hp G G' w vs e1 e2 h2⟩
  | .tup cs, hp => by
    simp only [isPure] at hp
    intro G G' w v e1 e2 h
    simp only [VRel] at h ⊢
    obtain ⟨vs, h1, h2⟩ := h
    exact ⟨vs, h1, allPure_ok cs hp G G' w vs e1 e2 h2⟩
  | .ptr _ _, hp => by simp [isPure] at hp
  | .tsl _ _ _ _ _, hp => by simp [isPure] at hp
  | .mp _, hp => by simp [isPure] at hp
  | .yld _, hp => by simp [isPure] at hp
  | .slt sz xs ys, hp => by
    simp only [isPure, Bool.and_eq_true] at hp
    intro G G' w v e1 e2 h
    simp only [VRel] at h ⊢
    obtain ⟨B, off, C, us, vs, h1, h2, h3, h4, h5, h6⟩ := h
    exact ⟨B, off, C, us, vs, h1, h2, h3, allPure_els xs hp.1 G G' w sz us e1 e2 h4, allPure_els ys hp.2 G G' w sz vs e1 e2 h5, fun i v hv => by rw [e1, e2]; exact h6 i v hv⟩
  | .clo f a b, hp => by
    simp only [isPure, Bool.and_eq_true] at hp
    intro G G' w v e1 e2 h
    simp only [VRel] at h ⊢
    obtain ⟨vs, us, h1, h2, h3⟩ := h
    exact ⟨vs, us, h1, allPure_ok a hp.1 G G' w vs e1 e2 h2, allPure_ok b hp.2 G G' w us e1 e2 h3⟩
  | .ifc t x, hp => by
    simp only [isPure] at hp
    intro G G' w v e1 e2 h
    simp only [VRel] at h ⊢
    obtain ⟨u, h1, h2⟩ := h
    exact ⟨u, h1, isPure_ok x hp G G' w u e1 e2 h2⟩
theorem allPure_ok : ∀ (l : List AV), allPure l = true → VPures l
  | [], _ => fun _ _ _ _ _ _ h => by simpa only [VRels] using h
  | x :: xs, hp => by
    simp only [allPure, Bool.and_eq_true] at hp
    intro G G' w vs e1 e2 h
    simp only [VRels] at h ⊢
    obtain ⟨v, us, h1, h2, h3⟩ := h
    exact ⟨v, us, h1, isPure_ok x hp.1 G G' w v e1 e2 h2, allPure_ok xs hp.2 G G' w us e1 e2 h3⟩
theorem allPure_els : ∀ (l : List AV), allPure l = true → ∀ (G G' : Ghost) (w : World) (sz : Nat) (vs : List Value), G'.own = G.own → G'.lim = G.lim → VElems G w sz l vs → VElems G' w sz l vs
  | [], _ => fun _ _ _ _ _ _ _ h => by simpa only [VElems] using h
  | x :: xs, hp => by
    simp only [allPure, Bool.and_eq_true] at hp
    intro G G' w sz vs e1 e2 h
    simp only [VElems] at h ⊢
    obtain ⟨v, us, h1, h2, h3, h4⟩ := h
    exact ⟨v, us, h1, h2, isPure_ok x hp.1 G G' w v e1 e2 h3, allPure_els xs hp.2 G G' w sz us e1 e2 h4⟩
end
theorem allPure_map {α : Type} {f : α → AV} (h : ∀ x, isPure (f x) = true) : ∀ l : List α, allPure (l.map f) = true
  | [] => rfl
  | x :: l => by simp [allPure, h x, allPure_map h l]
def strs (l : List (List UInt8)) : List AV := l.map .str
def ints (l : List Int) : List AV := l.map (.int .i64)
theorem bytes_pure (l : List UInt8) : allPure (bytesAV l) = true := allPure_map (fun _ => rfl) l
theorem strs_length (l : List (List UInt8)) : (strs l).length = l.length := by simp [strs]
theorem ints_length (l : List Int) : (ints l).length = l.length := by simp [ints]
theorem bytes_length (l : List UInt8) : (bytesAV l).length = l.length := by simp [bytesAV]
theorem bytes_getD (l : List UInt8) (k : Nat) (d : AV) (h : k < l.length) : (bytesAV l).getD k d = byte (l.getD k 0) := by
  simp [bytesAV, List.getD, List.getElem?_map, List.getElem?_eq_getElem h]
theorem unBytes_bytes (l : List UInt8) : unBytes (bytesAV l) = some l := by
  induction l with
  | nil => rfl
  | cons b l ih =>
    have : unBytes (List.map byte l) = some l := ih
    simp [bytesAV, unBytes, unByte, byte, this]
end
def lit : Bool → Bool
  | true => true
  | false => true
def pk : Bool → AC → AC → AC
  | true, x, _ => x
  | false, _, y => y
theorem Wp.cond_lit {P : Program} {N : Nat} {s : St} {Q : AExit → St → Prop} {c : Opd} {x y : AC} {b : Bool} (hb : ev s.t c = .bool b) (_ : lit b = true) (h : Wp P N (pk b x y) s Q) : Wp P N (.cond c x y) s Q := by
  cases b
  · exact Wp.cond_false hb h
  · exact Wp.cond_true hb h
theorem bx : ((false = true) = False) ∧ (∀ b : Bool, (true == b) = b) ∧ (∀ b : Bool, (false == b) = !b) ∧ ((!true) = false) ∧ ((!false) = true) :=
  ⟨Bool.false_eq_true, Bool.true_beq, Bool.false_beq, Bool.not_true, Bool.not_false⟩
theorem ax : (∀ p : Prop, (p ∧ p) = p) ∧ (∀ p : Prop, (True ∧ p) = p) ∧ (∀ p : Prop, (p ∧ True) = p) ∧ (∀ p : Prop, (True ∨ p) = True) ∧ (∀ p : Prop, (p ∨ True) = True) ∧ (∀ n : Nat, 0 * n = 0) ∧ (∀ n : Nat, 1 * n = n) ∧ (∀ n : Nat, 0 ≤ n)
    ∧ (∀ h : Decidable True, @decide True h = true) ∧ (∀ h : Decidable False, @decide False h = false) ∧ (∀ n : Nat, ((n : Nat) : Int).toNat = n) ∧ (∀ (α : Type) (a b : List α), (a ++ b).length = a.length + b.length)
    ∧ (∀ (α : Type) (p : α → Bool) (x : α) (l : List α), List.filter p (x :: l) = if p x = true then x :: List.filter p l else List.filter p l) ∧ (∀ (α : Type) (p : α → Bool), List.filter p [] = []) ∧ (∀ (α : Type) (a b : α), (a ≠ b) = ¬ (a = b)) ∧ ((¬ True) = False) ∧ ((¬ False) = True) :=
  ⟨and_self, true_and, and_true, true_or, or_true, Nat.zero_mul, Nat.one_mul, Nat.zero_le, fun _ => decide_true _, fun _ => decide_false _, Int.toNat_natCast, fun _ _ _ => List.length_append, fun _ _ _ _ => List.filter_cons, fun _ _ => List.filter_nil, fun _ _ _ => rfl, not_true_eq_false, not_false_eq_true⟩
attribute [go_sem] undef evalOps guardOf aop ev putT upd initT H0 H.only none' isCell cellsOf shaped part bin binInt binStr binShift isShift unop eqB eqP eqN eqA eqCells eqCell mm mfind lookAV putEs delEs eqM slice bound capCut setAt putParts tm
  strs_length ints_length bytes_length List.getElem?_cons_zero List.getElem?_cons_succ List.getD_cons_zero List.getD_cons_succ Option.map_some Option.map_none Option.bind_some Option.bind_none List.all_cons List.all_nil Bool.and_self Bool.true_and Bool.and_true
  List.length_cons List.length_nil List.map_cons List.map_nil List.drop_succ_cons List.drop_zero List.take_succ_cons List.take_zero List.drop_nil List.take_nil Nat.zero_add Nat.add_zero List.append_nil List.nil_append List.cons_append Bool.or_false Bool.false_or Bool.or_true Bool.true_or
end Go.Av
end
section
set_option linter.unusedVariables false
set_option linter.unusedSimpArgs false
namespace Go.Av
section
variable {P : Program} {N : Nat}
theorem touch_retok' (h : H) {tk tk' m' : Nat} (htk : tk ∈ h.toks) (hm : h.m ≤ m') : Touch h (.only none' [tk] h.n h.m) (.only none' [tk'] h.n m') { h with toks := tk' :: h.toks.filter (· ≠ tk), m := m' } ⟨[], [], [tk, tk']⟩ where
  sub := ⟨fun j o x => by simp [H.only, none'] at x, fun t x => by simp only [H.only, List.mem_singleton] at x; subst x; exact htk⟩
  n := rfl
  m := rfl
  eq := H.ext (fun j => by simp [H.patch, H.only, none']; omega) rfl (by
    simp only [H.patch, H.only, List.singleton_append, List.cons.injEq, true_and]
    apply List.filter_congr
    intro y _
    simp) rfl
  rd j x := by simp [H.only, none'] at x
  wr id a b := by simp only [H.only] at a b; omega
  chg j x hj := by simp [H.only, none'] at x
  tk t x := by simp only [H.only, List.mem_singleton] at x; subst x; simp
  tn t x := by simp only [H.only, List.mem_singleton] at x; subst x; simp
  le := Nat.le_refl _
  lem := hm
def TCalls (P : Program) (f : FuncId) (args : Nat → List AV) (r : Nat → AV) : Prop := ∀ t n m, ∃ t' m', m ≤ m' ∧ ACalls P f (args t) (.only none' [t] n m) (r t') (.only none' [t'] n m')
theorem WpItems.tcall {dst : Option Nat} {g : Option (Nat × Bool)} {f : FuncId} {l : List Opd} {its : List AItem} {t : Tm} {h : H} {log : List Ent} {K : Tm → H → List Ent → Prop} {args : Nat → List AV} {r : Nat → AV} (tk : Nat) (hg : guardOf t g = some true) (hs : VSubs (l.map (ev t)) (args tk)) (hk : tk ∈ h.toks) (hc : TCalls P f args r)
    (rest : ∀ tk' m', h.m ≤ m' → WpItems P N its (putT t dst (r tk')) { h with toks := tk' :: h.toks.filter (· ≠ tk), m := m' } (⟨[], [], [tk, tk']⟩ :: log) K) : WpItems P N (⟨dst, g, .call f l⟩ :: its) t h log K := by
  obtain ⟨tk', m', hm, ha⟩ := hc tk h.n h.m
  exact WpItems.acall hg hs ha (touch_retok' h hk hm) (rest tk' m' hm)
variable {s : St} {Q : AExit → St → Prop}
theorem Wp.loopTok {β : Type} (L : List Nat) {K : List (Nat × AV)} {c : AC} {h : H} {t : Tm} (hK : (L.map fun i => (i, t i)) = K) (ch : β → Nat → List (Nat × AV)) (I : β → Prop) (μ : β → Nat) (b0 : β) (tk : Nat) (h0 : I b0) (hh : h.toks = [tk]) (hs : AllSub t (ch b0 tk))
    (round : ∀ b tk m, I b → Wp P N c ⟨tm (K ++ ch b tk), { h with toks := [tk], m := m }⟩ (AExit.andThen (fun s' => ∃ b' tk' m', I b' ∧ μ b' < μ b ∧ StLe s' ⟨tm (K ++ ch b' tk'), { h with toks := [tk'], m := m' }⟩) Q)) : Wp P N (.loop c) ⟨t, h⟩ Q := by
  refine Wp.loopH (β := β × Nat × Nat) L hK (fun j => ch j.1 j.2.1) (fun j => { h with toks := [j.2.1], m := j.2.2 }) (fun j => I j.1) (fun j => μ j.1) (b0, tk, h.m) h0 (by cases h; simp only at hh; subst hh; rfl) hs ?_
  rintro ⟨b, tk, m⟩ hb
  refine Wp.mono (round b tk m hb) ?_
  intro e s' h
  cases e with
  | normal => obtain ⟨b', tk', m', h1, h2, h3⟩ := h; exact ⟨(b', tk', m'), h1, h2, h3⟩
  | exit id => exact h
  | goto l => exact h
  | ret => exact h
  | panic v => exact h
end
section
variable {P : Program} {N : Nat}
def RCalls (P : Program) (f : FuncId) (args : List AV) (objs : Nat → Option Obj) (r : AV) : Prop := ∀ n m, ACalls P f args (.only objs [] n m) r (.only objs [] n m)
theorem WpItems.rcall {dst : Option Nat} {g : Option (Nat × Bool)} {f : FuncId} {l : List Opd} {its : List AItem} {t : Tm} {h : H} {log : List Ent} {K : Tm → H → List Ent → Prop} {vals : List AV} {r : AV} {objs : Nat → Option Obj} (ids : List Nat) (hg : guardOf t g = some true) (hs : VSubs (l.map (ev t)) vals)
    (ho : ∀ id o, objs id = some o → h.objs id = some o) (hi : ∀ id, (objs id).isSome → id ∈ ids) (hc : RCalls P f vals objs r)
    (rest : WpItems P N its (putT t dst r) h (⟨ids, [], []⟩ :: log) K) : WpItems P N (⟨dst, g, .call f l⟩ :: its) t h log K :=
  WpItems.acall hg hs (hc h.n h.m) (touch_see h ho hi) rest
theorem FnIs.rcalls {f : FuncId} {ac : AC} {args : List AV} {objs : Nat → Option Obj} {ds : List RV} {r : AV} (hF : FnIs P f N ac ds) (hl : args.length ≤ N) (hw : ∀ n m, Wp P N ac ⟨initT args, .only objs [] n m⟩ fun e s' => isEnd e ∧ ∃ q, resOf ds s'.t s'.h = some q ∧ q = r ∧ s'.h = .only objs [] n m) : RCalls P f args objs r := by
  intro n m
  obtain ⟨r', h', ha, e1, e2⟩ := hF.acalls (Q := fun q h => q = r ∧ h = .only objs [] n m) hl (hw n m)
  subst e1 e2
  exact ha
end
theorem filter_self (t : Nat) : List.filter (fun x => decide (x ≠ t)) [t] = [] := by simp
theorem id_ne1 (k : Nat) : (k = k + 1) = False := by simp
theorem id_ne2 (k : Nat) : (k + 1 = k) = False := by simp
attribute [go_sem] id_ne1 id_ne2 filter_self List.mem_singleton List.mem_cons true_or
end Go.Av
end
section
set_option linter.unusedVariables false
set_option linter.unusedSimpArgs false
namespace Go.Av
structure Fun where
  N : Nat
  ac : AC
  ds : List RV
inductive FT where
  | leaf
  | node (k : Nat) (F : Fun) (l r : FT)
def FT.get (f : Nat) : FT → Option Fun
  | .leaf => none
  | .node k F l r => match Nat.beq f k with
    | true => some F
    | false => match Nat.ble f k with
      | true => FT.get f l
      | false => FT.get f r
def FT.Ok (P : Program) : FT → Prop
  | .leaf => True
  | .node k F l r => FnIs P k F.N F.ac F.ds ∧ l.Ok P ∧ r.Ok P
def FT.named (P : Program) : FT → Bool
  | .leaf => true
  | .node k F l r => ((P.funcs[k]?).any fun fn => fn.name != "runtime.NumGoroutine") && l.named P && r.named P
theorem FT.get_ok {P : Program} {f : Nat} {F : Fun} : ∀ {T : FT}, T.Ok P → T.named P = true → T.get f = some F → FnIs P f F.N F.ac F.ds ∧ ∃ fn, P.funcs[f]? = some fn ∧ fn.body.isSome = true ∧ fn.name ≠ "runtime.NumGoroutine"
  | .leaf, _, _, h => by cases h
  | .node k F' l r, ok, nm, h => by
    simp only [FT.named, Bool.and_eq_true] at nm
    simp only [FT.get] at h
    split at h
    · rename_i e
      cases h
      have e := Nat.eq_of_beq_eq_true e
      subst e
      refine ⟨ok.1, ?_⟩
      obtain ⟨fn, h1, h2, h3, h4⟩ := ok.1
      refine ⟨fn, h1, ?_, ?_⟩
      · obtain ⟨code, hb, _⟩ := Option.bind_eq_some_iff.1 h3
        rw [hb]; rfl
      · have := nm.1.1
        rw [h1] at this
        simpa using this
    · split at h
      · exact FT.get_ok ok.2.1 nm.1.2 h
      · exact FT.get_ok ok.2.2 nm.2 h
mutual
def idsA : AV → List Nat
  | .sl _ xs _ => idsAs xs
  | .ref cs => idsAs cs
  | .agg cs => idsAs cs
  | .tup cs => idsAs cs
  | .ptr i _ => [i]
  | .tsl _ i _ _ _ => [i]
  | .mp i => [i]
  | .yld i => [i]
  | .slt _ xs ys => idsAs xs ++ idsAs ys
  | .clo _ a b => idsAs a ++ idsAs b
  | .ifc _ x => idsA x
  | _ => []
def idsAs : List AV → List Nat
  | [] => []
  | x :: xs => match idsA x with
    | [] => idsAs xs
    | l => l ++ idsAs xs
end
def toksC : Cap → List Nat
  | .own t => [t]
  | _ => []
mutual
def toksA : AV → List Nat
  | .sl _ xs c => toksC c ++ toksAs xs
  | .ref cs => toksAs cs
  | .agg cs => toksAs cs
  | .tup cs => toksAs cs
  | .clo _ a b => toksAs a ++ toksAs b
  | .ifc _ x => toksA x
  | .slt _ xs ys => toksAs xs ++ toksAs ys
  | _ => []
def toksAs : List AV → List Nat
  | [] => []
  | x :: xs => match toksA x with
    | [] => toksAs xs
    | l => l ++ toksAs xs
end
def reach (objs : Nat → Option Obj) : Nat → List Nat → List Nat → List Nat
  | 0, _, seen => seen
  | _ + 1, [], seen => seen
  | k + 1, i :: todo, seen => match seen.contains i with
    | true => reach objs k todo seen
    | false => match objs i with
      | some (.cells cs) => reach objs k (idsAs cs ++ todo) (i :: seen)
      | some (.map es) => reach objs k (es.flatMap (fun e => idsA e.1 ++ idsA e.2) ++ todo) (i :: seen)
      | some (.loop _ _ _ _ _ _ _) => reach objs k todo seen
      | none => reach objs k todo seen
def toksIn (objs : Nat → Option Obj) (l : List Nat) : List Nat := l.flatMap fun j => match objs j with
  | some (.cells cs) => toksAs cs
  | some (.map es) => es.flatMap fun e => toksA e.1 ++ toksA e.2
  | some (.loop _ _ _ _ _ _ _) => []
  | none => []
def H.cut (h : H) (ids toks : List Nat) : H := ⟨fun j => match ids.contains j with | true => h.objs j | false => none, h.n, h.toks.filter fun t => toks.contains t, h.m⟩
def isEndB : AExit → Bool
  | .normal | .ret => true
  | _ => false
def pairsB : List (Nat × Nat) → List Ent → Bool
  | [], _ => true
  | (i, j) :: l, log =>
    let e := log.getD i ent0
    let f := log.getD j ent0
    e.wr.all (fun id => !f.rd.contains id && !f.wr.contains id) && f.wr.all (fun id => !e.rd.contains id && !e.wr.contains id) && e.tk.all (fun t => !f.tk.contains t) && pairsB l log
def pairsQB : Option (List (Nat × Nat)) → List Ent → Bool
  | none, _ => true
  | some l, log => pairsB l log
theorem pairsB_ok : ∀ {l : List (Nat × Nat)} {log : List Ent}, pairsB l log = true → pairsOk l log
  | [], _, _ => trivial
  | (i, j) :: l, log, h => by
    simp only [pairsB, Bool.and_eq_true, List.all_eq_true, Bool.not_eq_true', List.contains_eq_mem, decide_eq_false_iff_not] at h
    exact ⟨⟨fun id hid => h.1.1.1 id hid, fun id hid => h.1.1.2 id hid, fun t ht => h.1.2 t ht⟩, pairsB_ok h.2⟩
theorem pairsQB_ok {p : Option (List (Nat × Nat))} {log : List Ent} (h : pairsQB p log = true) : pairsQ p log := by
  cases p with
  | none => trivial
  | some l => exact pairsB_ok h
abbrev Prims := Nat → List AV → H → Option (AV × H × Ent)
def noPrims : Prims := fun _ _ _ => none
def callF (T : FT) (pr : Prims) (rn : Nat → AC → St → Option (AExit × St)) (f : Nat) (args : List AV) (h : H) : Option (AV × H × Ent) :=
  match pr f args h with
  | some r => some r
  | none => match T.get f with
  | none => none
  | some F => match Nat.ble args.length F.N with
    | false => none
    | true => match allPure args with
      | true => match rn F.N F.ac ⟨initT args, H0 h.n h.m⟩ with
        | some (e, s') => match isEndB e, resOf F.ds s'.t s'.h with
          | true, some r => match isPure r with
            | true => some (r, h, ent0)
            | false => match Nat.ble h.n s'.h.n && Nat.ble h.m s'.h.m with
              | true => some (r, h.patch (H0 h.n h.m) s'.h, ⟨[], (List.range (s'.h.n - h.n)).map (h.n + ·), s'.h.toks⟩)
              | false => none
          | _, _ => none
        | none => none
      | false =>
        let ids := reach h.objs 1000000 (idsAs args) []
        let h1 := h.cut ids (toksAs args ++ toksIn h.objs ids)
        match rn F.N F.ac ⟨initT args, h1⟩ with
        | some (e, s') => match isEndB e, resOf F.ds s'.t s'.h with
          | true, some r => match Nat.ble h.n s'.h.n && Nat.ble h.m s'.h.m with
            | true => some (r, h.patch h1 s'.h, ⟨[], ids ++ (List.range (s'.h.n - h.n)).map (h.n + ·), h1.toks ++ s'.h.toks⟩)
            | false => none
          | _, _ => none
        | none => none
def runItems (call : Nat → List AV → H → Option (AV × H × Ent)) : List AItem → Tm → H → List Ent → Option (Tm × H × List Ent)
  | [], t, h, l => some (t, h, l)
  | ⟨dst, g, op⟩ :: its, t, h, l => match guardOf t g with
    | some true => match op with
      | .call f args => match call f (args.map (ev t)) h with
        | some (r, h', en) => runItems call its (putT t dst r) h' (en :: l)
        | none => none
      | .callv y args => match ev t y with
        | .clo (.func f) first caps => match call f (first ++ args.map (ev t) ++ caps) h with
          | some (r, h', en) => runItems call its (putT t dst r) h' (en :: l)
          | none => none
        | _ => none
      | op => match aop (ev t) h op with
        | some (x, h', en) => runItems call its (putT t dst x) h' (en :: l)
        | none => none
    | some false => runItems call its (putT t dst (.sc undef)) h (ent0 :: l)
    | none => none
def lookN (l : List (Nat × Obj)) (i : Nat) : Option Obj := match l with
  | [] => none
  | (j, o) :: r => match Nat.beq i j with
    | true => some o
    | false => lookN r i
def norm (N : Nat) (s : St) : St :=
  let l := (List.range N).map s.t
  let o := (List.range s.h.n).filterMap fun j => (s.h.objs j).map fun x => (j, x)
  ⟨fun i => l.getD i .any, { s.h with objs := lookN o }⟩
theorem lookN_ok {f : Nat → Option Obj} : ∀ {l : List Nat} {i : Nat} {o : Obj}, lookN (l.filterMap fun j => (f j).map fun x => (j, x)) i = some o → f i = some o
  | [], i, o, h => by cases h
  | j :: l, i, o, h => by
    simp only [List.filterMap_cons] at h
    cases hj : f j with
    | none => rw [hj] at h; exact lookN_ok h
    | some x =>
      rw [hj] at h
      simp only [Option.map_some, lookN] at h
      split at h
      · rename_i e
        have e := Nat.eq_of_beq_eq_true e
        subst e; cases h; exact hj
      · exact lookN_ok h
theorem norm_le (N : Nat) (s : St) : StLe s (norm N s) := by
  refine StLe.mk' (fun i => ?_) (H.sub.le ⟨fun j o hj => lookN_ok hj, fun t x => x⟩) (Nat.le_refl _) (Nat.le_refl _)
  simp only [List.getD_eq_getElem?_getD, List.getElem?_map]
  cases h : (List.range N)[i]? with
  | none => exact VSub.any _
  | some k =>
    have : k = i := by
      obtain ⟨hlt, he⟩ := List.getElem?_eq_some_iff.1 h
      rw [List.getElem_range] at he
      exact he.symm
    subst this
    exact VSub.refl _
def runS (rn : AC → St → Option (AExit × St)) (nm : St → St) : Nat → AC → AC → St → Option (AExit × St)
  | 0, _, _, _ => none
  | k + 1, c, cur, s => match rn cur s with
    | some (.goto l, s') => match findL c l with
      | some rest => runS rn nm k c rest (nm s')
      | none => some (.goto l, s')
    | r => r
def run (T : FT) (pr : Prims) : Nat → Nat → AC → St → Option (AExit × St)
  | 0, _, _, _ => none
  | k + 1, N, c, s => match c with
    | .skip => some (.normal, s)
    | .ret => some (.ret, s)
    | .exit i => some (.exit i, s)
    | .reg items p => match runItems (callF T pr (run T pr k)) items s.t s.h [] with
      | some (t, h, l) => match pairsQB p l.reverse with
        | true => some (.normal, ⟨t, h⟩)
        | false => none
      | none => none
    | .seq a b => match run T pr k N a s with
      | some (.normal, s') => run T pr k N b s'
      | r => r
    | .cond c a b => match ev s.t c with
      | .bool true => run T pr k N a s
      | .bool false => run T pr k N b s
      | _ => none
    | .block id a => match run T pr k N a s with
      | some (.exit i, s') => match Nat.beq i id with
        | true => some (.normal, s')
        | false => some (.exit i, s')
      | r => r
    | .loop a => match run T pr k N a s with
      | some (.normal, s') => run T pr k N (.loop a) (norm N s')
      | r => r
    | .label _ => some (.normal, s)
    | .goto l => some (.goto l, s)
    | .scope a => runS (run T pr k N) (norm N) k a a s
    | .rfun _ _ _ _ => none
section
variable {P : Program} {T : FT}
def PrimsOk (P : Program) (pr : Prims) : Prop := ∀ f args h r h' en, pr f args h = some (r, h', en) → (∃ h1 h1', Touch h h1 h1' h' en ∧ ACalls P f args h1 r h1') ∧ ∃ fn, P.funcs[f]? = some fn ∧ fn.body.isSome = true ∧ fn.name ≠ "runtime.NumGoroutine"
theorem noPrims_ok : PrimsOk P noPrims := fun _ _ _ _ _ _ h => by cases h
def RunsOk (P : Program) (rn : Nat → AC → St → Option (AExit × St)) : Prop := ∀ N c s e s', rn N c s = some (e, s') → Wp P N c s fun e2 s2 => e2 = e ∧ s2 = s'
theorem isEndB_ok {e : AExit} (h : isEndB e = true) : isEnd e := by cases e <;> simp_all [isEndB, isEnd]
theorem acalls_run {rn : Nat → AC → St → Option (AExit × St)} (hr : RunsOk P rn) {f : Nat} {F : Fun} (hF : FnIs P f F.N F.ac F.ds) {args : List AV} (hl : args.length ≤ F.N) {h1 : H} {e : AExit} {s' : St} {r : AV}
    (hrun : rn F.N F.ac ⟨initT args, h1⟩ = some (e, s')) (he : isEndB e = true) (hres : resOf F.ds s'.t s'.h = some r) : ACalls P f args h1 r s'.h := by
  obtain ⟨r', h', hc, e1, e2⟩ := hF.acalls (args := args) (h := h1) (Q := fun q h => q = r ∧ h = s'.h) hl (Wp.mono (hr _ _ _ _ _ hrun) fun e2 s2 ⟨a, b⟩ => by
    subst a b
    exact ⟨isEndB_ok he, r, hres, rfl, rfl⟩)
  subst e1 e2
  exact hc
theorem touch_gen (h h1 h1' : H) {ids : List Nat} (hs : h1.sub h) (n : h1.n = h.n) (m : h1.m = h.m) (hi : ∀ id, (h1.objs id).isSome → id ∈ ids) (le : h.n ≤ h1'.n) (lem : h.m ≤ h1'.m) :
    Touch h h1 h1' (h.patch h1 h1') ⟨[], ids ++ (List.range (h1'.n - h.n)).map (h.n + ·), h1.toks ++ h1'.toks⟩ where
  sub := hs
  n := n
  m := m
  eq := rfl
  rd id x := .inr (List.mem_append_left _ (hi id x))
  wr id a b := List.mem_append_right _ (List.mem_map.2 ⟨id - h.n, by simp; omega, by omega⟩)
  chg id x hx := absurd (List.mem_append_left _ (hi id x)) hx
  tk t x := List.mem_append_left _ x
  tn t x := List.mem_append_right _ x
  le := by omega
  lem := by omega
theorem cut_sub (h : H) (ids toks : List Nat) : (h.cut ids toks).sub h := by
  refine ⟨fun j o hj => ?_, fun t ht => ?_⟩
  · simp only [H.cut] at hj
    split at hj
    · exact hj
    · cases hj
  · simp only [H.cut, List.mem_filter] at ht
    exact ht.1
theorem cut_ids (h : H) (ids toks : List Nat) (id : Nat) (hx : ((h.cut ids toks).objs id).isSome) : id ∈ ids := by
  simp only [H.cut] at hx
  split at hx
  · rename_i e; simpa using e
  · cases hx
theorem callF_ok (ok : T.Ok P) (nm : T.named P = true) {pr : Prims} (hpr : PrimsOk P pr) {rn : Nat → AC → St → Option (AExit × St)} (hr : RunsOk P rn) {f : Nat} {args : List AV} {h h' : H} {r : AV} {en : Ent} (hc : callF T pr rn f args h = some (r, h', en)) :
    (∃ h1 h1', Touch h h1 h1' h' en ∧ ACalls P f args h1 r h1') ∧ ∃ fn, P.funcs[f]? = some fn ∧ fn.body.isSome = true ∧ fn.name ≠ "runtime.NumGoroutine" := by
  unfold callF at hc
  split at hc
  · rename_i q hq
    cases hc
    exact hpr _ _ _ _ _ _ hq
  split at hc
  · cases hc
  · rename_i F hF
    obtain ⟨fi, fx⟩ := FT.get_ok ok nm hF
    refine ⟨?_, fx⟩
    split at hc
    · cases hc
    · rename_i hl
      have hl := Nat.le_of_ble_eq_true hl
      split at hc
      · rename_i hp
        split at hc
        · rename_i e s' hrun
          split at hc
          · rename_i r' he hres
            have ac := acalls_run hr fi hl hrun he hres
            split at hc
            · rename_i hpr
              cases hc
              exact ⟨_, _, touch_none h, ac.pure (allPure_ok _ hp) (VSub.refl _) (isPure_ok _ hpr)⟩
            · split at hc
              · rename_i hb
                cases hc
                simp only [Bool.and_eq_true] at hb
                refine ⟨_, _, ?_, ac⟩
                have := touch_gen h (H0 h.n h.m) s'.h (ids := []) ⟨fun j o hj => by simp [H0, H.only, none'] at hj, fun t ht => by simp [H0, H.only] at ht⟩ rfl rfl (fun id hx => by simp [H0, H.only, none'] at hx) (Nat.le_of_ble_eq_true hb.1) (Nat.le_of_ble_eq_true hb.2)
                simpa [H0, H.only] using this
              · cases hc
          · cases hc
        · cases hc
      · simp only at hc
        split at hc
        · rename_i e s' hrun
          split at hc
          · rename_i r' he hres
            have ac := acalls_run hr fi hl hrun he hres
            split at hc
            · rename_i hb
              cases hc
              simp only [Bool.and_eq_true] at hb
              exact ⟨_, _, touch_gen h _ s'.h (cut_sub h _ _) rfl rfl (cut_ids h _ _) (Nat.le_of_ble_eq_true hb.1) (Nat.le_of_ble_eq_true hb.2), ac⟩
            · cases hc
          · cases hc
        · cases hc
theorem runItems_ok {call : Nat → List AV → H → Option (AV × H × Ent)} (hcall : ∀ f args h r h' en, call f args h = some (r, h', en) → (∃ h1 h1', Touch h h1 h1' h' en ∧ ACalls P f args h1 r h1') ∧ ∃ fn, P.funcs[f]? = some fn ∧ fn.body.isSome = true ∧ fn.name ≠ "runtime.NumGoroutine") {N : Nat} {K : Tm → H → List Ent → Prop} :
    ∀ {items : List AItem} {t t' : Tm} {h h' : H} {log log' : List Ent}, runItems call items t h log = some (t', h', log') → K t' h' log'.reverse → WpItems P N items t h log K
  | [], t, t', h, h', log, log', hr, hk => by
    simp only [runItems, Option.some.injEq, Prod.mk.injEq] at hr
    obtain ⟨rfl, rfl, rfl⟩ := hr
    exact WpItems.nil hk
  | ⟨dst, g, op⟩ :: its, t, t', h, h', log, log', hr, hk => by
    simp only [runItems] at hr
    split at hr
    · rename_i hg
      split at hr
      · split at hr
        · rename_i f args r h2 en hx
          obtain ⟨⟨h1, h1', tc, ac⟩, -⟩ := hcall _ _ _ _ _ _ hx
          exact WpItems.step tc (fun ops i o ho hit => itrun_call ho hit hg rfl (VSubs.refl _) ac) (fun hh => by simp [touchy] at hh) (runItems_ok hcall hr hk)
        · cases hr
      · rename_i y args
        split at hr
        · rename_i f first caps hy
          split at hr
          · rename_i r h2 en hx
            obtain ⟨⟨h1, h1', tc, ac⟩, fn, f1, f2, f3⟩ := hcall _ _ _ _ _ _ hx
            exact WpItems.step tc (fun ops i o ho hit => itrun_callv ho hit hg rfl hy f1 f2 f3 (VSubs.refl _) ac) (fun hh => by simp [touchy] at hh) (runItems_ok hcall hr hk)
          · cases hr
        · cases hr
      · split at hr
        · rename_i x h2 en hx
          have e : evalOps [⟨dst, g, op⟩] t h log = ([], putT t dst x, h2, en :: log) := by simp only [evalOps, hg, hx]
          intro ops i hi hc
          obtain ⟨o, ho, hit, hi', hc'⟩ := items_cons hi hc
          obtain ⟨h1, h1', tc, run⟩ := itrun_op ho hit hg hx
          obtain ⟨recs, t', hh', ch, hk2, hen⟩ := runItems_ok (N := N) hcall hr hk ops (i + 1) hi' hc'
          have hdst : dst = o.dst := by
            unfold cItem at hit
            split at hit
            · split at hit <;> cases hit; rfl
            · cases hit
          refine ⟨⟨t, h, h1, h1', h2, x, en⟩ :: recs, t', hh', .cons ho rfl rfl tc run (by rw [← hdst]; exact ch), by simpa using hk2, ?_⟩
          intro k r it' hr' hit' ht
          cases k with
          | zero =>
            simp at hr' hit'; subst hr' hit'
            rcases aop_ent ht hx with h | ⟨n, y, h⟩
            · exact h
            · simp only at h; rw [h] at ht; simp [touchy] at ht
          | succ k => simp at hr' hit'; exact hen k r it' hr' hit' ht
        · cases hr
    · rename_i hg
      exact WpItems.step (touch_none h) (fun ops i o ho hit => itrun_skip ho hit hg) (fun _ => rfl) (runItems_ok hcall hr hk)
    · cases hr
theorem runS_ok {rn : AC → St → Option (AExit × St)} {nm : St → St} {N : Nat} (hr : ∀ c s e s', rn c s = some (e, s') → Wp P N c s fun e2 s2 => e2 = e ∧ s2 = s') (hn : ∀ s, StLe s (nm s)) :
    ∀ {k : Nat} {c cur : AC} {s : St} {e : AExit} {s' : St}, runS rn nm k c cur s = some (e, s') → WpS P N c cur s fun e2 s2 => e2 = e ∧ s2 = s'
  | 0, _, _, _, _, _, h => by cases h
  | k + 1, c, cur, s, e, s', h => by
    simp only [runS] at h
    split at h
    · rename_i l s1 h1
      refine WpS.step (Wp.mono (hr _ _ _ _ h1) fun e2 s2 ⟨e1, e3⟩ => ?_)
      subst e1 e3
      simp only [AExit.within]
      split at h
      · rename_i rest hf
        simp only [hf]
        exact WpS.le (hn _) (runS_ok hr hn h)
      · rename_i hf
        simp only [hf]
        simp only [Option.some.injEq, Prod.mk.injEq] at h
        obtain ⟨rfl, rfl⟩ := h
        exact ⟨rfl, rfl⟩
    · rename_i hne
      refine WpS.step (Wp.mono (hr _ _ _ _ h) fun e2 s2 ⟨e1, e3⟩ => ?_)
      subst e1 e3
      cases e2 with
      | normal => exact ⟨rfl, rfl⟩
      | exit i => exact ⟨rfl, rfl⟩
      | goto l => exact absurd h (hne l s2)
      | ret => exact ⟨rfl, rfl⟩
      | panic v => exact ⟨rfl, rfl⟩
theorem run_ok (ok : T.Ok P) (nm : T.named P = true) {pr : Prims} (hpr : PrimsOk P pr) : ∀ k, RunsOk P (run T pr k) := by
  intro k
  induction k using Nat.strongRecOn with
  | _ k ih =>
    intro N c s e s' h
    cases k with
    | zero => cases h
    | succ k =>
      have ihk := ih k (Nat.lt_succ_self k)
      cases c with
      | skip => simp only [run, Option.some.injEq, Prod.mk.injEq] at h; obtain ⟨rfl, rfl⟩ := h; exact Wp.skip ⟨rfl, rfl⟩
      | ret => simp only [run, Option.some.injEq, Prod.mk.injEq] at h; obtain ⟨rfl, rfl⟩ := h; exact Wp.ret ⟨rfl, rfl⟩
      | rfun _ _ _ _ => simp [run] at h
      | exit i => simp only [run, Option.some.injEq, Prod.mk.injEq] at h; obtain ⟨rfl, rfl⟩ := h; exact Wp.exit ⟨rfl, rfl⟩
      | reg items p =>
        simp only [run] at h
        split at h
        · rename_i t h' l hi
          split at h
          · rename_i hp
            simp only [Option.some.injEq, Prod.mk.injEq] at h
            obtain ⟨rfl, rfl⟩ := h
            exact Wp.reg (runItems_ok (fun f args h r h' en hx => callF_ok ok nm hpr ihk hx) hi ⟨pairsQB_ok hp, rfl, rfl⟩)
          · cases h
        · cases h
      | seq a b =>
        simp only [run] at h
        split at h
        · rename_i s1 ha
          refine Wp.seq (Wp.mono (ihk _ _ _ _ _ ha) fun e2 s2 ⟨e1, e3⟩ => ?_)
          subst e1 e3
          exact ihk _ _ _ _ _ h
        · rename_i hne
          refine Wp.seq (Wp.mono (ihk _ _ _ _ _ h) fun e2 s2 ⟨e1, e3⟩ => ?_)
          subst e1 e3
          cases e2 with
          | normal => exact absurd h (hne s2)
          | exit i => exact ⟨rfl, rfl⟩
          | goto l => exact ⟨rfl, rfl⟩
          | ret => exact ⟨rfl, rfl⟩
          | panic v => exact ⟨rfl, rfl⟩
      | label l => simp only [run, Option.some.injEq, Prod.mk.injEq] at h; obtain ⟨rfl, rfl⟩ := h; exact Wp.label ⟨rfl, rfl⟩
      | goto l => simp only [run, Option.some.injEq, Prod.mk.injEq] at h; obtain ⟨rfl, rfl⟩ := h; exact Wp.goto ⟨rfl, rfl⟩
      | scope a =>
        simp only [run] at h
        exact Wp.scope (runS_ok (fun c s e s' => ihk N c s e s') (norm_le N) h)
      | cond c a b =>
        simp only [run] at h
        split at h
        · rename_i hb; exact Wp.cond_true hb (ihk _ _ _ _ _ h)
        · rename_i hb; exact Wp.cond_false hb (ihk _ _ _ _ _ h)
        · cases h
      | block id a =>
        simp only [run] at h
        split at h
        · rename_i i s1 ha
          refine Wp.block (Wp.mono (ihk _ _ _ _ _ ha) fun e2 s2 ⟨e1, e3⟩ => ?_)
          subst e1 e3
          split at h
          · rename_i hid
            have hid := Nat.eq_of_beq_eq_true hid
            simp only [Option.some.injEq, Prod.mk.injEq] at h
            obtain ⟨rfl, rfl⟩ := h
            simp only [AExit.inBlock, hid, if_true, and_self]
          · rename_i hid
            have hid := Nat.ne_of_beq_eq_false hid
            simp only [Option.some.injEq, Prod.mk.injEq] at h
            obtain ⟨rfl, rfl⟩ := h
            simp only [AExit.inBlock, if_neg hid, and_self]
        · rename_i hne
          refine Wp.block (Wp.mono (ihk _ _ _ _ _ h) fun e2 s2 ⟨e1, e3⟩ => ?_)
          subst e1 e3
          cases e2 with
          | normal => exact ⟨rfl, rfl⟩
          | exit i => exact absurd h (hne i s2)
          | goto l => exact ⟨rfl, rfl⟩
          | ret => exact ⟨rfl, rfl⟩
          | panic v => exact ⟨rfl, rfl⟩
      | loop a =>
        refine Wp.loop (β := Nat × St) (fun b => b.2) (fun b => b.1 ≤ k ∧ run T pr (b.1 + 1) N (.loop a) b.2 = some (e, s')) (fun b => b.1) (k, s) ⟨Nat.le_refl _, h⟩ (StLe.refl _) ?_
        rintro ⟨j, s0⟩ ⟨hj, hb⟩
        simp only [run] at hb
        have ihj := ih j (by simp only at hj; omega)
        split at hb
        · rename_i s1 ha
          refine Wp.mono (ihj _ _ _ _ _ ha) fun e2 s2 ⟨e1, e3⟩ => ?_
          subst e1 e3
          cases j with
          | zero => cases hb
          | succ j => exact ⟨(j, norm N s2), ⟨by simp only at hj ⊢; omega, hb⟩, Nat.lt_succ_self _, norm_le N s2⟩
        · rename_i hne
          refine Wp.mono (ihj _ _ _ _ _ hb) fun e2 s2 ⟨e1, e3⟩ => ?_
          subst e1 e3
          cases e2 with
          | normal => exact absurd hb (hne s2)
          | exit i => exact ⟨rfl, rfl⟩
          | goto l => exact ⟨rfl, rfl⟩
          | ret => exact ⟨rfl, rfl⟩
          | panic v => exact ⟨rfl, rfl⟩
theorem ACalls.pure0 {f : FuncId} {args : List AV} {r r' : AV} {h' : H} (ha : VPures args) (hc : ACalls P f args (H0 0 0) r h') (hs : VSub r r') (hp : VPure r') : PCalls P f args r' := by
  intro n m G w vs hv R F
  let G0 : Ghost := { G with dom := fun _ => False, tdom := fun _ => False }
  refine (hc G0 w vs (ha G G0 w vs rfl rfl hv) only_rep ⟨fun _ _ _ h => h, fun _ _ _ h => h⟩).mono ?_
  rintro e w' ⟨v, G', rfl, T, R', V⟩
  refine ⟨v, { G' with dom := G.dom, ι := G.ι, tdom := G.tdom, τ := G.τ }, rfl, ?_, only_rep, hp G' _ w' v rfl rfl (hs G' w' v V)⟩
  have hO : ∀ {G : Ghost} {n m} B, ¬ (H0 n m).O G B := fun B => only_O B
  have hT : ∀ {G : Ghost} {n m} B, ¬ (H0 n m).T G B := fun B ⟨t, ht, _⟩ => by simp [H0, H.only] at ht
  constructor
  · exact fun _ x => x
  · exact fun _ => .inl
  · exact fun _ _ => rfl
  · exact fun _ x => x
  · exact fun _ => .inl
  · exact fun _ _ => rfl
  · exact Nat.le_refl _
  · exact Nat.le_refl _
  · exact T.size_le
  · exact T.os
  · exact T.output
  · exact T.form
  · exact fun B hB _ _ => T.keep B hB (hO B) (hT B)
  · exact fun B hB _ => T.own_keep B hB (hO B)
  · exact fun B hB _ _ => T.lim_keep B hB (hO B) (hT B)
  · exact fun B hB x => absurd x (hT B)
  · exact fun B _ x => absurd x (hO B)
  · exact fun B _ x => absurd x (hT B)
  · exact fun j o x => by simp [H0, H.only, none'] at x
  · exact fun t x => by simp [H0, H.only] at x
theorem FnIs.pcalls0 {f : FuncId} {N : Nat} {ac : AC} {args : List AV} {ds : List RV} {r : AV} (hF : FnIs P f N ac ds) (hl : args.length ≤ N) (ha : allPure args = true) (hp : isPure r = true) (hw : Wp P N ac ⟨initT args, H0 0 0⟩ fun e s' => isEnd e ∧ ∃ q, resOf ds s'.t s'.h = some q ∧ VSub q r) : PCalls P f args r := by
  obtain ⟨r', h', hcall, hs⟩ := hF.acalls (Q := fun r' _ => VSub r' r) hl hw
  exact hcall.pure0 (allPure_ok _ ha) hs (isPure_ok _ hp)
def runBoolP (T : FT) (pr : Prims) (k f : Nat) (args : List AV) : Option Bool :=
  match allPure args, callF T pr (run T pr k) f args (H0 0 0) with
  | true, some (.bool b, _, _) => some b
  | _, _ => none
theorem pcalls_runP (ok : T.Ok P) (nm : T.named P = true) {pr : Prims} (hpr : PrimsOk P pr) {k f : Nat} {args : List AV} {b : Bool} (h : runBoolP T pr k f args = some b) : PCalls P f args (.bool b) := by
  unfold runBoolP at h
  split at h
  · rename_i b' h' en hp hc
    cases h
    obtain ⟨⟨h1, h1', tc, ac⟩, -⟩ := callF_ok ok nm hpr (run_ok ok nm hpr k) hc
    have e : h1 = H0 0 0 := by
      refine H.ext (fun j => ?_) tc.n ?_ tc.m
      · cases hj : h1.objs j with
        | none => rfl
        | some o => have := tc.sub.1 j o hj; simp [H0, H.only, none'] at this
      · cases ht : h1.toks with
        | nil => rfl
        | cons t l => have := tc.sub.2 t (by rw [ht]; simp); simp [H0, H.only] at this
    subst e
    exact ac.pure0 (allPure_ok _ hp) (VSub.refl _) (isPure_ok _ rfl)
  · cases h
def runBool (T : FT) (k f : Nat) (args : List AV) : Option Bool := runBoolP T noPrims k f args
theorem pcalls_run (ok : T.Ok P) (nm : T.named P = true) {k f : Nat} {args : List AV} {b : Bool} (h : runBool T k f args = some b) : PCalls P f args (.bool b) := pcalls_runP ok nm noPrims_ok h
end
end Go.Av
end
section
set_option linter.unusedSimpArgs false
set_option linter.unusedVariables false
set_option maxRecDepth 10000
namespace Go.Av
section
variable {P : Program}
def cloneC (sz bytes : Nat) : AC := (.seq (.reg [⟨some 2, none, .mov (.c (.sl sz [] (.exact 0)))⟩] none)
 (.seq (.seq (.reg [⟨some 3, none, .mov (.t 0)⟩, ⟨some 4, none, .eqN false (.t 3)⟩] none)
 (.cond (.t 4) (.seq (.reg [⟨some 2, none, .mov (.c (.sl sz [] (.exact 0)))⟩] none)
 .ret) .skip))
 (.seq (.reg [⟨some 5, none, .buildSl sz []⟩, ⟨some 6, none, .mov (.t 0)⟩, ⟨some 7, none, .app false sz bytes (.t 5) (.t 6)⟩, ⟨some 2, none, .mov (.t 7)⟩] none)
 .ret)))
theorem VSub.own {sz : Nat} {xs : List AV} {t : Nat} : VSub (.sl sz xs (.own t)) (.sl sz xs .any) := VSub.cap
theorem VSub.sc_empty {sz : Nat} {a : Option Addr} {C : Nat} (h : C = 0 ∨ ∃ B off, a = some ⟨B, off, none⟩) : VSub (.sc (.slice a 0 C)) (.sl sz [] .any) := by
  intro G w v hv
  simp only [VRel] at hv
  subst hv
  unfold VRel
  rcases h with rfl | ⟨B, off, rfl⟩
  · exact .inl ⟨rfl, ⟨a, rfl⟩, trivial⟩
  · exact .inr ⟨B, off, C, [], rfl, Nat.zero_le _, by simp, by simp [VElems], Imm.nil, trivial⟩
theorem ACalls.split_empty {f : FuncId} {sz : Nat} {c : Cap} {rest : List AV} {h h' : H} {r : AV} (hc : ∀ a C, (C = 0 ∨ ∃ B off, a = some ⟨B, off, none⟩) → ACalls P f (.sc (.slice a 0 C) :: rest) h r h') : ACalls P f (.sl sz [] c :: rest) h r h' := by
  intro G w vs hv R F
  simp only [VRels] at hv
  obtain ⟨v, us, rfl, hv, hr⟩ := hv
  simp only [VRel] at hv
  rcases hv with ⟨-, ⟨a, rfl⟩, -⟩ | ⟨B, off, C, ws, rfl, -⟩
  · exact hc a 0 (.inl rfl) G w _ (.cons (by simp [VRel]) hr) R F
  · exact hc _ C (.inr ⟨B, off, rfl⟩) G w _ (.cons (by simp [VRel]) hr) R F
theorem clone_gen {f : FuncId} {sz bytes : Nat} (hF : FnIs P f 8 (cloneC sz bytes) [.tmp 2]) (xs : List AV) (hp : allPure xs = true) (hb : xs.length * bytes ≤ 140737488355328) (hl : xs.length < 4611686018427387904) : PCalls P f [.sl sz xs .any] (.sl sz xs .any) := by
  cases xs with
  | nil =>
    intro n m
    refine ACalls.split_empty fun a C hC => ?_
    have : PCalls P f [.sc (.slice a 0 C)] (.sl sz [] .any) := by
      refine hF.pcalls (by simp) (allPure_ok _ rfl) (isPure_ok _ rfl) fun n m => ?_
      unfold cloneC
      refine Wp.seqReg (by simp only [go_sem, reduceIte, Nat.reduceEqDiff, Nat.reduceAdd, bx]; exact rfl) (by trivial) ?_
      refine Wp.seq ?_
      refine Wp.seqReg (by simp only [go_sem, reduceIte, Nat.reduceEqDiff, Nat.reduceAdd, bx]; exact rfl) (by trivial) ?_
      cases ha : a.isNone with
      | true =>
        refine Wp.cond_true (by simp only [go_sem, reduceIte, Nat.reduceEqDiff, Nat.reduceAdd, bx, ha]) ?_
        refine Wp.seqReg (by simp only [go_sem, reduceIte, Nat.reduceEqDiff, Nat.reduceAdd, bx]; exact rfl) (by trivial) ?_
        refine Wp.ret ⟨trivial, _, rfl, ?_⟩
        simp only [go_sem, reduceIte, Nat.reduceEqDiff, Nat.reduceAdd, bx]
        exact VSub.cap
      | false =>
        refine Wp.cond_false (by simp only [go_sem, reduceIte, Nat.reduceEqDiff, Nat.reduceAdd, bx, ha]) ?_
        refine Wp.skip ?_
        refine Wp.le (s' := ⟨tm [(0, .sl sz [] .any)], _⟩) (StLe.tm ⟨VSub.sc_empty hC, trivial⟩) ?_
        refine Wp.seqReg (by simp only [go_sem, reduceIte, Nat.reduceEqDiff, Nat.reduceAdd, bx, Nat.zero_mul, Nat.zero_le, and_self, or_true, if_true, Nat.reduceMul, Nat.reduceLT, Nat.reduceLeDiff, decide_true]; exact rfl) (by trivial) ?_
        refine Wp.ret ⟨trivial, _, rfl, ?_⟩
        simp only [go_sem, reduceIte, Nat.reduceEqDiff, Nat.reduceAdd, bx]
        exact VSub.cap
    exact this n m
  | cons x xs =>
    refine hF.pcalls (by simp) (allPure_ok _ (by simp [allPure, isPure, capPure] at hp ⊢; exact hp)) (isPure_ok _ (by simp [allPure, isPure, capPure] at hp ⊢; exact hp)) fun n m => ?_
    unfold cloneC
    refine Wp.seqReg (by simp only [go_sem, reduceIte, Nat.reduceEqDiff, Nat.reduceAdd, bx]; exact rfl) (by trivial) ?_
    refine Wp.seq ?_
    refine Wp.seqReg (by simp only [go_sem, reduceIte, Nat.reduceEqDiff, Nat.reduceAdd, bx]; exact rfl) (by trivial) ?_
    refine Wp.cond_false (by simp only [go_sem, reduceIte, Nat.reduceEqDiff, Nat.reduceAdd, bx]) ?_
    refine Wp.skip ?_
    simp only [List.length_cons] at hb hl
    have h1 : (0 + (xs.length + 1)) * bytes ≤ 140737488355328 := by rw [Nat.zero_add]; exact hb
    have h2 : 0 + (xs.length + 1) < 4611686018427387904 := by omega
    refine Wp.seqReg (by simp only [go_sem, reduceIte, Nat.reduceEqDiff, Nat.reduceAdd, bx, Nat.zero_mul, Nat.zero_le, and_self, or_true, true_or, if_true, Nat.reduceMul, Nat.reduceLT, Nat.reduceLeDiff, decide_true, hb, hl]; exact rfl) (by trivial) ?_
    refine Wp.ret ⟨trivial, _, rfl, ?_⟩
    simp only [go_sem, reduceIte, Nat.reduceEqDiff, Nat.reduceAdd, bx]
    exact VSub.cap
def OLe (f f' : Nat → Option Obj) : Prop := ∀ j o', f' j = some o' → ∃ o, f j = some o ∧ OSub o o'
theorem OLe.refl (f : Nat → Option Obj) : OLe f f := fun j o h => ⟨o, h, OSub.refl o⟩
theorem OLe.none (f : Nat → Option Obj) : OLe f none' := fun j o h => by cases h
theorem OLe.upd {f f' : Nat → Option Obj} {i : Nat} {o o' : Obj} (h : OLe f f') (hs : OSub o o') : OLe (upd f i (some o)) (upd f' i (some o')) := by
  intro j p hp
  simp only [Go.Av.upd] at hp ⊢
  split at hp
  · rename_i e; rw [if_pos e]; cases hp; exact ⟨o, rfl, hs⟩
  · rename_i e; rw [if_neg e]; exact h j p hp
theorem StLe.of {t t' : Tm} {f f' : Nat → Option Obj} {n n' m m' : Nat} {k k' : List Nat} (ht : ∀ i, VSub (t i) (t' i)) (ho : OLe f f') (hk : ∀ x ∈ k', x ∈ k) (hn : n ≤ n') (hm : m ≤ m') : StLe ⟨t, ⟨f, n, k, m⟩⟩ ⟨t', ⟨f', n', k', m'⟩⟩ :=
  StLe.mk' ht ⟨ho, hk⟩ hn hm
theorem VSub.own_of {sz : Nat} {xs : List AV} {k t : Nat} (h : k = xs.length) : VSub (.sl sz xs (.exact k)) (.sl sz xs (.own t)) := by
  intro G w v hv
  unfold VRel at hv ⊢
  rcases hv with ⟨a, b, -⟩ | ⟨B, off, C, vs, h1, h2, h3, h4, h5, h6⟩
  · exact .inl ⟨a, b, trivial⟩
  · exact .inr ⟨B, off, C, vs, h1, h2, h3, h4, h5, .inl (by simp only [CapOk] at h6; omega)⟩
theorem OLe.put {f f' : Nat → Option Obj} {i : Nat} {o o' : Obj} (h : OLe f f') (hf : f i = some o) (hs : OSub o o') : OLe f (Go.Av.upd f' i (some o')) := by
  intro j p hp
  simp only [Go.Av.upd] at hp
  split at hp
  · rename_i e; subst e; cases hp; exact ⟨o, hf, hs⟩
  · exact h j p hp
end
end Go.Av
end
section
set_option linter.unusedSimpArgs false
set_option linter.unusedVariables false
set_option maxRecDepth 10000
namespace Go.Proofs.Ytobokfclaooloaa.Batch
open Go Go.Av Go.Proofs Go.Proofs.Ytobokfclaooloaa.C
theorem less_nil_l (b : List UInt8) : Op.bytesLess [] b = decide (0 < b.length) := by cases b <;> simp [Op.bytesLess]
theorem less_nil_r (a : List UInt8) : Op.bytesLess a [] = false := by cases a <;> simp [Op.bytesLess]
theorem less_at {a b : List UInt8} {j : Nat} (ha : j < a.length) (hb : j < b.length) : Op.bytesLess (a.drop j) (b.drop j) = (decide (a.getD j 0 < b.getD j 0) || (a.getD j 0 == b.getD j 0 && Op.bytesLess (a.drop (j + 1)) (b.drop (j + 1)))) := by
  rw [List.drop_eq_getElem_cons ha, List.drop_eq_getElem_cons hb]
  simp [Op.bytesLess, List.getD, List.getElem?_eq_getElem ha, List.getElem?_eq_getElem hb]
theorem less_end {a b : List UInt8} {j : Nat} (ha : j ≤ a.length) (hb : j ≤ b.length) (h : ¬ (j < a.length ∧ j < b.length)) : Op.bytesLess (a.drop j) (b.drop j) = decide ((a.length : Int) < (b.length : Int)) := by
  by_cases h1 : j < a.length
  · have : b.drop j = [] := List.drop_eq_nil_of_le (by omega)
    rw [this, less_nil_r]; symm; simp; omega
  · have : a.drop j = [] := List.drop_eq_nil_of_le (by omega)
    rw [this, less_nil_l]; simp; omega
def Ls (l : List UInt8) : Prop := l.length ≤ 9223372036854775806
theorem below_p (a b : List UInt8) (la : Ls a) (lb : Ls b) : PCalls Try.prog 41 [.str a, .str b] (.bool (Op.bytesLess a b)) := by
  refine f41.pcalls (by simp) (allPure_ok _ rfl) (isPure_ok _ rfl) fun k m => ?_
  unfold Ls at la lb
  unfold c41
  refine Wp.seqReg (by simp only [go_sem, reduceIte, Nat.reduceEqDiff, Nat.reduceAdd, bx]; exact rfl) (by trivial) ?_
  refine Wp.seq ?_
  refine Wp.seqReg (by simp only [go_sem, reduceIte, Nat.reduceEqDiff, Nat.reduceAdd, bx]; exact rfl) (by trivial) ?_
  refine Wp.block ?_
  refine Wp.loopK [0, 1] (by simp only [go_sem, reduceIte, Nat.reduceEqDiff, Nat.reduceAdd, bx, List.map]; exact rfl) (fun j : Nat => [(5, .int .i64 j)]) (fun j => j ≤ a.length ∧ j ≤ b.length ∧ Op.bytesLess (a.drop j) (b.drop j) = Op.bytesLess a b) (fun j => a.length - j) 0 ⟨Nat.zero_le _, Nat.zero_le _, rfl⟩ ?_ ?_
  · simp only [AllSub, go_sem, reduceIte, Nat.reduceEqDiff, Nat.reduceAdd, bx]; and_intros <;> first | exact trivial | exact VSub.refl _ | exact VSub.any _ | (refine VSub.int ?_; omega)
  · intro j hj
    obtain ⟨h1, h2, h3⟩ := hj
    refine Wp.seq ?_
    by_cases hc : j < a.length ∧ j < b.length
    · have ha : decide ((j : Int) < (a.length : Int)) = true := by simp; omega
      have hb : decide ((j : Int) < (b.length : Int)) = true := by simp; omega
      have h4 : (0 : Int) ≤ (j : Int) := by omega
      have h5 : (j : Int) < (a.length : Int) := by omega
      have h6 : (j : Int) < (b.length : Int) := by omega
      refine Wp.seqReg (by simp only [go_sem, reduceIte, Nat.reduceEqDiff, Nat.reduceAdd, bx, ha, hb]; exact rfl) (by trivial) ?_
      refine Wp.cond_true (by simp only [go_sem, reduceIte, Nat.reduceEqDiff, Bool.false_eq_true]) ?_
      refine Wp.skip ?_
      refine Wp.seq ?_
      refine Wp.block ?_
      refine Wp.seqReg (by simp only [go_sem, reduceIte, Nat.reduceEqDiff, Nat.reduceAdd, bx, h4, h5, h6, and_self, if_true, Int.toNat_natCast, byte]; exact rfl) (by trivial) ?_
      have hs := less_at hc.1 hc.2
      refine Wp.cond_split (b := !decide (((a.getD j 0).toNat : Int) = ((b.getD j 0).toNat : Int))) (by simp only [go_sem, reduceIte, Nat.reduceEqDiff, Nat.reduceAdd, bx]) (fun hd => ?_) (fun hd => ?_)
      · refine Wp.seqReg (by simp only [go_sem, reduceIte, Nat.reduceEqDiff, Nat.reduceAdd, bx, h4, h5, h6, and_self, if_true, Int.toNat_natCast, byte]; exact rfl) (by trivial) ?_
        refine Wp.ret ⟨trivial, _, rfl, ?_⟩
        simp only [go_sem, reduceIte, Nat.reduceEqDiff, Nat.reduceAdd, bx]
        refine VSub.of_eq ?_
        congr 1
        rw [← h3, hs]
        have hne : ¬ (a.getD j 0 = b.getD j 0) := fun he => by rw [he] at hd; simp at hd
        have : (a.getD j 0 == b.getD j 0) = false := by simpa using hne
        rw [this, Bool.false_and, Bool.or_false]
        congr 1
        rw [UInt8.lt_iff_toNat_lt]
        simp
      · refine Wp.skip ?_
        refine Wp.reg1 (by simp only [go_sem, reduceIte, Nat.reduceEqDiff, Nat.reduceAdd, bx]; simp (disch := omega) only [IntWalk.i64_in]; exact rfl) (by trivial) ?_
        have he : a.getD j 0 = b.getD j 0 := by
          apply UInt8.toNat_inj.1
          have : ((a.getD j 0).toNat : Int) = ((b.getD j 0).toNat : Int) := by simpa using hd
          omega
        refine ⟨j + 1, ⟨by omega, by omega, ?_⟩, by omega, ?_⟩
        · rw [← h3, hs, he]; simp [UInt8.lt_irrefl]
        · refine StLe.tm (by simp only [AllSub, go_sem, reduceIte, Nat.reduceEqDiff, Nat.reduceAdd, bx]; and_intros <;> first | exact trivial | exact VSub.refl _ | exact VSub.any _ | (refine VSub.int ?_; omega))
    · have hx : (decide ((j : Int) < (a.length : Int)) && decide ((j : Int) < (b.length : Int))) = false := by
        by_cases h : j < a.length
        · have : ¬ j < b.length := fun h' => hc ⟨h, h'⟩
          simp; omega
        · simp; omega
      by_cases ha : j < a.length
      · have h7 : decide ((j : Int) < (a.length : Int)) = true := by simp; omega
        have h8 : decide ((j : Int) < (b.length : Int)) = false := by rw [h7, Bool.true_and] at hx; exact hx
        refine Wp.seqReg (by simp only [go_sem, reduceIte, Nat.reduceEqDiff, Nat.reduceAdd, bx, h7, h8]; exact rfl) (by trivial) ?_
        refine Wp.cond_false (by simp only [go_sem, reduceIte, Nat.reduceEqDiff, Bool.false_eq_true]) ?_
        refine Wp.exit ?_
        refine Wp.seqReg (by simp only [go_sem, reduceIte, Nat.reduceEqDiff, Nat.reduceAdd, bx]; exact rfl) (by trivial) ?_
        refine Wp.ret ⟨trivial, _, rfl, ?_⟩
        simp only [go_sem, reduceIte, Nat.reduceEqDiff, Nat.reduceAdd, bx]
        rw [← h3, less_end h1 h2 hc]
        exact VSub.refl _
      · have h7 : decide ((j : Int) < (a.length : Int)) = false := by simp; omega
        refine Wp.seqReg (by simp only [go_sem, reduceIte, Nat.reduceEqDiff, Nat.reduceAdd, bx, h7]; exact rfl) (by trivial) ?_
        refine Wp.cond_false (by simp only [go_sem, reduceIte, Nat.reduceEqDiff, Bool.false_eq_true]) ?_
        refine Wp.exit ?_
        refine Wp.seqReg (by simp only [go_sem, reduceIte, Nat.reduceEqDiff, Nat.reduceAdd, bx]; exact rfl) (by trivial) ?_
        refine Wp.ret ⟨trivial, _, rfl, ?_⟩
        simp only [go_sem, reduceIte, Nat.reduceEqDiff, Nat.reduceAdd, bx]
        rw [← h3, less_end h1 h2 hc]
        exact VSub.refl _
theorem less_irrefl : ∀ a, Op.bytesLess a a = false
  | [] => rfl
  | x :: a => by simp [Op.bytesLess, less_irrefl a, UInt8.lt_irrefl]
theorem less_trans : ∀ {a b c}, Op.bytesLess a b = true → Op.bytesLess b c = true → Op.bytesLess a c = true
  | a, b, [], _, h => by rw [less_nil_r] at h; cases h
  | a, [], c :: cs, h, _ => by rw [less_nil_r] at h; cases h
  | [], b :: bs, c :: cs, _, _ => rfl
  | a :: x, b :: y, c :: z, h1, h2 => by
    simp only [Op.bytesLess, Bool.or_eq_true, decide_eq_true_eq, Bool.and_eq_true, beq_iff_eq] at h1 h2 ⊢
    rcases h1 with h1 | ⟨rfl, h1⟩
    · rcases h2 with h2 | ⟨rfl, h2⟩
      · exact .inl (UInt8.lt_trans h1 h2)
      · exact .inl h1
    · rcases h2 with h2 | ⟨rfl, h2⟩
      · exact .inl h2
      · exact .inr ⟨rfl, less_trans h1 h2⟩
theorem less_total : ∀ a b, Op.bytesLess a b = true ∨ a = b ∨ Op.bytesLess b a = true
  | [], [] => .inr (.inl rfl)
  | [], _ :: _ => .inl rfl
  | _ :: _, [] => .inr (.inr rfl)
  | x :: a, y :: b => by
    simp only [Op.bytesLess, Bool.or_eq_true, decide_eq_true_eq, Bool.and_eq_true, beq_iff_eq, List.cons.injEq]
    rcases Nat.lt_trichotomy x.toNat y.toNat with h | h | h
    · exact .inl (.inl (UInt8.lt_iff_toNat_lt.2 h))
    · have := UInt8.toNat_inj.1 h
      subst this
      rcases less_total a b with h | h | h
      · exact .inl (.inr ⟨rfl, h⟩)
      · exact .inr (.inl ⟨rfl, h⟩)
      · exact .inr (.inr (.inr ⟨rfl, h⟩))
    · exact .inr (.inr (.inl (UInt8.lt_iff_toNat_lt.2 h)))
theorem less_asymm {a b} (h : Op.bytesLess a b = true) : Op.bytesLess b a = false := by
  cases h' : Op.bytesLess b a
  · rfl
  · have := less_trans h h'
    rw [less_irrefl] at this; cases this
end Go.Proofs.Ytobokfclaooloaa.Batch
end
section
set_option linter.unusedVariables false
set_option linter.unusedSimpArgs false
namespace Go.Av
open Classical in
section
variable {P : Program} {G : Ghost} {h : H} {w : World}
def H.DO (h : H) (G : Ghost) (d : Nat → Bool) (B : Nat) : Prop := ∃ id o, d id = true ∧ h.objs id = some o ∧ G.ι id = B
def H.drop (h : H) (d : Nat → Bool) : H := { h with objs := fun j => if d j then none else h.objs j }
noncomputable def Ghost.frz (G : Ghost) (h : H) (d : Nat → Bool) : Ghost :=
  { G with own := fun B => G.own B ∧ ¬ h.DO G d B, lim := fun B => if h.DO G d B then none else G.lim B }
theorem DO_O {d : Nat → Bool} {B : Nat} (x : h.DO G d B) : h.O G B := by
  obtain ⟨id, o, -, a, b⟩ := x
  exact ⟨id, o, a, b⟩
theorem frz_trans (d : Nat → Bool) : Trans G w h (G.frz h d) w (h.drop d) := by
  have hsub : ∀ B, (h.drop d).O (G.frz h d) B → h.O G B := by
    rintro B ⟨id, o, a, b⟩
    simp only [H.drop] at a
    split at a
    · cases a
    · exact ⟨id, o, a, b⟩
  constructor
  · exact fun _ x => x
  · exact fun _ => .inl
  · exact fun _ _ => rfl
  · exact fun _ x => x
  · exact fun _ => .inl
  · exact fun _ _ => rfl
  · exact Nat.le_refl _
  · exact Nat.le_refl _
  · exact Nat.le_refl _
  · rfl
  · rfl
  · intro B hB
    exact SameForm.refl _
  · exact fun _ _ _ _ => rfl
  · intro B hB hO
    have : ¬ h.DO G d B := fun x => hO (DO_O x)
    simp [Ghost.frz, this]
  · intro B hB hO hT
    have : ¬ h.DO G d B := fun x => hO (DO_O x)
    simp [Ghost.frz, this]
  · intro B hB hT hO e he
    have : ¬ h.DO G d B := fun x => hO (DO_O x)
    refine ⟨fun _ _ => rfl, fun e' he' => ?_⟩
    simp only [Ghost.frz, this, if_false] at he'
    rw [he] at he'
    cases he'
    exact Nat.le_refl _
  · exact fun B _ x => hsub B x
  · exact fun B _ x => x
  · intro j o a
    simp only [H.drop] at a
    split at a
    · cases a
    · exact .inl ⟨o, a⟩
  · exact fun t x => .inl x
theorem frz_rep (R : RepH G h w) (d : Nat → Bool) : RepH (G.frz h d) (h.drop d) w := by
  have hd : ∀ {id o}, (h.drop d).objs id = some o → h.objs id = some o ∧ d id = false := by
    intro id o a
    simp only [H.drop] at a
    split at a
    · cases a
    · rename_i q; exact ⟨a, by simpa using q⟩
  constructor
  · intro id o a
    obtain ⟨a, q⟩ := hd a
    obtain ⟨r1, r2, r3, r4⟩ := R.obj id o a
    refine ⟨r1, ⟨r2, ?_⟩, r3, ?_⟩
    · rintro ⟨id', o', x1, x2, x3⟩
      have := R.inj _ _ _ _ x2 a x3
      subst this
      rw [x1] at q; cases q
    · cases o with
      | cells cs =>
        obtain ⟨vs, rest, T, fr, y1, y2, y3⟩ := r4
        exact ⟨vs, rest, T, fr, y1, VRels.mono R (frz_trans d) _ _ y2, y3⟩
      | map es =>
        obtain ⟨en, clock, y1, y2⟩ := r4
        exact ⟨en, clock, y1, Entries.mono R (frz_trans d) _ _ y2⟩
      | loop N t ps asg body st pend =>
        obtain ⟨r, y1, y2, y3, y4⟩ := r4
        exact ⟨r, y1, y2, fun i => VRel.mono R (frz_trans d) _ _ (y3 i), y4⟩
  · intro id id' o o' a b e
    exact R.inj _ _ _ _ (hd a).1 (hd b).1 e
  · intro t ht
    obtain ⟨r1, r2⟩ := R.tok t ht
    refine ⟨r1, fun B e q => ?_⟩
    obtain ⟨x1, x2, x3⟩ := r2 B e q
    have : ¬ h.DO G d B := by
      rintro ⟨id, o, y1, y2, y3⟩
      have := (R.obj id o y2).2.1
      rw [y3] at this
      exact x2 this
    refine ⟨by simp only [Ghost.frz, this, if_false]; exact x1, fun x => x2 x.1, x3⟩
  · exact fun t ht t' ht' B e e' a b => R.tinj t ht t' ht' B e e' a b
theorem one_cells {v : Value} (h : One v) : v.cells = #[v] := by
  obtain ⟨a, b⟩ := h
  cases v <;> first | rfl | exact absurd rfl (a _) | exact absurd rfl (b _)
theorem frz_tsl (R : RepH G h w) {d : Nat → Bool} {id off len : Nat} {c : Option Nat} {cs : List AV} {v : Value} (ho : h.objs id = some (.cells cs)) (hd : d id = true) (hl : off + len ≤ cs.length) (r : VRel G w (.tsl 1 id off len c) v) :
    VRel (G.frz h d) w (.sl 1 ((cs.drop off).take len) .any) v := by
  simp only [VRel] at r
  obtain ⟨-, ⟨C, cc, Tt, fr, rfl, ⟨h2, -⟩, -⟩ | ⟨h0, ⟨a, rfl⟩, -⟩⟩ := r
  · obtain ⟨-, r2, r3, vs, rest, T, fr', y1, y2, y3, y4⟩ := R.obj id _ ho
    have hlen := VRels.length y2
    have hx : VRels (G.frz h d) w ((cs.drop off).take len) ((vs.drop off).take len) := VRels.mono R (frz_trans d) _ _ (VRels.take len (VRels.drop off y2))
    have h1 : ∀ v ∈ (vs.drop off).take len, One v := fun v hv => y4 v (List.mem_of_mem_drop (List.mem_of_mem_take hv))
    have he := elems_of_rels (sz := 1) hx (fun v hv => by rw [one_cells (h1 v hv)]; rfl)
    have hfl : ((vs.drop off).take len).flatMap (·.cells.toList) = (vs.drop off).take len := by
      have : ∀ l : List Value, (∀ v ∈ l, One v) → l.flatMap (·.cells.toList) = l := by
        intro l
        induction l with
        | nil => intro _; rfl
        | cons x l ih => intro hl; rw [List.flatMap_cons, one_cells (hl x (by simp)), ih (fun v hv => hl v (by simp [hv]))]; rfl
      exact this _ h1
    rw [hfl] at he
    unfold VRel
    refine .inr ⟨G.ι id, off, C, (vs.drop off).take len, ?_, ?_, ?_, he, ?_, trivial⟩
    · rw [List.length_take, List.length_drop]; congr 1; omega
    · rw [List.length_take]; omega
    · simp only [List.length_take, List.length_drop]; omega
    · intro i v hi
      have hi' := (List.getElem?_eq_some_iff.1 hi).1
      rw [List.length_take, List.length_drop] at hi'
      have hv1 : vs[off + i]? = some v := by
        rw [List.getElem?_take_of_lt (by omega), List.getElem?_drop] at hi
        exact hi
      refine ⟨?_, h1 v (List.mem_of_getElem? hi), ?_, ?_⟩
      · unfold World.cell?
        simp only [y1]
        simp [List.getElem?_append_left (show off + i < vs.length by omega), hv1]
      · exact fun x => x.2 ⟨id, _, hd, ho, rfl⟩
      · intro e he'
        have : h.DO G d (G.ι id) := ⟨id, _, hd, ho, rfl⟩
        simp [Ghost.frz, this] at he'
  · subst h0
    unfold VRel
    exact .inl ⟨by simp, ⟨_, rfl⟩, trivial⟩
theorem frz_ptr (R : RepH G h w) {d : Nat → Bool} {id off : Nat} {cs : List AV} {v : Value} (ho : h.objs id = some (.cells cs)) (hd : d id = true) (r : VRel G w (.ptr id off) v) :
    VRel (G.frz h d) w (.ref (cs.drop off)) v := by
  simp only [VRel] at r
  obtain ⟨-, rfl⟩ := r
  obtain ⟨-, r2, r3, vs, rest, T, fr', y1, y2, y3, y4⟩ := R.obj id _ ho
  unfold VRel
  refine ⟨G.ι id, off, vs.drop off, rfl, VRels.mono R (frz_trans d) _ _ (VRels.drop off y2), ?_⟩
  intro i v hi
  have hv1 : vs[off + i]? = some v := by rw [List.getElem?_drop] at hi; exact hi
  have hi' := (List.getElem?_eq_some_iff.1 hv1).1
  refine ⟨?_, y4 v (List.mem_of_getElem? hv1), ?_, ?_⟩
  · unfold World.cell?
    simp only [y1]
    simp [List.getElem?_append_left hi', hv1]
  · exact fun x => x.2 ⟨id, _, hd, ho, rfl⟩
  · intro e he'
    have : h.DO G d (G.ι id) := ⟨id, _, hd, ho, rfl⟩
    simp [Ghost.frz, this] at he'
mutual
def unT (h : H) (d : Nat → Bool) : AV → AV
  | .tsl sz id off len c => if sz = 1 ∧ d id = true then (match h.objs id with
    | some (.cells cs) => if off + len ≤ cs.length then .sl 1 ((cs.drop off).take len) .any else .any
    | _ => .any) else .tsl sz id off len c
  | .ptr id off => if d id = true then (match h.objs id with
    | some (.cells cs) => .ref (cs.drop off)
    | _ => .any) else .ptr id off
  | .agg xs => .agg (unTs h d xs)
  | .tup xs => .tup (unTs h d xs)
  | .clo fn a b => .clo fn (unTs h d a) (unTs h d b)
  | x => x
def unTs (h : H) (d : Nat → Bool) : List AV → List AV
  | [] => []
  | x :: xs => unT h d x :: unTs h d xs
end
mutual
theorem unT_rel (R : RepH G h w) (d : Nat → Bool) : ∀ (x : AV) (v : Value), VRel G w x v → VRel (G.frz h d) w (unT h d x) v
  | .tsl sz id off len c, v, r => by
    unfold unT
    split
    · rename_i hs
      obtain ⟨rfl, hd⟩ := hs
      split
      · rename_i cs ho
        split
        · rename_i hl
          exact frz_tsl R ho hd hl r
        · simp [VRel]
      · simp [VRel]
    · exact VRel.mono R (frz_trans d) _ _ r
  | .agg xs, v, r => by
    simp only [unT, VRel] at r ⊢
    obtain ⟨vs, e, r⟩ := r
    exact ⟨vs, e, unTs_rel R d xs vs r⟩
  | .tup xs, v, r => by
    simp only [unT, VRel] at r ⊢
    obtain ⟨vs, e, r⟩ := r
    exact ⟨vs, e, unTs_rel R d xs vs r⟩
  | .any, v, r => by simp [unT, VRel]
  | .int k n, v, r => by unfold unT; exact VRel.mono R (frz_trans d) _ _ r
  | .bool b, v, r => by unfold unT; exact VRel.mono R (frz_trans d) _ _ r
  | .str l, v, r => by unfold unT; exact VRel.mono R (frz_trans d) _ _ r
  | .sc x, v, r => by unfold unT; exact VRel.mono R (frz_trans d) _ _ r
  | .sl sz xs c, v, r => by unfold unT; exact VRel.mono R (frz_trans d) _ _ r
  | .ref cs, v, r => by unfold unT; exact VRel.mono R (frz_trans d) _ _ r
  | .ptr id off, v, r => by
    unfold unT
    split
    · rename_i hd
      split
      · rename_i cs ho
        exact frz_ptr R ho hd r
      · simp [VRel]
    · exact VRel.mono R (frz_trans d) _ _ r
  | .clo fn a b, v, r => by
    simp only [unT, VRel] at r ⊢
    obtain ⟨vs, us, e, r1, r2⟩ := r
    exact ⟨vs, us, e, unTs_rel R d a vs r1, unTs_rel R d b us r2⟩
  | .ifc t x, v, r => by unfold unT; exact VRel.mono R (frz_trans d) _ _ r
  | .mp id, v, r => by unfold unT; exact VRel.mono R (frz_trans d) _ _ r
  | .yld id, v, r => by unfold unT; exact VRel.mono R (frz_trans d) _ _ r
  | .slt sz xs ys, v, r => by unfold unT; exact VRel.mono R (frz_trans d) _ _ r
theorem unTs_rel (R : RepH G h w) (d : Nat → Bool) : ∀ (xs : List AV) (vs : List Value), VRels G w xs vs → VRels (G.frz h d) w (unTs h d xs) vs
  | [], vs, r => by simpa [unTs, VRels] using r
  | x :: xs, vs, r => by
    simp only [unTs, VRels] at r ⊢
    obtain ⟨v, us, e, r1, r2⟩ := r
    exact ⟨v, us, e, unT_rel R d x v r1, unTs_rel R d xs us r2⟩
end
theorem frz_le (t : Tm) (h : H) (d : Nat → Bool) : StLe ⟨t, h⟩ ⟨fun i => unT h d (t i), h.drop d⟩ where
  n := Nat.le_refl _
  m := Nat.le_refl _
  go := fun N G w a r _ => ⟨G.frz h d, frz_trans d, ⟨r.size, fun i => unT_rel r.h d _ _ (r.t i), frz_rep r.h d, r.df.mono (frz_trans d)⟩⟩
theorem ACalls.frz {f : FuncId} {args : List AV} {h h' : H} {r : AV} (hc : ACalls P f args h r h') (d : Nat → Bool) : ACalls P f args h (unT h' d r) (h'.drop d) := by
  intro G w vs hv R F
  refine (hc G w vs hv R F).mono ?_
  rintro e w' ⟨v, G', rfl, T, R', V⟩
  exact ⟨v, G'.frz h' d, rfl, T.trans R R' (frz_trans d), frz_rep R' d, unT_rel R' d _ _ V⟩
end
end Go.Av
end
