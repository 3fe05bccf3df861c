/- Parts of a proof: a layer of abstract values over the model, the functions' walks, plain laws. -/
import Derived.Deep.CondSized
import Derived.IntWalk
import Derived.KernelRfl
import Derived.Laws.Append
import Derived.Laws.AppendOwn
import Derived.Laws.BytesArg
import Derived.Laws.Cover3
import Derived.Laws.Entries
import Derived.Laws.IdiomCopy
import Derived.Laws.IdiomStrings
import Derived.Laws.Pointers
import Derived.Laws.Small
import Derived.Laws.Strings
import Derived.Laws.StructEq
import Derived.MapKept
import Derived.OpenShut
import Derived.Orders
import Derived.OrdersIn
import Derived.ProofKit
import Derived.RangeFuncRecord
import Derived.RangeFuncSeq
import Derived.ReadAgain
import Derived.Scope
import Derived.Shelf.Slices.Cells
import Derived.Shelf.Slices.Delete
import Derived.Shelf.Spec.SlicesInsertGrow
import Derived.SizedLaws
import Derived.Test.YtpehfflehebmbaaRows
import Derived.Test.YtpehfflehebmbaaTBB
section
set_option maxRecDepth 100000
namespace Go.Proofs.Ytpehfflehebmbaa.C
open Go.Av
def c9 : AC := (.seq (.reg [⟨some 8, none, .mov (.c (.bool false))⟩] none)
 (.seq (.seq (.reg [⟨some 17, none, .mov (.t 0)⟩, ⟨some 18, none, .len false (.t 17)⟩, ⟨some 19, none, .bin .gtr (.t 18) (.c (.int .i64 100))⟩] none)
 (.cond (.t 19) (.seq (.reg [⟨some 20, none, .call 32 []⟩, ⟨some 8, none, .mov (.t 20)⟩] none)
 .ret) .skip))
 (.seq (.reg [⟨some 22, none, .mov (.t 0)⟩, ⟨some 23, none, .mov (.t 1)⟩, ⟨some 24, none, .mov (.t 2)⟩, ⟨some 25, none, .call 27 [(.t 22), (.t 23), (.t 24)]⟩, ⟨some 21, none, .mov (.t 25)⟩, ⟨some 26, none, .ext (.t 21) 0⟩, ⟨some 27, none, .ext (.t 21) 1⟩, ⟨some 9, none, .alloc [.sl 2 [] (.exact 0), .int .i64 0, .int .i64 0]⟩, ⟨none, none, .store 3 (.t 9) (.t 26)⟩, ⟨some 10, none, .mov (.t 27)⟩] none)
 (.seq (.reg [⟨some 29, none, .mov (.t 0)⟩, ⟨some 30, none, .mov (.t 1)⟩, ⟨some 31, none, .mov (.t 2)⟩, ⟨some 32, none, .call 26 [(.t 29), (.t 30), (.t 31)]⟩, ⟨some 28, none, .mov (.t 32)⟩, ⟨some 33, none, .ext (.t 28) 0⟩, ⟨some 34, none, .ext (.t 28) 1⟩, ⟨some 11, none, .mov (.t 33)⟩, ⟨some 12, none, .mov (.t 34)⟩] none)
 (.seq (.seq (.reg [⟨some 35, none, .mov (.t 10)⟩, ⟨some 36, none, .bin .neq (.t 35) (.c (.int .i64 0))⟩] none)
 (.cond (.t 36) (.seq (.reg [⟨some 37, none, .call 32 []⟩, ⟨some 8, none, .mov (.t 37)⟩] none)
 .ret) .skip))
 (.seq (.reg [⟨some 39, none, .mov (.t 11)⟩, ⟨some 40, none, .mov (.t 3)⟩, ⟨some 41, none, .call 33 [(.t 39), (.t 40)]⟩, ⟨some 38, none, .mov (.t 41)⟩, ⟨some 42, none, .ext (.t 38) 0⟩, ⟨some 43, none, .ext (.t 38) 1⟩, ⟨some 13, none, .mov (.t 42)⟩, ⟨some 14, none, .mov (.t 43)⟩] none)
 (.seq (.reg [⟨some 45, none, .load (some 3) (.t 9)⟩, ⟨some 46, none, .mov (.t 3)⟩, ⟨some 47, none, .call 34 [(.t 45), (.t 46)]⟩, ⟨some 44, none, .mov (.t 47)⟩, ⟨some 48, none, .ext (.t 44) 0⟩, ⟨some 49, none, .ext (.t 44) 1⟩, ⟨some 15, none, .alloc [.int .i64 0, .sl 3 [] (.exact 0), .sl 1 [] (.exact 0), .sl 2 [] (.exact 0), .bool false]⟩, ⟨none, none, .store 5 (.t 15) (.t 48)⟩, ⟨some 16, none, .mov (.t 49)⟩] none)
 (.seq (.reg [⟨some 50, none, .mov (.t 11)⟩, ⟨some 51, none, .eqP true (.t 50) (.c (.sc (.pointer none)))⟩, ⟨some 52, none, .mov (.t 51)⟩, ⟨some 53, some (52, true), .mov (.t 14)⟩, ⟨some 54, some (52, true), .mov (.t 16)⟩, ⟨some 55, some (52, true), .bin .eql (.t 53) (.t 54)⟩, ⟨some 56, none, .pick (.t 52) (.t 55) (.c (.bool false))⟩, ⟨some 57, none, .mov (.t 56)⟩, ⟨some 58, some (57, true), .mov (.t 13)⟩, ⟨some 59, some (57, true), .eqP false (.t 58) (.c (.sc (.pointer none)))⟩, ⟨some 60, some (57, true), .mov (.t 14)⟩, ⟨some 61, some (57, true), .bin .neq (.t 60) (.c (.int .i64 0))⟩, ⟨some 62, some (57, true), .eqB false (.t 59) (.t 61)⟩, ⟨some 63, none, .pick (.t 57) (.t 62) (.c (.bool false))⟩, ⟨some 64, none, .mov (.t 63)⟩, ⟨some 65, some (64, true), .mov (.t 13)⟩, ⟨some 66, some (64, true), .mov (.t 11)⟩, ⟨some 67, some (64, true), .call 35 [(.t 65), (.t 66)]⟩, ⟨some 68, some (64, true), .mov (.t 14)⟩, ⟨some 69, some (64, true), .bin .eql (.t 68) (.c (.int .i64 0))⟩, ⟨some 70, some (64, true), .eqB false (.t 67) (.t 69)⟩, ⟨some 71, none, .pick (.t 64) (.t 70) (.c (.bool false))⟩, ⟨some 72, none, .mov (.t 71)⟩, ⟨some 73, some (72, true), .mov (.t 13)⟩, ⟨some 74, some (72, true), .mov (.t 11)⟩, ⟨some 75, some (72, true), .call 25 [(.t 74)]⟩, ⟨some 76, some (72, true), .call 35 [(.t 73), (.t 75)]⟩, ⟨some 77, some (72, true), .un .not (.t 76)⟩, ⟨some 78, none, .pick (.t 72) (.t 77) (.c (.bool false))⟩, ⟨some 79, none, .mov (.t 78)⟩, ⟨some 80, some (79, true), .mov (.t 13)⟩, ⟨some 81, some (79, true), .call 35 [(.t 80), (.c (.sc (.pointer none)))]⟩, ⟨some 82, some (79, true), .un .not (.t 81)⟩, ⟨some 83, none, .pick (.t 79) (.t 82) (.c (.bool false))⟩, ⟨some 84, none, .mov (.t 83)⟩, ⟨some 85, some (84, true), .call 32 []⟩, ⟨some 86, none, .pick (.t 84) (.t 85) (.c (.bool false))⟩, ⟨some 8, none, .mov (.t 86)⟩] none)
 .ret))))))))
theorem f9 : FnIs Try.prog 9 87 c9 [.tmp 8] := ⟨_, Try.func9, rfl, by kernel_rfl, rfl⟩
def c10 : AC := (.seq (.reg [⟨some 3, none, .box (.t 0)⟩, ⟨some 6, none, .mov (.c (.bool false))⟩] none)
 (.seq (.seq (.reg [⟨some 18, none, .load (some 2) (.t 3)⟩, ⟨some 19, none, .call 36 [(.t 18)]⟩, ⟨some 20, none, .un .not (.t 19)⟩] none)
 (.cond (.t 20) (.seq (.reg [⟨some 21, none, .call 37 []⟩, ⟨some 6, none, .mov (.t 21)⟩] none)
 .ret) .skip))
 (.seq (.reg [⟨some 22, none, .load (some 2) (.t 3)⟩, ⟨some 23, none, .call 38 [(.t 22)]⟩, ⟨some 7, none, .alloc [.sl 1 [] (.exact 0), .sl 2 [] (.exact 0)]⟩, ⟨none, none, .store 2 (.t 7) (.t 23)⟩] none)
 (.seq (.reg [⟨some 25, none, .load (some 2) (.t 7)⟩, ⟨some 26, none, .mov (.t 1)⟩, ⟨some 27, none, .call 39 [(.t 25), (.t 26)]⟩, ⟨some 24, none, .mov (.t 27)⟩, ⟨some 28, none, .ext (.t 24) 0⟩, ⟨some 29, none, .ext (.t 24) 1⟩, ⟨some 8, none, .alloc [.sl 1 [] (.exact 0), .sl 2 [] (.exact 0)]⟩, ⟨none, none, .store 2 (.t 8) (.t 28)⟩, ⟨some 9, none, .mov (.t 29)⟩] none)
 (.seq (.reg [⟨some 31, none, .load (some 2) (.t 3)⟩, ⟨some 32, none, .mov (.t 1)⟩, ⟨some 33, none, .call 40 [(.t 31), (.t 32)]⟩, ⟨some 30, none, .mov (.t 33)⟩, ⟨some 34, none, .ext (.t 30) 0⟩, ⟨some 35, none, .ext (.t 30) 1⟩, ⟨some 10, none, .alloc [.sl 1 [] (.exact 0), .sl 2 [] (.exact 0)]⟩, ⟨none, none, .store 2 (.t 10) (.t 34)⟩, ⟨some 11, none, .mov (.t 35)⟩] none)
 (.seq (.reg [⟨some 37, none, .load (some 2) (.t 7)⟩, ⟨some 38, none, .mov (.t 1)⟩, ⟨some 39, none, .mov (.t 2)⟩, ⟨some 40, none, .call 41 [(.t 37), (.t 38), (.t 39)]⟩, ⟨some 36, none, .mov (.t 40)⟩, ⟨some 41, none, .ext (.t 36) 0⟩, ⟨some 42, none, .ext (.t 36) 1⟩, ⟨some 12, none, .alloc [.sl 1 [] (.exact 0), .sl 2 [] (.exact 0)]⟩, ⟨none, none, .store 2 (.t 12) (.t 41)⟩, ⟨some 13, none, .mov (.t 42)⟩] none)
 (.seq (.reg [⟨some 44, none, .load (some 2) (.t 3)⟩, ⟨some 45, none, .mov (.t 1)⟩, ⟨some 46, none, .mov (.t 2)⟩, ⟨some 47, none, .call 42 [(.t 44), (.t 45), (.t 46)]⟩, ⟨some 43, none, .mov (.t 47)⟩, ⟨some 48, none, .ext (.t 43) 0⟩, ⟨some 49, none, .ext (.t 43) 1⟩, ⟨some 14, none, .alloc [.sl 1 [] (.exact 0), .sl 2 [] (.exact 0)]⟩, ⟨none, none, .store 2 (.t 14) (.t 48)⟩, ⟨some 15, none, .mov (.t 49)⟩] none)
 (.seq (.seq (.reg [⟨some 50, none, .load (some 2) (.t 7)⟩, ⟨some 51, none, .call 43 [(.t 50)]⟩, ⟨some 52, none, .load (some 2) (.t 3)⟩, ⟨some 53, none, .call 44 [(.t 52)]⟩, ⟨some 54, none, .bin .neq (.t 51) (.t 53)⟩, ⟨some 55, none, .mov (.t 54)⟩, ⟨some 56, some (55, false), .load (some 2) (.t 8)⟩, ⟨some 57, some (55, false), .load (some 2) (.t 10)⟩, ⟨some 58, some (55, false), .call 45 [(.t 56), (.t 57)]⟩, ⟨some 59, some (55, false), .un .not (.t 58)⟩, ⟨some 60, none, .pick (.t 55) (.c (.bool true)) (.t 59)⟩, ⟨some 61, none, .mov (.t 60)⟩, ⟨some 62, some (61, false), .mov (.t 9)⟩, ⟨some 63, some (61, false), .mov (.t 11)⟩, ⟨some 64, some (61, false), .bin .neq (.t 62) (.t 63)⟩, ⟨some 65, none, .pick (.t 61) (.c (.bool true)) (.t 64)⟩, ⟨some 66, none, .mov (.t 65)⟩, ⟨some 67, some (66, false), .load (some 2) (.t 12)⟩, ⟨some 68, some (66, false), .load (some 2) (.t 14)⟩, ⟨some 69, some (66, false), .call 45 [(.t 67), (.t 68)]⟩, ⟨some 70, some (66, false), .un .not (.t 69)⟩, ⟨some 71, none, .pick (.t 66) (.c (.bool true)) (.t 70)⟩, ⟨some 72, none, .mov (.t 71)⟩, ⟨some 73, some (72, false), .mov (.t 13)⟩, ⟨some 74, some (72, false), .mov (.t 15)⟩, ⟨some 75, some (72, false), .bin .neq (.t 73) (.t 74)⟩, ⟨some 76, none, .pick (.t 72) (.c (.bool true)) (.t 75)⟩] (some [(0, 2), (1, 2), (6, 7), (17, 18)]))
 (.cond (.t 76) (.seq (.reg [⟨some 6, none, .mov (.c (.bool false))⟩] none)
 .ret) .skip))
 (.seq (.reg [⟨some 77, none, .faddr 0 (.t 7)⟩, ⟨some 78, none, .load none (.t 77)⟩, ⟨some 79, none, .faddr 0 (.t 7)⟩, ⟨some 80, none, .load none (.t 79)⟩, ⟨some 81, none, .len false (.t 80)⟩, ⟨some 82, none, .bin .add (.t 81) (.c (.int .i64 1))⟩, ⟨some 83, none, .slc false 1 (.t 78) none (some (.t 82)) none⟩, ⟨some 84, none, .faddr 1 (.t 7)⟩, ⟨some 85, none, .load none (.t 84)⟩, ⟨some 86, none, .faddr 1 (.t 7)⟩, ⟨some 87, none, .load none (.t 86)⟩, ⟨some 88, none, .len false (.t 87)⟩, ⟨some 89, none, .bin .add (.t 88) (.c (.int .i64 1))⟩, ⟨some 90, none, .slc false 2 (.t 85) none (some (.t 89)) none⟩, ⟨some 16, none, .mov (.t 83)⟩, ⟨some 17, none, .mov (.t 90)⟩] (some [(1, 3), (1, 8), (3, 8), (1, 10), (3, 10), (8, 10)]))
 (.seq (.reg [⟨some 91, none, .load (some 2) (.t 7)⟩, ⟨some 92, none, .load (some 2) (.t 3)⟩, ⟨some 93, none, .call 45 [(.t 91), (.t 92)]⟩, ⟨some 94, none, .mov (.t 93)⟩, ⟨some 95, some (94, true), .mov (.t 16)⟩, ⟨some 96, some (94, true), .mov (.t 16)⟩, ⟨some 97, some (94, true), .len false (.t 96)⟩, ⟨some 98, some (94, true), .bin .sub (.t 97) (.c (.int .i64 1))⟩, ⟨some 99, some (94, true), .iaddr 1 (.t 95) (.t 98)⟩, ⟨some 100, some (94, true), .load none (.t 99)⟩, ⟨some 101, some (94, true), .bin .eql (.t 100) (.c (.str [63]))⟩, ⟨some 102, none, .pick (.t 94) (.t 101) (.c (.bool false))⟩, ⟨some 103, none, .mov (.t 102)⟩, ⟨some 104, some (103, true), .mov (.t 17)⟩, ⟨some 105, some (103, true), .mov (.t 17)⟩, ⟨some 106, some (103, true), .len false (.t 105)⟩, ⟨some 107, some (103, true), .bin .sub (.t 106) (.c (.int .i64 1))⟩, ⟨some 108, some (103, true), .iaddr 2 (.t 104) (.t 107)⟩, ⟨some 109, some (103, true), .load (some 2) (.t 108)⟩, ⟨some 110, some (103, true), .build [.str [], .str []] [(0, 1, (.c (.str [63])))]⟩, ⟨some 111, some (103, true), .eqA false [.str, .str] (.t 109) (.t 110)⟩, ⟨some 112, none, .pick (.t 103) (.t 111) (.c (.bool false))⟩, ⟨some 113, none, .mov (.t 112)⟩, ⟨some 114, some (113, true), .call 37 []⟩, ⟨some 115, none, .pick (.t 113) (.t 114) (.c (.bool false))⟩, ⟨some 6, none, .mov (.t 115)⟩] none)
 .ret))))))))))
theorem f10 : FnIs Try.prog 10 116 c10 [.tmp 6] := ⟨_, Try.func10, rfl, by kernel_rfl, rfl⟩
def c11 : AC := (.seq (.reg [⟨some 5, none, .box (.t 0)⟩, ⟨some 10, none, .mov (.c (.bool false))⟩] none)
 (.seq (.seq (.reg [⟨some 15, none, .load (some 2) (.t 5)⟩, ⟨some 16, none, .call 36 [(.t 15)]⟩, ⟨some 17, none, .un .not (.t 16)⟩, ⟨some 18, none, .mov (.t 17)⟩, ⟨some 19, some (18, false), .mov (.t 2)⟩, ⟨some 20, some (18, false), .len false (.t 19)⟩, ⟨some 21, some (18, false), .bin .gtr (.t 20) (.c (.int .i64 100))⟩, ⟨some 22, none, .pick (.t 18) (.c (.bool true)) (.t 21)⟩, ⟨some 23, none, .mov (.t 22)⟩, ⟨some 24, some (23, false), .mov (.t 3)⟩, ⟨some 25, some (23, false), .len false (.t 24)⟩, ⟨some 26, some (23, false), .bin .gtr (.t 25) (.c (.int .i64 100))⟩, ⟨some 27, none, .pick (.t 23) (.c (.bool true)) (.t 26)⟩] none)
 (.cond (.t 27) (.seq (.reg [⟨some 28, none, .call 37 []⟩, ⟨some 10, none, .mov (.t 28)⟩] none)
 .ret) .skip))
 (.seq (.seq (.reg [⟨some 29, none, .load (some 2) (.t 5)⟩, ⟨some 30, none, .mov (.t 1)⟩, ⟨some 31, none, .call 46 [(.t 29), (.t 30)]⟩, ⟨some 32, none, .load (some 2) (.t 5)⟩, ⟨some 33, none, .mov (.t 1)⟩, ⟨some 34, none, .call 47 [(.t 32), (.t 33)]⟩, ⟨some 35, none, .eqB true (.t 31) (.t 34)⟩, ⟨some 36, none, .mov (.t 35)⟩, ⟨some 37, some (36, false), .load (some 2) (.t 5)⟩, ⟨some 38, some (36, false), .mov (.t 2)⟩, ⟨some 39, some (36, false), .call 48 [(.t 37), (.t 38)]⟩, ⟨some 40, some (36, false), .load (some 2) (.t 5)⟩, ⟨some 41, some (36, false), .mov (.t 2)⟩, ⟨some 42, some (36, false), .call 49 [(.t 40), (.t 41)]⟩, ⟨some 43, some (36, false), .eqB true (.t 39) (.t 42)⟩, ⟨some 44, none, .pick (.t 36) (.c (.bool true)) (.t 43)⟩, ⟨some 45, none, .mov (.t 44)⟩, ⟨some 46, some (45, false), .load (some 2) (.t 5)⟩, ⟨some 47, some (45, false), .mov (.t 4)⟩, ⟨some 48, some (45, false), .call 50 [(.t 46), (.c (.sc (.pointer none))), (.t 47)]⟩, ⟨some 49, none, .pick (.t 45) (.c (.bool true)) (.t 48)⟩] (some [(0, 3), (2, 3), (8, 11), (10, 11)]))
 (.cond (.t 49) (.seq (.reg [⟨some 10, none, .mov (.c (.bool false))⟩] none)
 .ret) .skip))
 (.seq (.reg [⟨some 51, none, .mov (.t 3)⟩, ⟨some 52, none, .call 27 [(.t 51), (.c (.int .i64 1000)), (.c (.int .i64 0))]⟩, ⟨some 50, none, .mov (.t 52)⟩, ⟨some 53, none, .ext (.t 50) 0⟩, ⟨some 54, none, .ext (.t 50) 1⟩, ⟨some 11, none, .alloc [.sl 2 [] (.exact 0), .int .i64 0, .int .i64 0]⟩, ⟨none, none, .store 3 (.t 11) (.t 53)⟩, ⟨some 12, none, .mov (.t 54)⟩] none)
 (.seq (.reg [⟨some 56, none, .mov (.t 3)⟩, ⟨some 57, none, .call 26 [(.t 56), (.c (.int .i64 1000)), (.c (.int .i64 0))]⟩, ⟨some 55, none, .mov (.t 57)⟩, ⟨some 58, none, .ext (.t 55) 0⟩, ⟨some 59, none, .ext (.t 55) 1⟩, ⟨some 13, none, .mov (.t 58)⟩, ⟨some 14, none, .mov (.t 59)⟩] none)
 (.seq (.seq (.reg [⟨some 60, none, .mov (.t 12)⟩, ⟨some 61, none, .bin .neq (.t 60) (.c (.int .i64 0))⟩] none)
 (.cond (.t 61) (.seq (.reg [⟨some 62, none, .call 37 []⟩, ⟨some 10, none, .mov (.t 62)⟩] none)
 .ret) .skip))
 (.seq (.reg [⟨some 63, none, .mov (.t 14)⟩, ⟨some 64, none, .bin .eql (.t 63) (.c (.int .i64 0))⟩, ⟨some 65, none, .mov (.t 64)⟩, ⟨some 66, some (65, true), .mov (.t 13)⟩, ⟨some 67, some (65, true), .eqP true (.t 66) (.c (.sc (.pointer none)))⟩, ⟨some 68, none, .pick (.t 65) (.t 67) (.c (.bool false))⟩, ⟨some 69, none, .mov (.t 68)⟩, ⟨some 70, some (69, true), .load (some 2) (.t 5)⟩, ⟨some 71, some (69, true), .mov (.t 13)⟩, ⟨some 72, some (69, true), .mov (.t 4)⟩, ⟨some 73, some (69, true), .call 50 [(.t 70), (.t 71), (.t 72)]⟩, ⟨some 74, some (69, true), .load (some 2) (.t 5)⟩, ⟨some 75, some (69, true), .load (some 3) (.t 11)⟩, ⟨some 76, some (69, true), .mov (.t 4)⟩, ⟨some 77, some (69, true), .call 51 [(.t 74), (.t 75), (.t 76)]⟩, ⟨some 78, some (69, true), .eqB false (.t 73) (.t 77)⟩, ⟨some 79, none, .pick (.t 69) (.t 78) (.c (.bool false))⟩, ⟨some 80, none, .mov (.t 79)⟩, ⟨some 81, some (80, true), .call 37 []⟩, ⟨some 82, none, .pick (.t 80) (.t 81) (.c (.bool false))⟩, ⟨some 10, none, .mov (.t 82)⟩] (some [(7, 11), (10, 11), (7, 12), (10, 12), (11, 12)]))
 .ret)))))))
theorem f11 : FnIs Try.prog 11 83 c11 [.tmp 10] := ⟨_, Try.func11, rfl, by kernel_rfl, rfl⟩
def c12 : AC := (.seq (.reg [⟨some 5, none, .box (.t 0)⟩, ⟨some 10, none, .mov (.c (.bool false))⟩] none)
 (.seq (.seq (.reg [⟨some 16, none, .load (some 2) (.t 5)⟩, ⟨some 17, none, .call 36 [(.t 16)]⟩, ⟨some 18, none, .un .not (.t 17)⟩, ⟨some 19, none, .mov (.t 18)⟩, ⟨some 20, some (19, false), .mov (.t 1)⟩, ⟨some 21, some (19, false), .len false (.t 20)⟩, ⟨some 22, some (19, false), .bin .gtr (.t 21) (.c (.int .i64 100))⟩, ⟨some 23, none, .pick (.t 19) (.c (.bool true)) (.t 22)⟩, ⟨some 24, none, .mov (.t 23)⟩, ⟨some 25, some (24, false), .mov (.t 4)⟩, ⟨some 26, some (24, false), .len false (.t 25)⟩, ⟨some 27, some (24, false), .bin .gtr (.t 26) (.c (.int .i64 100))⟩, ⟨some 28, none, .pick (.t 24) (.c (.bool true)) (.t 27)⟩, ⟨some 29, none, .mov (.t 28)⟩, ⟨some 30, some (29, false), .load (some 2) (.t 5)⟩, ⟨some 31, some (29, false), .call 43 [(.t 30)]⟩, ⟨some 32, some (29, false), .bin .neq (.t 31) (.c (.int .i64 0))⟩, ⟨some 33, none, .pick (.t 29) (.c (.bool true)) (.t 32)⟩, ⟨some 34, none, .mov (.t 33)⟩, ⟨some 35, some (34, false), .mov (.t 2)⟩, ⟨some 36, some (34, false), .bin .gtr (.t 35) (.c (.int .i64 1000000))⟩, ⟨some 37, none, .pick (.t 34) (.c (.bool true)) (.t 36)⟩] none)
 (.cond (.t 37) (.seq (.reg [⟨some 38, none, .call 37 []⟩, ⟨some 10, none, .mov (.t 38)⟩] none)
 .ret) .skip))
 (.seq (.seq (.reg [⟨some 40, none, .mov (.t 1)⟩, ⟨some 41, none, .mov (.t 2)⟩, ⟨some 42, none, .call 27 [(.t 40), (.t 41), (.c (.int .i64 0))]⟩, ⟨some 39, none, .mov (.t 42)⟩, ⟨some 43, none, .ext (.t 39) 0⟩, ⟨some 44, none, .ext (.t 39) 1⟩, ⟨some 11, none, .alloc [.sl 2 [] (.exact 0), .int .i64 0, .int .i64 0]⟩, ⟨none, none, .store 3 (.t 11) (.t 43)⟩, ⟨some 12, none, .mov (.t 44)⟩] none)
 (.seq (.reg [⟨some 45, none, .mov (.t 12)⟩, ⟨some 46, none, .bin .neq (.t 45) (.c (.int .i64 0))⟩, ⟨some 47, none, .mov (.t 46)⟩, ⟨some 48, some (47, false), .mov (.t 3)⟩, ⟨some 49, some (47, false), .mov (.t 2)⟩, ⟨some 50, some (47, false), .bin .gtr (.t 48) (.t 49)⟩, ⟨some 51, none, .pick (.t 47) (.c (.bool true)) (.t 50)⟩] none)
 (.cond (.t 51) (.seq (.reg [⟨some 52, none, .call 37 []⟩, ⟨some 10, none, .mov (.t 52)⟩] none)
 .ret) .skip)))
 (.seq (.reg [⟨some 54, none, .mov (.t 1)⟩, ⟨some 55, none, .mov (.t 2)⟩, ⟨some 56, none, .call 26 [(.t 54), (.t 55), (.c (.int .i64 0))]⟩, ⟨some 53, none, .mov (.t 56)⟩, ⟨some 57, none, .ext (.t 53) 0⟩, ⟨some 58, none, .ext (.t 53) 1⟩, ⟨some 13, none, .mov (.t 57)⟩, ⟨some 14, none, .mov (.t 58)⟩] none)
 (.seq (.seq (.reg [⟨some 59, none, .mov (.t 13)⟩, ⟨some 60, none, .eqP false (.t 59) (.c (.sc (.pointer none)))⟩, ⟨some 61, none, .mov (.t 60)⟩, ⟨some 62, some (61, false), .mov (.t 14)⟩, ⟨some 63, some (61, false), .bin .neq (.t 62) (.c (.int .i64 0))⟩, ⟨some 64, none, .pick (.t 61) (.c (.bool true)) (.t 63)⟩] none)
 (.cond (.t 64) (.seq (.reg [⟨some 10, none, .mov (.c (.bool false))⟩] none)
 .ret) .skip))
 (.seq (.reg [⟨some 65, none, .load (some 2) (.t 5)⟩, ⟨some 66, none, .mov (.t 13)⟩, ⟨some 67, none, .mov (.t 3)⟩, ⟨some 68, none, .call 50 [(.t 65), (.t 66), (.t 67)]⟩, ⟨some 15, none, .mov (.t 68)⟩] none)
 (.seq (.seq (.reg [⟨some 69, none, .mov (.t 13)⟩, ⟨some 70, none, .mov (.t 2)⟩, ⟨some 71, none, .bin .add (.t 70) (.c (.int .i64 1))⟩, ⟨some 72, none, .mov (.t 4)⟩, ⟨some 73, none, .call 15 [(.t 69), (.t 71), (.t 72)]⟩, ⟨some 74, none, .bin .neq (.t 73) (.c (.int .i64 0))⟩] none)
 (.cond (.t 74) (.seq (.reg [⟨some 75, none, .load (some 2) (.t 5)⟩, ⟨some 76, none, .mov (.t 13)⟩, ⟨some 77, none, .mov (.t 3)⟩, ⟨some 78, none, .call 50 [(.t 75), (.t 76), (.t 77)]⟩, ⟨some 79, none, .mov (.t 15)⟩, ⟨some 80, none, .eqB false (.t 78) (.t 79)⟩, ⟨some 81, none, .mov (.t 80)⟩, ⟨some 82, some (81, true), .call 37 []⟩, ⟨some 83, none, .pick (.t 81) (.t 82) (.c (.bool false))⟩, ⟨some 10, none, .mov (.t 83)⟩] none)
 .ret) .skip))
 (.seq (.reg [⟨some 84, none, .load (some 2) (.t 5)⟩, ⟨some 85, none, .mov (.t 13)⟩, ⟨some 86, none, .mov (.t 3)⟩, ⟨some 87, none, .call 50 [(.t 84), (.t 85), (.t 86)]⟩, ⟨some 88, none, .mov (.t 15)⟩, ⟨some 89, none, .mov (.t 88)⟩, ⟨some 90, some (89, false), .load (some 2) (.t 5)⟩, ⟨some 91, some (89, false), .mov (.t 4)⟩, ⟨some 92, some (89, false), .call 48 [(.t 90), (.t 91)]⟩, ⟨some 93, none, .pick (.t 89) (.c (.bool true)) (.t 92)⟩, ⟨some 94, none, .eqB false (.t 87) (.t 93)⟩, ⟨some 95, none, .mov (.t 94)⟩, ⟨some 96, some (95, true), .call 37 []⟩, ⟨some 97, none, .pick (.t 95) (.t 96) (.c (.bool false))⟩, ⟨some 10, none, .mov (.t 97)⟩] none)
 .ret))))))))
theorem f12 : FnIs Try.prog 12 98 c12 [.tmp 10] := ⟨_, Try.func12, rfl, by kernel_rfl, rfl⟩
def c13 : AC := (.seq (.reg [⟨some 0, none, .mov (.c (.sc (.pointer none)))⟩] none)
 (.seq (.reg [⟨some 1, none, .mkmap⟩, ⟨some 2, none, .build [.sl 1 [] (.exact 0), .sc (.map none), .int .i64 0, .int .i64 0] [(1, 1, (.t 1))]⟩, ⟨some 3, none, .box (.t 2)⟩, ⟨some 0, none, .mov (.t 3)⟩] none)
 .ret))
theorem f13 : FnIs Try.prog 13 4 c13 [.tmp 0] := ⟨_, Try.func13, rfl, by kernel_rfl, rfl⟩
def c14 : AC := (.seq (.reg [⟨some 0, none, .mov (.c (.bool false))⟩] none)
 (.seq (.reg [⟨some 15, none, .call 13 []⟩, ⟨some 1, none, .mov (.t 15)⟩] none)
 (.seq (.seq (.reg [⟨some 16, none, .mov (.t 1)⟩, ⟨some 17, none, .eqP false (.t 16) (.c (.sc (.pointer none)))⟩] none)
 (.cond (.t 17) (.seq (.reg [⟨some 0, none, .mov (.c (.bool false))⟩] none)
 .ret) .skip))
 (.seq (.reg [⟨some 18, none, .mov (.t 1)⟩, ⟨some 19, none, .build [.str [], .str [], .bool false] [(0, 1, (.c (.str [97]))), (1, 1, (.c (.str [120])))]⟩, ⟨some 20, none, .build [.str [], .str [], .bool false] [(0, 1, (.c (.str [98]))), (1, 1, (.c (.str [121])))]⟩, ⟨some 21, none, .buildSl 3 [(.t 19), (.t 20)]⟩, ⟨some 22, none, .call 15 [(.t 18), (.c (.int .i64 1)), (.t 21)]⟩, ⟨some 2, none, .mov (.t 22)⟩] none)
 (.seq (.reg [⟨some 23, none, .mov (.t 1)⟩, ⟨some 24, none, .build [.str [], .str [], .bool false] [(0, 1, (.c (.str [97]))), (2, 1, (.c (.bool true)))]⟩, ⟨some 25, none, .buildSl 3 [(.t 24)]⟩, ⟨some 26, none, .call 15 [(.t 23), (.c (.int .i64 3)), (.t 25)]⟩, ⟨some 3, none, .mov (.t 26)⟩] none)
 (.seq (.reg [⟨some 28, none, .mov (.t 1)⟩, ⟨some 29, none, .call 20 [(.t 28), (.c (.str [97])), (.c (.int .i64 2))]⟩, ⟨some 27, none, .mov (.t 29)⟩, ⟨some 30, none, .ext (.t 27) 0⟩, ⟨some 31, none, .ext (.t 27) 1⟩, ⟨some 4, none, .mov (.t 30)⟩, ⟨some 5, none, .mov (.t 31)⟩] none)
 (.seq (.reg [⟨some 33, none, .mov (.t 1)⟩, ⟨some 34, none, .call 20 [(.t 33), (.c (.str [97])), (.c (.int .i64 3))]⟩, ⟨some 32, none, .mov (.t 34)⟩, ⟨some 35, none, .ext (.t 32) 0⟩, ⟨some 36, none, .ext (.t 32) 1⟩, ⟨some 6, none, .mov (.t 35)⟩, ⟨some 7, none, .mov (.t 36)⟩] none)
 (.seq (.reg [⟨some 38, none, .mov (.t 1)⟩, ⟨some 39, none, .call 17 [(.t 38), (.c (.str [])), (.c (.str [])), (.c (.int .i64 3)), (.c (.int .i64 (-1)))]⟩, ⟨some 37, none, .mov (.t 39)⟩, ⟨some 40, none, .ext (.t 37) 0⟩, ⟨some 41, none, .ext (.t 37) 1⟩, ⟨some 8, none, .mov (.t 40)⟩, ⟨some 9, none, .mov (.t 41)⟩] none)
 (.seq (.reg [⟨some 42, none, .mov (.t 1)⟩, ⟨some 43, none, .call 22 [(.t 42), (.c (.str [97])), (.c (.str [98])), (.c (.int .i64 1))]⟩, ⟨some 10, none, .mov (.t 43)⟩] none)
 (.seq (.reg [⟨some 44, none, .mov (.t 1)⟩, ⟨some 45, none, .call 21 [(.t 44), (.c (.int .i64 3))]⟩, ⟨some 11, none, .mov (.t 45)⟩] none)
 (.seq (.reg [⟨some 47, none, .mov (.t 1)⟩, ⟨some 48, none, .call 20 [(.t 47), (.c (.str [97])), (.c (.int .i64 2))]⟩, ⟨some 46, none, .mov (.t 48)⟩, ⟨some 49, none, .ext (.t 46) 0⟩, ⟨some 50, none, .ext (.t 46) 1⟩, ⟨some 12, none, .mov (.t 49)⟩, ⟨some 13, none, .mov (.t 50)⟩] none)
 (.seq (.reg [⟨some 51, none, .mov (.t 1)⟩, ⟨some 52, none, .call 24 [(.t 51)]⟩, ⟨some 14, none, .mov (.t 52)⟩] none)
 (.seq (.reg [⟨some 53, none, .mov (.t 2)⟩, ⟨some 54, none, .bin .eql (.t 53) (.c (.int .i64 0))⟩, ⟨some 55, none, .mov (.t 54)⟩, ⟨some 56, some (55, true), .mov (.t 3)⟩, ⟨some 57, some (55, true), .bin .eql (.t 56) (.c (.int .i64 0))⟩, ⟨some 58, none, .pick (.t 55) (.t 57) (.c (.bool false))⟩, ⟨some 59, none, .mov (.t 58)⟩, ⟨some 60, some (59, true), .mov (.t 4)⟩, ⟨some 61, some (59, true), .bin .eql (.t 60) (.c (.str [120]))⟩, ⟨some 62, none, .pick (.t 59) (.t 61) (.c (.bool false))⟩, ⟨some 63, none, .mov (.t 62)⟩, ⟨some 64, some (63, true), .mov (.t 5)⟩, ⟨some 65, some (63, true), .bin .eql (.t 64) (.c (.int .i64 0))⟩, ⟨some 66, none, .pick (.t 63) (.t 65) (.c (.bool false))⟩, ⟨some 67, none, .mov (.t 66)⟩, ⟨some 68, some (67, true), .mov (.t 7)⟩, ⟨some 69, some (67, true), .bin .eql (.t 68) (.c (.int .i64 7))⟩, ⟨some 70, none, .pick (.t 67) (.t 69) (.c (.bool false))⟩, ⟨some 71, none, .mov (.t 70)⟩, ⟨some 72, some (71, true), .mov (.t 8)⟩, ⟨some 73, some (71, true), .build [.str [], .str []] [(0, 1, (.c (.str [98]))), (1, 1, (.c (.str [121])))]⟩, ⟨some 74, some (71, true), .buildSl 2 [(.t 73)]⟩, ⟨some 75, some (71, true), .call 18 [(.t 72), (.t 74)]⟩, ⟨some 76, none, .pick (.t 71) (.t 75) (.c (.bool false))⟩, ⟨some 77, none, .mov (.t 76)⟩, ⟨some 78, some (77, true), .mov (.t 9)⟩, ⟨some 79, some (77, true), .bin .eql (.t 78) (.c (.int .i64 0))⟩, ⟨some 80, none, .pick (.t 77) (.t 79) (.c (.bool false))⟩, ⟨some 81, none, .mov (.t 80)⟩, ⟨some 82, some (81, true), .mov (.t 10)⟩, ⟨some 83, none, .pick (.t 81) (.t 82) (.c (.bool false))⟩, ⟨some 84, none, .mov (.t 83)⟩, ⟨some 85, some (84, true), .mov (.t 11)⟩, ⟨some 86, some (84, true), .bin .eql (.t 85) (.c (.int .i64 0))⟩, ⟨some 87, none, .pick (.t 84) (.t 86) (.c (.bool false))⟩, ⟨some 88, none, .mov (.t 87)⟩, ⟨some 89, some (88, true), .mov (.t 13)⟩, ⟨some 90, some (88, true), .bin .eql (.t 89) (.c (.int .i64 12))⟩, ⟨some 91, none, .pick (.t 88) (.t 90) (.c (.bool false))⟩, ⟨some 92, none, .mov (.t 91)⟩, ⟨some 93, some (92, true), .mov (.t 14)⟩, ⟨some 94, some (92, true), .len false (.t 93)⟩, ⟨some 95, some (92, true), .bin .eql (.t 94) (.c (.int .i64 1))⟩, ⟨some 96, none, .pick (.t 92) (.t 95) (.c (.bool false))⟩, ⟨some 97, none, .mov (.t 96)⟩, ⟨some 98, some (97, true), .mov (.t 14)⟩, ⟨some 99, some (97, true), .iaddr 2 (.t 98) (.c (.int .i64 0))⟩, ⟨some 100, some (97, true), .faddr 0 (.t 99)⟩, ⟨some 101, some (97, true), .load none (.t 100)⟩, ⟨some 102, some (97, true), .bin .eql (.t 101) (.c (.str [98]))⟩, ⟨some 103, none, .pick (.t 97) (.t 102) (.c (.bool false))⟩, ⟨some 0, none, .mov (.t 103)⟩] none)
 .ret)))))))))))))
theorem f14 : FnIs Try.prog 14 104 c14 [.tmp 0] := ⟨_, Try.func14, rfl, by kernel_rfl, rfl⟩
def c15 : AC := (.seq (.reg [⟨some 6, none, .mov (.c (.int .i64 0))⟩] none)
 (.seq (.block 0 (.seq (.reg [⟨some 12, none, .mov (.t 0)⟩, ⟨some 13, none, .call 52 [(.t 12)]⟩, ⟨some 14, none, .un .not (.t 13)⟩, ⟨some 11, none, .mov (.t 14)⟩] none)
 (.cond (.t 11) (.seq (.reg [⟨some 6, none, .mov (.c (.int .i64 1))⟩] none)
 .ret) (.seq (.reg [⟨some 16, none, .mov (.t 1)⟩, ⟨some 17, none, .mov (.t 0)⟩, ⟨some 18, none, .nilck (.t 17)⟩, ⟨some 19, none, .faddr 2 (.t 18)⟩, ⟨some 20, none, .load none (.t 19)⟩, ⟨some 21, none, .bin .leq (.t 16) (.t 20)⟩, ⟨some 22, none, .mov (.t 21)⟩, ⟨some 23, some (22, false), .mov (.t 1)⟩, ⟨some 24, some (22, false), .bin .gtr (.t 23) (.c (.int .i64 1152921504606846976))⟩, ⟨some 25, none, .pick (.t 22) (.c (.bool true)) (.t 24)⟩, ⟨some 15, none, .mov (.t 25)⟩] none)
 (.cond (.t 15) (.seq (.reg [⟨some 6, none, .mov (.c (.int .i64 18))⟩] none)
 .ret) (.seq (.reg [⟨some 27, none, .mov (.t 2)⟩, ⟨some 28, none, .call 53 [(.t 27)]⟩, ⟨some 29, none, .un .not (.t 28)⟩, ⟨some 26, none, .mov (.t 29)⟩] none)
 (.cond (.t 26) (.seq (.reg [⟨some 6, none, .mov (.c (.int .i64 2))⟩] none)
 .ret) .skip)))))))
 (.seq (.seq (.reg [⟨some 30, none, .mov (.t 2)⟩, ⟨some 31, none, .len false (.t 30)⟩, ⟨some 32, none, .mov (.c (.int .i64 0))⟩] none)
 (.block 1 (.loop (.seq (.reg [⟨some 33, none, .bin .lss (.t 32) (.t 31)⟩] none)
 (.seq (.cond (.t 33) .skip (.exit 1))
 (.seq (.block 2 (.seq (.reg [⟨some 34, none, .iaddr 3 (.t 30) (.t 32)⟩, ⟨some 35, none, .load (some 3) (.t 34)⟩, ⟨some 8, none, .alloc [.str [], .str [], .bool false]⟩, ⟨none, none, .store 3 (.t 8) (.t 35)⟩] none)
 (.seq (.reg [⟨some 37, none, .mov (.t 0)⟩, ⟨some 38, none, .nilck (.t 37)⟩, ⟨some 39, none, .faddr 1 (.t 38)⟩, ⟨some 40, none, .load none (.t 39)⟩, ⟨some 41, none, .faddr 0 (.t 8)⟩, ⟨some 42, none, .load none (.t 41)⟩, ⟨some 43, none, .mlook (.sl 3 [] (.exact 0)) false (.t 40) (.t 42)⟩, ⟨some 44, none, .mov (.t 1)⟩, ⟨some 45, none, .faddr 1 (.t 8)⟩, ⟨some 46, none, .load none (.t 45)⟩, ⟨some 47, none, .faddr 2 (.t 8)⟩, ⟨some 48, none, .load none (.t 47)⟩, ⟨some 49, none, .build [.int .i64 0, .str [], .bool false] [(0, 1, (.t 44)), (1, 1, (.t 46)), (2, 1, (.t 48))]⟩, ⟨some 50, none, .call 54 [(.t 43), (.t 49)]⟩, ⟨some 36, none, .mov (.t 50)⟩, ⟨some 51, none, .ext (.t 36) 0⟩, ⟨some 52, none, .ext (.t 36) 1⟩, ⟨some 9, none, .mov (.t 51)⟩, ⟨some 10, none, .mov (.t 52)⟩] (some [(3, 5), (3, 9), (5, 9), (6, 9), (3, 11), (5, 11), (6, 11), (9, 11)]))
 (.reg [⟨some 53, none, .mov (.t 0)⟩, ⟨some 54, none, .faddr 0 (.t 8)⟩, ⟨some 55, none, .load none (.t 54)⟩, ⟨some 56, none, .mov (.t 9)⟩, ⟨some 57, none, .call 55 [(.t 53), (.t 55), (.t 56)]⟩] none))))
 (.reg [⟨some 58, none, .bin .add (.t 32) (.c (.int .i64 1))⟩, ⟨some 32, none, .mov (.t 58)⟩] none)))))))
 (.seq (.reg [⟨some 59, none, .mov (.t 0)⟩, ⟨some 60, none, .mov (.t 1)⟩, ⟨some 61, none, .nilck (.t 59)⟩, ⟨some 62, none, .faddr 2 (.t 61)⟩, ⟨none, none, .store 1 (.t 62) (.t 60)⟩] none)
 (.seq (.reg [⟨some 6, none, .mov (.c (.int .i64 0))⟩] none)
 .ret)))))
theorem f15 : FnIs Try.prog 15 63 c15 [.tmp 6] := ⟨_, Try.func15, rfl, by kernel_rfl, rfl⟩
def c16 : AC := (.seq (.reg [⟨some 4, none, .mov (.c (.sl 2 [] (.exact 0)))⟩, ⟨some 5, none, .mov (.c (.bool false))⟩] none)
 (.seq (.seq (.reg [⟨some 6, none, .mov (.c (.int .i64 0))⟩] none)
 (.block 0 (.loop (.seq (.seq (.reg [⟨some 8, none, .mov (.t 6)⟩, ⟨some 9, none, .mov (.t 1)⟩, ⟨some 10, none, .len false (.t 9)⟩, ⟨some 11, none, .bin .lss (.t 8) (.t 10)⟩] none)
 (.cond (.t 11) .skip (.exit 0)))
 (.seq (.block 1 (.seq (.reg [⟨some 14, none, .mov (.t 1)⟩, ⟨some 15, none, .mov (.t 6)⟩, ⟨some 16, none, .iaddr 3 (.t 14) (.t 15)⟩, ⟨some 17, none, .faddr 0 (.t 16)⟩, ⟨some 18, none, .load none (.t 17)⟩, ⟨some 19, none, .len true (.t 18)⟩, ⟨some 20, none, .bin .gtr (.t 19) (.c (.int .i64 128))⟩, ⟨some 21, none, .mov (.t 20)⟩, ⟨some 22, some (21, false), .mov (.t 1)⟩, ⟨some 23, some (21, false), .mov (.t 6)⟩, ⟨some 24, some (21, false), .iaddr 3 (.t 22) (.t 23)⟩, ⟨some 25, some (21, false), .faddr 1 (.t 24)⟩, ⟨some 26, some (21, false), .load none (.t 25)⟩, ⟨some 27, some (21, false), .len true (.t 26)⟩, ⟨some 28, some (21, false), .bin .gtr (.t 27) (.c (.int .i64 200))⟩, ⟨some 29, none, .pick (.t 21) (.c (.bool true)) (.t 28)⟩] none)
 (.cond (.t 29) (.seq (.reg [⟨some 4, none, .mov (.c (.sl 2 [] (.exact 0)))⟩, ⟨some 5, none, .mov (.c (.bool false))⟩] none)
 .ret) .skip)))
 (.reg [⟨some 12, none, .mov (.t 6)⟩, ⟨some 13, none, .bin .add (.t 12) (.c (.int .i64 1))⟩, ⟨some 6, none, .mov (.t 13)⟩] none))))))
 (.seq (.seq (.reg [⟨some 7, none, .mov (.c (.int .i64 0))⟩] none)
 (.block 2 (.loop (.seq (.seq (.reg [⟨some 30, none, .mov (.t 7)⟩, ⟨some 31, none, .mov (.t 1)⟩, ⟨some 32, none, .len false (.t 31)⟩, ⟨some 33, none, .bin .lss (.t 30) (.t 32)⟩] none)
 (.cond (.t 33) .skip (.exit 2)))
 (.seq (.block 3 (.seq (.reg [⟨some 36, none, .mov (.t 1)⟩, ⟨some 37, none, .mov (.t 7)⟩, ⟨some 38, none, .iaddr 3 (.t 36) (.t 37)⟩, ⟨some 39, none, .faddr 2 (.t 38)⟩, ⟨some 40, none, .load none (.t 39)⟩] none)
 (.cond (.t 40) (.reg [⟨some 42, none, .mov (.t 0)⟩, ⟨some 43, none, .mov (.t 1)⟩, ⟨some 44, none, .mov (.t 7)⟩, ⟨some 45, none, .iaddr 3 (.t 43) (.t 44)⟩, ⟨some 46, none, .faddr 0 (.t 45)⟩, ⟨some 47, none, .load none (.t 46)⟩, ⟨some 48, none, .call 56 [(.t 42), (.t 47)]⟩, ⟨some 41, none, .mov (.t 48)⟩, ⟨some 49, none, .ext (.t 41) 0⟩, ⟨some 50, none, .ext (.t 41) 1⟩, ⟨some 0, none, .mov (.t 49)⟩] none) (.reg [⟨some 52, none, .mov (.t 0)⟩, ⟨some 53, none, .mov (.t 1)⟩, ⟨some 54, none, .mov (.t 7)⟩, ⟨some 55, none, .iaddr 3 (.t 53) (.t 54)⟩, ⟨some 56, none, .faddr 0 (.t 55)⟩, ⟨some 57, none, .load none (.t 56)⟩, ⟨some 58, none, .mov (.t 1)⟩, ⟨some 59, none, .mov (.t 7)⟩, ⟨some 60, none, .iaddr 3 (.t 58) (.t 59)⟩, ⟨some 61, none, .faddr 1 (.t 60)⟩, ⟨some 62, none, .load none (.t 61)⟩, ⟨some 63, none, .call 57 [(.t 52), (.t 57), (.t 62)]⟩, ⟨some 51, none, .mov (.t 63)⟩, ⟨some 64, none, .ext (.t 51) 0⟩, ⟨some 65, none, .ext (.t 51) 1⟩, ⟨some 0, none, .mov (.t 64)⟩] (some [(5, 10)])))))
 (.reg [⟨some 34, none, .mov (.t 7)⟩, ⟨some 35, none, .bin .add (.t 34) (.c (.int .i64 1))⟩, ⟨some 7, none, .mov (.t 35)⟩] none))))))
 (.seq (.reg [⟨some 66, none, .mov (.t 0)⟩, ⟨some 4, none, .mov (.t 66)⟩, ⟨some 5, none, .mov (.c (.bool true))⟩] none)
 .ret))))
theorem f16 : FnIs Try.prog 16 67 c16 [.tmp 4, .tmp 5] := ⟨_, Try.func16, rfl, by kernel_rfl, rfl⟩
def c17 : AC := (.seq (.reg [⟨some 5, none, .box (.t 0)⟩, ⟨some 8, none, .box (.t 3)⟩, ⟨some 9, none, .box (.t 4)⟩, ⟨some 10, none, .mov (.c (.sl 2 [] (.exact 0)))⟩, ⟨some 11, none, .mov (.c (.int .i64 0))⟩] none)
 (.seq (.seq (.reg [⟨some 17, none, .load none (.t 5)⟩, ⟨some 18, none, .load none (.t 8)⟩, ⟨some 19, none, .call 58 [(.t 17), (.t 18)]⟩, ⟨some 12, none, .mov (.t 19)⟩] none)
 (.seq (.reg [⟨some 20, none, .mov (.t 12)⟩, ⟨some 21, none, .bin .neq (.t 20) (.c (.int .i64 0))⟩] none)
 (.cond (.t 21) (.seq (.reg [⟨some 22, none, .mov (.t 12)⟩, ⟨some 10, none, .mov (.c (.sl 2 [] (.exact 0)))⟩, ⟨some 11, none, .mov (.t 22)⟩] none)
 .ret) .skip)))
 (.seq (.reg [⟨some 13, none, .alloc [.sl 2 [] (.exact 0)]⟩] none)
 (.seq (.seq (.reg [⟨some 23, none, .load none (.t 5)⟩, ⟨some 24, none, .mov (.t 1)⟩, ⟨some 25, none, .mov (.t 2)⟩, ⟨some 26, none, .call 59 [(.t 23), (.t 24), (.t 25)]⟩] none)
 (.block 0 (.rfun (.t 26) [27] (.reg [⟨some 14, none, .mov (.t 27)⟩] none)
 (.block 1 (.seq (.seq (.reg [⟨some 28, none, .load none (.t 9)⟩, ⟨some 29, none, .bin .geq (.t 28) (.c (.int .i64 0))⟩, ⟨some 30, none, .mov (.t 29)⟩, ⟨some 31, some (30, true), .load none (.t 13)⟩, ⟨some 32, some (30, true), .len false (.t 31)⟩, ⟨some 33, some (30, true), .load none (.t 9)⟩, ⟨some 34, some (30, true), .bin .geq (.t 32) (.t 33)⟩, ⟨some 35, none, .pick (.t 30) (.t 34) (.c (.bool false))⟩] none)
 (.cond (.t 35) (.exit 0) .skip))
 (.seq (.reg [⟨some 37, none, .load none (.t 5)⟩, ⟨some 38, none, .nilck (.t 37)⟩, ⟨some 39, none, .faddr 1 (.t 38)⟩, ⟨some 40, none, .load none (.t 39)⟩, ⟨some 41, none, .mov (.t 14)⟩, ⟨some 42, none, .mlook (.sl 3 [] (.exact 0)) false (.t 40) (.t 41)⟩, ⟨some 43, none, .load none (.t 8)⟩, ⟨some 44, none, .call 60 [(.t 42), (.t 43)]⟩, ⟨some 36, none, .mov (.t 44)⟩, ⟨some 45, none, .ext (.t 36) 0⟩, ⟨some 46, none, .ext (.t 36) 1⟩, ⟨some 15, none, .mov (.t 45)⟩, ⟨some 16, none, .mov (.t 46)⟩] (some [(0, 6), (3, 6), (5, 6)]))
 (.seq (.reg [⟨some 47, none, .mov (.t 16)⟩] none)
 (.cond (.t 47) (.reg [⟨some 48, none, .load none (.t 13)⟩, ⟨some 49, none, .mov (.t 14)⟩, ⟨some 50, none, .mov (.t 15)⟩, ⟨some 51, none, .build [.str [], .str []] [(0, 1, (.t 49)), (1, 1, (.t 50))]⟩, ⟨some 52, none, .buildSl 2 [(.t 51)]⟩, ⟨some 53, none, .app false 2 32 (.t 48) (.t 52)⟩, ⟨none, none, .store 1 (.t 13) (.t 53)⟩] none) .skip))))))))
 (.seq (.reg [⟨some 54, none, .load none (.t 13)⟩, ⟨some 10, none, .mov (.t 54)⟩, ⟨some 11, none, .mov (.c (.int .i64 0))⟩] none)
 .ret)))))
theorem f17 : FnIs Try.prog 17 55 c17 [.tmp 10, .tmp 11] := ⟨_, Try.func17, rfl, by kernel_rfl, rfl⟩
def c18 : AC := (.seq (.reg [⟨some 4, none, .mov (.c (.bool false))⟩] none)
 (.seq (.seq (.reg [⟨some 6, none, .mov (.t 0)⟩, ⟨some 7, none, .len false (.t 6)⟩, ⟨some 8, none, .mov (.t 1)⟩, ⟨some 9, none, .len false (.t 8)⟩, ⟨some 10, none, .bin .neq (.t 7) (.t 9)⟩] none)
 (.cond (.t 10) (.seq (.reg [⟨some 4, none, .mov (.c (.bool false))⟩] none)
 .ret) .skip))
 (.seq (.seq (.reg [⟨some 5, none, .mov (.c (.int .i64 0))⟩] none)
 (.block 0 (.loop (.seq (.seq (.reg [⟨some 11, none, .mov (.t 5)⟩, ⟨some 12, none, .mov (.t 0)⟩, ⟨some 13, none, .len false (.t 12)⟩, ⟨some 14, none, .bin .lss (.t 11) (.t 13)⟩] none)
 (.cond (.t 14) .skip (.exit 0)))
 (.seq (.block 1 (.seq (.reg [⟨some 17, none, .mov (.t 0)⟩, ⟨some 18, none, .mov (.t 5)⟩, ⟨some 19, none, .iaddr 2 (.t 17) (.t 18)⟩, ⟨some 20, none, .load (some 2) (.t 19)⟩, ⟨some 21, none, .mov (.t 1)⟩, ⟨some 22, none, .mov (.t 5)⟩, ⟨some 23, none, .iaddr 2 (.t 21) (.t 22)⟩, ⟨some 24, none, .load (some 2) (.t 23)⟩, ⟨some 25, none, .eqA true [.str, .str] (.t 20) (.t 24)⟩] (some [(3, 7)]))
 (.cond (.t 25) (.seq (.reg [⟨some 4, none, .mov (.c (.bool false))⟩] none)
 .ret) .skip)))
 (.reg [⟨some 15, none, .mov (.t 5)⟩, ⟨some 16, none, .bin .add (.t 15) (.c (.int .i64 1))⟩, ⟨some 5, none, .mov (.t 16)⟩] none))))))
 (.seq (.reg [⟨some 4, none, .mov (.c (.bool true))⟩] none)
 .ret))))
theorem f18 : FnIs Try.prog 18 26 c18 [.tmp 4] := ⟨_, Try.func18, rfl, by kernel_rfl, rfl⟩
def c19 : AC := (.seq (.reg [⟨some 2, none, .mov (.c (.int .i64 0))⟩] none)
 (.seq (.seq (.reg [⟨some 3, none, .mov (.t 0)⟩, ⟨some 4, none, .call 52 [(.t 3)]⟩, ⟨some 5, none, .un .not (.t 4)⟩] none)
 (.cond (.t 5) (.seq (.reg [⟨some 2, none, .mov (.c (.int .i64 0))⟩] none)
 .ret) .skip))
 (.seq (.reg [⟨some 6, none, .mov (.t 0)⟩, ⟨some 7, none, .nilck (.t 6)⟩, ⟨some 8, none, .faddr 2 (.t 7)⟩, ⟨some 9, none, .load none (.t 8)⟩, ⟨some 2, none, .mov (.t 9)⟩] none)
 .ret)))
theorem f19 : FnIs Try.prog 19 10 c19 [.tmp 2] := ⟨_, Try.func19, rfl, by kernel_rfl, rfl⟩
def c20 : AC := (.seq (.reg [⟨some 6, none, .mov (.c (.str []))⟩, ⟨some 7, none, .mov (.c (.int .i64 0))⟩] none)
 (.seq (.seq (.reg [⟨some 11, none, .mov (.t 0)⟩, ⟨some 12, none, .mov (.t 2)⟩, ⟨some 13, none, .call 58 [(.t 11), (.t 12)]⟩, ⟨some 8, none, .mov (.t 13)⟩] none)
 (.seq (.reg [⟨some 14, none, .mov (.t 8)⟩, ⟨some 15, none, .bin .neq (.t 14) (.c (.int .i64 0))⟩] none)
 (.cond (.t 15) (.seq (.reg [⟨some 16, none, .mov (.t 8)⟩, ⟨some 6, none, .mov (.c (.str []))⟩, ⟨some 7, none, .mov (.t 16)⟩] none)
 .ret) .skip)))
 (.seq (.reg [⟨some 18, none, .mov (.t 0)⟩, ⟨some 19, none, .nilck (.t 18)⟩, ⟨some 20, none, .faddr 1 (.t 19)⟩, ⟨some 21, none, .load none (.t 20)⟩, ⟨some 22, none, .mov (.t 1)⟩, ⟨some 23, none, .mlook (.sl 3 [] (.exact 0)) false (.t 21) (.t 22)⟩, ⟨some 24, none, .mov (.t 2)⟩, ⟨some 25, none, .call 60 [(.t 23), (.t 24)]⟩, ⟨some 17, none, .mov (.t 25)⟩, ⟨some 26, none, .ext (.t 17) 0⟩, ⟨some 27, none, .ext (.t 17) 1⟩, ⟨some 9, none, .mov (.t 26)⟩, ⟨some 10, none, .mov (.t 27)⟩] none)
 (.seq (.seq (.reg [⟨some 28, none, .mov (.t 10)⟩, ⟨some 29, none, .un .not (.t 28)⟩] none)
 (.cond (.t 29) (.seq (.reg [⟨some 6, none, .mov (.c (.str []))⟩, ⟨some 7, none, .mov (.c (.int .i64 7))⟩] none)
 .ret) .skip))
 (.seq (.reg [⟨some 30, none, .mov (.t 9)⟩, ⟨some 6, none, .mov (.t 30)⟩, ⟨some 7, none, .mov (.c (.int .i64 0))⟩] none)
 .ret)))))
theorem f20 : FnIs Try.prog 20 31 c20 [.tmp 6, .tmp 7] := ⟨_, Try.func20, rfl, by kernel_rfl, rfl⟩
def c21 : AC := (.seq (.reg [⟨some 4, none, .mov (.c (.int .i64 0))⟩] none)
 (.seq (.block 0 (.seq (.reg [⟨some 8, none, .mov (.t 0)⟩, ⟨some 9, none, .call 52 [(.t 8)]⟩, ⟨some 10, none, .un .not (.t 9)⟩, ⟨some 7, none, .mov (.t 10)⟩] none)
 (.cond (.t 7) (.seq (.reg [⟨some 4, none, .mov (.c (.int .i64 1))⟩] none)
 .ret) (.seq (.reg [⟨some 12, none, .mov (.t 1)⟩, ⟨some 13, none, .mov (.t 0)⟩, ⟨some 14, none, .nilck (.t 13)⟩, ⟨some 15, none, .faddr 3 (.t 14)⟩, ⟨some 16, none, .load none (.t 15)⟩, ⟨some 17, none, .bin .lss (.t 12) (.t 16)⟩, ⟨some 18, none, .mov (.t 17)⟩, ⟨some 19, some (18, false), .mov (.t 1)⟩, ⟨some 20, some (18, false), .mov (.t 0)⟩, ⟨some 21, some (18, false), .nilck (.t 20)⟩, ⟨some 22, some (18, false), .faddr 2 (.t 21)⟩, ⟨some 23, some (18, false), .load none (.t 22)⟩, ⟨some 24, some (18, false), .bin .gtr (.t 19) (.t 23)⟩, ⟨some 25, none, .pick (.t 18) (.c (.bool true)) (.t 24)⟩, ⟨some 11, none, .mov (.t 25)⟩] none)
 (.cond (.t 11) (.seq (.reg [⟨some 4, none, .mov (.c (.int .i64 2))⟩] none)
 .ret) .skip)))))
 (.seq (.seq (.reg [⟨some 26, none, .mov (.t 0)⟩, ⟨some 27, none, .nilck (.t 26)⟩, ⟨some 28, none, .faddr 0 (.t 27)⟩, ⟨some 29, none, .load none (.t 28)⟩, ⟨some 30, none, .call 61 [(.t 29)]⟩, ⟨some 31, none, .len false (.t 30)⟩, ⟨some 32, none, .mov (.c (.int .i64 0))⟩] none)
 (.block 1 (.loop (.seq (.reg [⟨some 33, none, .bin .lss (.t 32) (.t 31)⟩] none)
 (.seq (.cond (.t 33) .skip (.exit 1))
 (.seq (.block 2 (.seq (.reg [⟨some 34, none, .iaddr 1 (.t 30) (.t 32)⟩, ⟨some 35, none, .load none (.t 34)⟩, ⟨some 6, none, .mov (.t 35)⟩] none)
 (.reg [⟨some 36, none, .mov (.t 0)⟩, ⟨some 37, none, .mov (.t 6)⟩, ⟨some 38, none, .mov (.t 0)⟩, ⟨some 39, none, .nilck (.t 38)⟩, ⟨some 40, none, .faddr 1 (.t 39)⟩, ⟨some 41, none, .load none (.t 40)⟩, ⟨some 42, none, .mov (.t 6)⟩, ⟨some 43, none, .mlook (.sl 3 [] (.exact 0)) false (.t 41) (.t 42)⟩, ⟨some 44, none, .mov (.t 1)⟩, ⟨some 45, none, .call 62 [(.t 43), (.t 44)]⟩, ⟨some 46, none, .call 55 [(.t 36), (.t 37), (.t 45)]⟩] none)))
 (.reg [⟨some 47, none, .bin .add (.t 32) (.c (.int .i64 1))⟩, ⟨some 32, none, .mov (.t 47)⟩] none)))))))
 (.seq (.reg [⟨some 48, none, .mov (.t 0)⟩, ⟨some 49, none, .mov (.t 1)⟩, ⟨some 50, none, .nilck (.t 48)⟩, ⟨some 51, none, .faddr 3 (.t 50)⟩, ⟨none, none, .store 1 (.t 51) (.t 49)⟩] none)
 (.seq (.reg [⟨some 4, none, .mov (.c (.int .i64 0))⟩] none)
 .ret)))))
theorem f21 : FnIs Try.prog 21 52 c21 [.tmp 4] := ⟨_, Try.func21, rfl, by kernel_rfl, rfl⟩
def c22 : AC := (.seq (.reg [⟨some 4, none, .box (.t 0)⟩, ⟨some 7, none, .box (.t 3)⟩, ⟨some 8, none, .alloc [.bool false]⟩] none)
 (.seq (.seq (.reg [⟨some 10, none, .load none (.t 4)⟩, ⟨some 11, none, .call 52 [(.t 10)]⟩, ⟨some 12, none, .un .not (.t 11)⟩] none)
 (.cond (.t 12) (.seq (.reg [⟨none, none, .store 1 (.t 8) (.c (.bool false))⟩] none)
 .ret) .skip))
 (.seq (.seq (.reg [⟨some 13, none, .load none (.t 4)⟩, ⟨some 14, none, .mov (.t 1)⟩, ⟨some 15, none, .mov (.t 2)⟩, ⟨some 16, none, .call 59 [(.t 13), (.t 14), (.t 15)]⟩] none)
 (.block 0 (.rfun (.t 16) [17] (.reg [⟨some 9, none, .mov (.t 17)⟩] none)
 (.block 1 (.seq (.reg [⟨some 18, none, .load none (.t 4)⟩, ⟨some 19, none, .nilck (.t 18)⟩, ⟨some 20, none, .faddr 1 (.t 19)⟩, ⟨some 21, none, .load none (.t 20)⟩, ⟨some 22, none, .mov (.t 9)⟩, ⟨some 23, none, .mlook (.sl 3 [] (.exact 0)) false (.t 21) (.t 22)⟩, ⟨some 24, none, .load none (.t 7)⟩, ⟨some 25, none, .call 63 [(.t 23), (.t 24)]⟩] (some [(0, 6), (3, 6), (5, 6)]))
 (.cond (.t 25) (.seq (.reg [⟨none, none, .store 1 (.t 8) (.c (.bool true))⟩] none)
 .ret) .skip))))))
 (.seq (.reg [⟨none, none, .store 1 (.t 8) (.c (.bool false))⟩] none)
 .ret))))
theorem f22 : FnIs Try.prog 22 26 c22 [.cell 8 none] := ⟨_, Try.func22, rfl, by kernel_rfl, rfl⟩
def c23 : AC := (.seq (.reg [⟨some 2, none, .mov (.c (.int .i64 0))⟩] none)
 (.seq (.seq (.reg [⟨some 3, none, .mov (.t 0)⟩, ⟨some 4, none, .call 52 [(.t 3)]⟩, ⟨some 5, none, .un .not (.t 4)⟩] none)
 (.cond (.t 5) (.seq (.reg [⟨some 2, none, .mov (.c (.int .i64 0))⟩] none)
 .ret) .skip))
 (.seq (.reg [⟨some 6, none, .mov (.t 0)⟩, ⟨some 7, none, .nilck (.t 6)⟩, ⟨some 8, none, .faddr 3 (.t 7)⟩, ⟨some 9, none, .load none (.t 8)⟩, ⟨some 2, none, .mov (.t 9)⟩] none)
 .ret)))
theorem f23 : FnIs Try.prog 23 10 c23 [.tmp 2] := ⟨_, Try.func23, rfl, by kernel_rfl, rfl⟩
def c24 : AC := (.seq (.reg [⟨some 2, none, .mov (.c (.sl 2 [] (.exact 0)))⟩] none)
 (.seq (.seq (.reg [⟨some 6, none, .mov (.t 0)⟩, ⟨some 7, none, .call 52 [(.t 6)]⟩, ⟨some 8, none, .un .not (.t 7)⟩] none)
 (.cond (.t 8) (.seq (.reg [⟨some 2, none, .mov (.c (.sl 2 [] (.exact 0)))⟩] none)
 .ret) .skip))
 (.seq (.reg [⟨some 3, none, .mov (.c (.sl 2 [] (.exact 0)))⟩] none)
 (.seq (.seq (.reg [⟨some 9, none, .mov (.t 0)⟩, ⟨some 10, none, .nilck (.t 9)⟩, ⟨some 11, none, .faddr 0 (.t 10)⟩, ⟨some 12, none, .load none (.t 11)⟩, ⟨some 13, none, .len false (.t 12)⟩, ⟨some 14, none, .mov (.c (.int .i64 0))⟩] none)
 (.block 0 (.loop (.seq (.reg [⟨some 15, none, .bin .lss (.t 14) (.t 13)⟩] none)
 (.seq (.cond (.t 15) .skip (.exit 0))
 (.seq (.block 1 (.seq (.reg [⟨some 16, none, .iaddr 1 (.t 12) (.t 14)⟩, ⟨some 17, none, .load none (.t 16)⟩, ⟨some 5, none, .mov (.t 17)⟩] none)
 (.reg [⟨some 18, none, .mov (.t 3)⟩, ⟨some 19, none, .mov (.t 5)⟩, ⟨some 20, none, .mov (.t 0)⟩, ⟨some 21, none, .nilck (.t 20)⟩, ⟨some 22, none, .faddr 1 (.t 21)⟩, ⟨some 23, none, .load none (.t 22)⟩, ⟨some 24, none, .mov (.t 5)⟩, ⟨some 25, none, .mlook (.sl 3 [] (.exact 0)) false (.t 23) (.t 24)⟩, ⟨some 26, none, .call 64 [(.t 25)]⟩, ⟨some 27, none, .build [.str [], .sl 3 [] (.exact 0)] [(0, 1, (.t 19)), (1, 1, (.t 26))]⟩, ⟨some 28, none, .buildSl 2 [(.t 27)]⟩, ⟨some 29, none, .app false 2 40 (.t 18) (.t 28)⟩, ⟨some 3, none, .mov (.t 29)⟩] none)))
 (.reg [⟨some 30, none, .bin .add (.t 14) (.c (.int .i64 1))⟩, ⟨some 14, none, .mov (.t 30)⟩] none)))))))
 (.seq (.reg [⟨some 31, none, .mov (.t 3)⟩, ⟨some 2, none, .mov (.t 31)⟩] none)
 .ret)))))
theorem f24 : FnIs Try.prog 24 32 c24 [.tmp 2] := ⟨_, Try.func24, rfl, by kernel_rfl, rfl⟩
def c25 : AC := (.seq (.reg [⟨some 2, none, .mov (.c (.sc (.pointer none)))⟩] none)
 (.seq (.seq (.reg [⟨some 6, none, .mov (.t 0)⟩, ⟨some 7, none, .call 52 [(.t 6)]⟩, ⟨some 8, none, .un .not (.t 7)⟩] none)
 (.cond (.t 8) (.seq (.reg [⟨some 2, none, .mov (.c (.sc (.pointer none)))⟩] none)
 .ret) .skip))
 (.seq (.reg [⟨some 9, none, .call 13 []⟩, ⟨some 3, none, .mov (.t 9)⟩] none)
 (.seq (.reg [⟨some 10, none, .mov (.t 3)⟩, ⟨some 11, none, .mov (.t 3)⟩, ⟨some 12, none, .mov (.t 0)⟩, ⟨some 13, none, .nilck (.t 12)⟩, ⟨some 14, none, .faddr 2 (.t 13)⟩, ⟨some 15, none, .load none (.t 14)⟩, ⟨some 16, none, .mov (.t 0)⟩, ⟨some 17, none, .nilck (.t 16)⟩, ⟨some 18, none, .faddr 3 (.t 17)⟩, ⟨some 19, none, .load none (.t 18)⟩, ⟨some 20, none, .nilck (.t 10)⟩, ⟨some 21, none, .faddr 2 (.t 20)⟩, ⟨none, none, .store 1 (.t 21) (.t 15)⟩, ⟨some 22, none, .nilck (.t 11)⟩, ⟨some 23, none, .faddr 3 (.t 22)⟩, ⟨none, none, .store 1 (.t 23) (.t 19)⟩] (some [(5, 9)]))
 (.seq (.seq (.reg [⟨some 24, none, .mov (.t 0)⟩, ⟨some 25, none, .call 24 [(.t 24)]⟩, ⟨some 26, none, .len false (.t 25)⟩, ⟨some 27, none, .mov (.c (.int .i64 0))⟩] none)
 (.block 0 (.loop (.seq (.reg [⟨some 28, none, .bin .lss (.t 27) (.t 26)⟩] none)
 (.seq (.cond (.t 28) .skip (.exit 0))
 (.seq (.block 1 (.seq (.reg [⟨some 29, none, .iaddr 2 (.t 25) (.t 27)⟩, ⟨some 30, none, .load (some 2) (.t 29)⟩, ⟨some 5, none, .alloc [.str [], .sl 3 [] (.exact 0)]⟩, ⟨none, none, .store 2 (.t 5) (.t 30)⟩] none)
 (.reg [⟨some 31, none, .mov (.t 3)⟩, ⟨some 32, none, .faddr 0 (.t 5)⟩, ⟨some 33, none, .load none (.t 32)⟩, ⟨some 34, none, .faddr 1 (.t 5)⟩, ⟨some 35, none, .load none (.t 34)⟩, ⟨some 36, none, .call 55 [(.t 31), (.t 33), (.t 35)]⟩] none)))
 (.reg [⟨some 37, none, .bin .add (.t 27) (.c (.int .i64 1))⟩, ⟨some 27, none, .mov (.t 37)⟩] none)))))))
 (.seq (.reg [⟨some 38, none, .mov (.t 3)⟩, ⟨some 2, none, .mov (.t 38)⟩] none)
 .ret))))))
theorem f25 : FnIs Try.prog 25 39 c25 [.tmp 2] := ⟨_, Try.func25, rfl, by kernel_rfl, rfl⟩
def c26 : AC := (.seq (.reg [⟨some 6, none, .mov (.c (.sc (.pointer none)))⟩, ⟨some 7, none, .mov (.c (.int .i64 0))⟩] none)
 (.seq (.seq (.reg [⟨some 12, none, .mov (.t 1)⟩, ⟨some 13, none, .bin .lss (.t 12) (.c (.int .i64 0))⟩, ⟨some 14, none, .mov (.t 13)⟩, ⟨some 15, some (14, false), .mov (.t 1)⟩, ⟨some 16, some (14, false), .bin .gtr (.t 15) (.c (.int .i64 1152921504606846976))⟩, ⟨some 17, none, .pick (.t 14) (.c (.bool true)) (.t 16)⟩, ⟨some 18, none, .mov (.t 17)⟩, ⟨some 19, some (18, false), .mov (.t 2)⟩, ⟨some 20, some (18, false), .bin .lss (.t 19) (.c (.int .i64 0))⟩, ⟨some 21, none, .pick (.t 18) (.c (.bool true)) (.t 20)⟩, ⟨some 22, none, .mov (.t 21)⟩, ⟨some 23, some (22, false), .mov (.t 2)⟩, ⟨some 24, some (22, false), .mov (.t 1)⟩, ⟨some 25, some (22, false), .bin .gtr (.t 23) (.t 24)⟩, ⟨some 26, none, .pick (.t 22) (.c (.bool true)) (.t 25)⟩] none)
 (.cond (.t 26) (.seq (.reg [⟨some 6, none, .mov (.c (.sc (.pointer none)))⟩, ⟨some 7, none, .mov (.c (.int .i64 4))⟩] none)
 .ret) .skip))
 (.seq (.reg [⟨some 27, none, .call 13 []⟩, ⟨some 8, none, .mov (.t 27)⟩] none)
 (.seq (.reg [⟨some 28, none, .mov (.t 8)⟩, ⟨some 29, none, .mov (.t 8)⟩, ⟨some 30, none, .mov (.t 1)⟩, ⟨some 31, none, .mov (.t 2)⟩, ⟨some 32, none, .nilck (.t 28)⟩, ⟨some 33, none, .faddr 2 (.t 32)⟩, ⟨none, none, .store 1 (.t 33) (.t 30)⟩, ⟨some 34, none, .nilck (.t 29)⟩, ⟨some 35, none, .faddr 3 (.t 34)⟩, ⟨none, none, .store 1 (.t 35) (.t 31)⟩] none)
 (.seq (.reg [⟨some 9, none, .mov (.c (.str []))⟩] none)
 (.seq (.seq (.reg [⟨some 36, none, .mov (.t 0)⟩, ⟨some 37, none, .len false (.t 36)⟩, ⟨some 38, none, .mov (.c (.int .i64 0))⟩] none)
 (.block 0 (.loop (.seq (.reg [⟨some 39, none, .bin .lss (.t 38) (.t 37)⟩] none)
 (.seq (.cond (.t 39) .skip (.exit 0))
 (.seq (.block 1 (.seq (.reg [⟨some 40, none, .mov (.t 38)⟩, ⟨some 41, none, .iaddr 2 (.t 36) (.t 38)⟩, ⟨some 42, none, .load (some 2) (.t 41)⟩, ⟨some 11, none, .alloc [.str [], .sl 3 [] (.exact 0)]⟩, ⟨some 10, none, .mov (.t 40)⟩, ⟨none, none, .store 2 (.t 11) (.t 42)⟩] none)
 (.seq (.seq (.reg [⟨some 43, none, .load (some 2) (.t 11)⟩, ⟨some 44, none, .mov (.t 9)⟩, ⟨some 45, none, .mov (.t 10)⟩, ⟨some 46, none, .bin .eql (.t 45) (.c (.int .i64 0))⟩, ⟨some 47, none, .mov (.t 1)⟩, ⟨some 48, none, .call 65 [(.t 43), (.t 44), (.t 46), (.t 47)]⟩, ⟨some 49, none, .un .not (.t 48)⟩] none)
 (.cond (.t 49) (.seq (.reg [⟨some 6, none, .mov (.c (.sc (.pointer none)))⟩, ⟨some 7, none, .mov (.c (.int .i64 4))⟩] none)
 .ret) .skip))
 (.seq (.reg [⟨some 50, none, .mov (.t 8)⟩, ⟨some 51, none, .faddr 0 (.t 11)⟩, ⟨some 52, none, .load none (.t 51)⟩, ⟨some 53, none, .faddr 1 (.t 11)⟩, ⟨some 54, none, .load none (.t 53)⟩, ⟨some 55, none, .call 64 [(.t 54)]⟩, ⟨some 56, none, .call 55 [(.t 50), (.t 52), (.t 55)]⟩] (some [(2, 4), (2, 5)]))
 (.reg [⟨some 57, none, .faddr 0 (.t 11)⟩, ⟨some 58, none, .load none (.t 57)⟩, ⟨some 9, none, .mov (.t 58)⟩] none)))))
 (.reg [⟨some 59, none, .bin .add (.t 38) (.c (.int .i64 1))⟩, ⟨some 38, none, .mov (.t 59)⟩] none)))))))
 (.seq (.reg [⟨some 60, none, .mov (.t 8)⟩, ⟨some 6, none, .mov (.t 60)⟩, ⟨some 7, none, .mov (.c (.int .i64 0))⟩] none)
 .ret)))))))
theorem f26 : FnIs Try.prog 26 61 c26 [.tmp 6, .tmp 7] := ⟨_, Try.func26, rfl, by kernel_rfl, rfl⟩
def c27 : AC := (.seq (.reg [⟨some 6, none, .alloc [.sl 2 [] (.exact 0), .int .i64 0, .int .i64 0]⟩, ⟨some 7, none, .mov (.c (.int .i64 0))⟩] none)
 (.seq (.seq (.reg [⟨some 10, none, .mov (.t 1)⟩, ⟨some 11, none, .bin .lss (.t 10) (.c (.int .i64 0))⟩, ⟨some 12, none, .mov (.t 11)⟩, ⟨some 13, some (12, false), .mov (.t 1)⟩, ⟨some 14, some (12, false), .bin .gtr (.t 13) (.c (.int .i64 1152921504606846976))⟩, ⟨some 15, none, .pick (.t 12) (.c (.bool true)) (.t 14)⟩, ⟨some 16, none, .mov (.t 15)⟩, ⟨some 17, some (16, false), .mov (.t 2)⟩, ⟨some 18, some (16, false), .bin .lss (.t 17) (.c (.int .i64 0))⟩, ⟨some 19, none, .pick (.t 16) (.c (.bool true)) (.t 18)⟩, ⟨some 20, none, .mov (.t 19)⟩, ⟨some 21, some (20, false), .mov (.t 2)⟩, ⟨some 22, some (20, false), .mov (.t 1)⟩, ⟨some 23, some (20, false), .bin .gtr (.t 21) (.t 22)⟩, ⟨some 24, none, .pick (.t 20) (.c (.bool true)) (.t 23)⟩] none)
 (.cond (.t 24) (.seq (.reg [⟨some 25, none, .build [.sl 2 [] (.exact 0), .int .i64 0, .int .i64 0] []⟩, ⟨none, none, .store 3 (.t 6) (.t 25)⟩, ⟨some 7, none, .mov (.c (.int .i64 4))⟩] none)
 .ret) .skip))
 (.seq (.seq (.reg [⟨some 8, none, .mov (.c (.int .i64 0))⟩] none)
 (.block 0 (.loop (.seq (.seq (.reg [⟨some 26, none, .mov (.t 8)⟩, ⟨some 27, none, .mov (.t 0)⟩, ⟨some 28, none, .len false (.t 27)⟩, ⟨some 29, none, .bin .lss (.t 26) (.t 28)⟩] none)
 (.cond (.t 29) .skip (.exit 0)))
 (.seq (.block 1 (.seq (.reg [⟨some 32, none, .mov (.t 0)⟩, ⟨some 33, none, .mov (.t 8)⟩, ⟨some 34, none, .iaddr 2 (.t 32) (.t 33)⟩, ⟨some 35, none, .faddr 1 (.t 34)⟩, ⟨some 36, none, .load none (.t 35)⟩, ⟨some 9, none, .mov (.t 36)⟩] none)
 (.seq (.reg [⟨some 37, none, .mov (.t 0)⟩, ⟨some 38, none, .mov (.t 8)⟩, ⟨some 39, none, .iaddr 2 (.t 37) (.t 38)⟩, ⟨some 40, none, .faddr 0 (.t 39)⟩, ⟨some 41, none, .load none (.t 40)⟩, ⟨some 42, none, .len true (.t 41)⟩, ⟨some 43, none, .bin .gtr (.t 42) (.c (.int .i64 128))⟩, ⟨some 44, none, .mov (.t 43)⟩, ⟨some 45, some (44, false), .mov (.t 8)⟩, ⟨some 46, some (44, false), .bin .gtr (.t 45) (.c (.int .i64 0))⟩, ⟨some 47, some (44, false), .mov (.t 46)⟩, ⟨some 48, some (47, true), .mov (.t 0)⟩, ⟨some 49, some (47, true), .mov (.t 8)⟩, ⟨some 50, some (47, true), .bin .sub (.t 49) (.c (.int .i64 1))⟩, ⟨some 51, some (47, true), .iaddr 2 (.t 48) (.t 50)⟩, ⟨some 52, some (47, true), .faddr 0 (.t 51)⟩, ⟨some 53, some (47, true), .load none (.t 52)⟩, ⟨some 54, some (47, true), .mov (.t 0)⟩, ⟨some 55, some (47, true), .mov (.t 8)⟩, ⟨some 56, some (47, true), .iaddr 2 (.t 54) (.t 55)⟩, ⟨some 57, some (47, true), .faddr 0 (.t 56)⟩, ⟨some 58, some (47, true), .load none (.t 57)⟩, ⟨some 59, some (47, true), .call 66 [(.t 53), (.t 58)]⟩, ⟨some 60, some (47, true), .un .not (.t 59)⟩, ⟨some 61, some (44, false), .pick (.t 47) (.t 60) (.c (.bool false))⟩, ⟨some 62, none, .pick (.t 44) (.c (.bool true)) (.t 61)⟩, ⟨some 63, none, .mov (.t 62)⟩, ⟨some 64, some (63, false), .mov (.t 9)⟩, ⟨some 65, some (63, false), .len false (.t 64)⟩, ⟨some 66, some (63, false), .bin .eql (.t 65) (.c (.int .i64 0))⟩, ⟨some 67, none, .pick (.t 63) (.c (.bool true)) (.t 66)⟩, ⟨some 68, none, .mov (.t 67)⟩, ⟨some 69, some (68, false), .mov (.t 9)⟩, ⟨some 70, some (68, false), .call 67 [(.t 69)]⟩, ⟨some 71, some (68, false), .un .not (.t 70)⟩, ⟨some 72, none, .pick (.t 68) (.c (.bool true)) (.t 71)⟩, ⟨some 73, none, .mov (.t 72)⟩, ⟨some 74, some (73, false), .mov (.t 9)⟩, ⟨some 75, some (73, false), .iaddr 3 (.t 74) (.c (.int .i64 0))⟩, ⟨some 76, some (73, false), .faddr 0 (.t 75)⟩, ⟨some 77, some (73, false), .load none (.t 76)⟩, ⟨some 78, some (73, false), .mov (.t 1)⟩, ⟨some 79, some (73, false), .bin .gtr (.t 77) (.t 78)⟩, ⟨some 80, none, .pick (.t 73) (.c (.bool true)) (.t 79)⟩] (some [(16, 21)]))
 (.cond (.t 80) (.seq (.reg [⟨some 81, none, .build [.sl 2 [] (.exact 0), .int .i64 0, .int .i64 0] []⟩, ⟨none, none, .store 3 (.t 6) (.t 81)⟩, ⟨some 7, none, .mov (.c (.int .i64 4))⟩] none)
 .ret) .skip))))
 (.reg [⟨some 30, none, .mov (.t 8)⟩, ⟨some 31, none, .bin .add (.t 30) (.c (.int .i64 1))⟩, ⟨some 8, none, .mov (.t 31)⟩] none))))))
 (.seq (.reg [⟨some 82, none, .mov (.t 0)⟩, ⟨some 83, none, .mov (.t 1)⟩, ⟨some 84, none, .mov (.t 2)⟩, ⟨some 85, none, .build [.sl 2 [] (.exact 0), .int .i64 0, .int .i64 0] [(0, 1, (.t 82)), (1, 1, (.t 83)), (2, 1, (.t 84))]⟩, ⟨none, none, .store 3 (.t 6) (.t 85)⟩, ⟨some 7, none, .mov (.c (.int .i64 0))⟩] none)
 .ret))))
theorem f27 : FnIs Try.prog 27 86 c27 [.cell 6 (some 3), .tmp 7] := ⟨_, Try.func27, rfl, by kernel_rfl, rfl⟩
def c28 : AC := (.seq (.reg [⟨some 3, none, .box (.t 1)⟩, ⟨some 4, none, .mov (.c (.bool false))⟩] none)
 (.seq (.reg [⟨some 5, none, .mov (.t 0)⟩, ⟨some 6, none, .eqP true (.t 5) (.c (.sc (.pointer none)))⟩, ⟨some 7, none, .mov (.t 6)⟩, ⟨some 8, some (7, true), .mov (.t 0)⟩, ⟨some 9, some (7, true), .call 24 [(.t 8)]⟩, ⟨some 10, some (7, true), .faddr 0 (.t 3)⟩, ⟨some 11, some (7, true), .load none (.t 10)⟩, ⟨some 12, some (7, true), .call 68 [(.t 9), (.t 11)]⟩, ⟨some 13, none, .pick (.t 7) (.t 12) (.c (.bool false))⟩, ⟨some 14, none, .mov (.t 13)⟩, ⟨some 15, some (14, true), .mov (.t 0)⟩, ⟨some 16, some (14, true), .call 19 [(.t 15)]⟩, ⟨some 17, some (14, true), .faddr 1 (.t 3)⟩, ⟨some 18, some (14, true), .load none (.t 17)⟩, ⟨some 19, some (14, true), .bin .eql (.t 16) (.t 18)⟩, ⟨some 20, none, .pick (.t 14) (.t 19) (.c (.bool false))⟩, ⟨some 21, none, .mov (.t 20)⟩, ⟨some 22, some (21, true), .mov (.t 0)⟩, ⟨some 23, some (21, true), .call 23 [(.t 22)]⟩, ⟨some 24, some (21, true), .faddr 2 (.t 3)⟩, ⟨some 25, some (21, true), .load none (.t 24)⟩, ⟨some 26, some (21, true), .bin .eql (.t 23) (.t 25)⟩, ⟨some 27, none, .pick (.t 21) (.t 26) (.c (.bool false))⟩, ⟨some 4, none, .mov (.t 27)⟩] (some [(4, 6), (11, 13), (18, 20)]))
 .ret))
theorem f28 : FnIs Try.prog 28 28 c28 [.tmp 4] := ⟨_, Try.func28, rfl, by kernel_rfl, rfl⟩
def c29 : AC := (.seq (.reg [⟨some 8, none, .box (.t 1)⟩, ⟨some 14, none, .mov (.c (.bool false))⟩] none)
 (.seq (.reg [⟨some 24, none, .mov (.t 0)⟩, ⟨some 25, none, .mov (.t 2)⟩, ⟨some 26, none, .mov (.t 5)⟩, ⟨some 27, none, .call 20 [(.t 24), (.t 25), (.t 26)]⟩, ⟨some 23, none, .mov (.t 27)⟩, ⟨some 28, none, .ext (.t 23) 0⟩, ⟨some 29, none, .ext (.t 23) 1⟩, ⟨some 15, none, .mov (.t 28)⟩, ⟨some 16, none, .mov (.t 29)⟩] none)
 (.seq (.reg [⟨some 31, none, .load (some 3) (.t 8)⟩, ⟨some 32, none, .mov (.t 2)⟩, ⟨some 33, none, .mov (.t 5)⟩, ⟨some 34, none, .call 69 [(.t 31), (.t 32), (.t 33)]⟩, ⟨some 30, none, .mov (.t 34)⟩, ⟨some 35, none, .ext (.t 30) 0⟩, ⟨some 36, none, .ext (.t 30) 1⟩, ⟨some 17, none, .mov (.t 35)⟩, ⟨some 18, none, .mov (.t 36)⟩] none)
 (.seq (.reg [⟨some 38, none, .mov (.t 0)⟩, ⟨some 39, none, .mov (.t 3)⟩, ⟨some 40, none, .mov (.t 4)⟩, ⟨some 41, none, .mov (.t 5)⟩, ⟨some 42, none, .mov (.t 6)⟩, ⟨some 43, none, .call 17 [(.t 38), (.t 39), (.t 40), (.t 41), (.t 42)]⟩, ⟨some 37, none, .mov (.t 43)⟩, ⟨some 44, none, .ext (.t 37) 0⟩, ⟨some 45, none, .ext (.t 37) 1⟩, ⟨some 19, none, .mov (.t 44)⟩, ⟨some 20, none, .mov (.t 45)⟩] none)
 (.seq (.reg [⟨some 47, none, .load (some 3) (.t 8)⟩, ⟨some 48, none, .mov (.t 3)⟩, ⟨some 49, none, .mov (.t 4)⟩, ⟨some 50, none, .mov (.t 5)⟩, ⟨some 51, none, .mov (.t 6)⟩, ⟨some 52, none, .call 70 [(.t 47), (.t 48), (.t 49), (.t 50), (.t 51)]⟩, ⟨some 46, none, .mov (.t 52)⟩, ⟨some 53, none, .ext (.t 46) 0⟩, ⟨some 54, none, .ext (.t 46) 1⟩, ⟨some 21, none, .mov (.t 53)⟩, ⟨some 22, none, .mov (.t 54)⟩] none)
 (.seq (.reg [⟨some 55, none, .mov (.t 15)⟩, ⟨some 56, none, .mov (.t 17)⟩, ⟨some 57, none, .bin .eql (.t 55) (.t 56)⟩, ⟨some 58, none, .mov (.t 57)⟩, ⟨some 59, some (58, true), .mov (.t 16)⟩, ⟨some 60, some (58, true), .mov (.t 18)⟩, ⟨some 61, some (58, true), .bin .eql (.t 59) (.t 60)⟩, ⟨some 62, none, .pick (.t 58) (.t 61) (.c (.bool false))⟩, ⟨some 63, none, .mov (.t 62)⟩, ⟨some 64, some (63, true), .mov (.t 19)⟩, ⟨some 65, some (63, true), .mov (.t 21)⟩, ⟨some 66, some (63, true), .call 18 [(.t 64), (.t 65)]⟩, ⟨some 67, none, .pick (.t 63) (.t 66) (.c (.bool false))⟩, ⟨some 68, none, .mov (.t 67)⟩, ⟨some 69, some (68, true), .mov (.t 20)⟩, ⟨some 70, some (68, true), .mov (.t 22)⟩, ⟨some 71, some (68, true), .bin .eql (.t 69) (.t 70)⟩, ⟨some 72, none, .pick (.t 68) (.t 71) (.c (.bool false))⟩, ⟨some 73, none, .mov (.t 72)⟩, ⟨some 74, some (73, true), .mov (.t 0)⟩, ⟨some 75, some (73, true), .mov (.t 3)⟩, ⟨some 76, some (73, true), .mov (.t 4)⟩, ⟨some 77, some (73, true), .mov (.t 5)⟩, ⟨some 78, some (73, true), .call 22 [(.t 74), (.t 75), (.t 76), (.t 77)]⟩, ⟨some 79, some (73, true), .load (some 3) (.t 8)⟩, ⟨some 80, some (73, true), .mov (.t 3)⟩, ⟨some 81, some (73, true), .mov (.t 4)⟩, ⟨some 82, some (73, true), .mov (.t 5)⟩, ⟨some 83, some (73, true), .call 71 [(.t 79), (.t 80), (.t 81), (.t 82)]⟩, ⟨some 84, some (73, true), .eqB false (.t 78) (.t 83)⟩, ⟨some 85, none, .pick (.t 73) (.t 84) (.c (.bool false))⟩, ⟨some 14, none, .mov (.t 85)⟩] (some [(23, 24)]))
 .ret))))))
theorem f29 : FnIs Try.prog 29 86 c29 [.tmp 14] := ⟨_, Try.func29, rfl, by kernel_rfl, rfl⟩
def c30 : AC := (.seq (.reg [⟨some 2, none, .mov (.c (.bool false))⟩] none)
 (.seq (.reg [⟨some 3, none, .mov (.c (.int .i64 0))⟩] none)
 (.seq (.seq (.reg [⟨some 4, none, .mov (.c (.int .i64 0))⟩] none)
 (.block 0 (.loop (.seq (.seq (.reg [⟨some 6, none, .mov (.t 4)⟩, ⟨some 7, none, .mov (.t 0)⟩, ⟨some 8, none, .len false (.t 7)⟩, ⟨some 9, none, .bin .lss (.t 6) (.t 8)⟩] none)
 (.cond (.t 9) .skip (.exit 0)))
 (.seq (.block 1 (.seq (.reg [⟨some 12, none, .mov (.t 3)⟩, ⟨some 13, none, .bin .add (.t 12) (.c (.int .i64 1))⟩, ⟨some 14, none, .mov (.t 0)⟩, ⟨some 15, none, .mov (.t 4)⟩, ⟨some 16, none, .iaddr 3 (.t 14) (.t 15)⟩, ⟨some 17, none, .faddr 2 (.t 16)⟩, ⟨some 18, none, .load none (.t 17)⟩, ⟨some 19, none, .len false (.t 18)⟩, ⟨some 20, none, .bin .add (.t 13) (.t 19)⟩, ⟨some 3, none, .mov (.t 20)⟩] none)
 (.seq (.seq (.reg [⟨some 21, none, .mov (.t 3)⟩, ⟨some 22, none, .bin .gtr (.t 21) (.c (.int .i64 200))⟩, ⟨some 23, none, .mov (.t 22)⟩, ⟨some 24, some (23, false), .mov (.t 0)⟩, ⟨some 25, some (23, false), .mov (.t 4)⟩, ⟨some 26, some (23, false), .iaddr 3 (.t 24) (.t 25)⟩, ⟨some 27, some (23, false), .faddr 1 (.t 26)⟩, ⟨some 28, some (23, false), .load none (.t 27)⟩, ⟨some 29, some (23, false), .bin .lss (.t 28) (.c (.int .i64 (-100)))⟩, ⟨some 30, none, .pick (.t 23) (.c (.bool true)) (.t 29)⟩, ⟨some 31, none, .mov (.t 30)⟩, ⟨some 32, some (31, false), .mov (.t 0)⟩, ⟨some 33, some (31, false), .mov (.t 4)⟩, ⟨some 34, some (31, false), .iaddr 3 (.t 32) (.t 33)⟩, ⟨some 35, some (31, false), .faddr 1 (.t 34)⟩, ⟨some 36, some (31, false), .load none (.t 35)⟩, ⟨some 37, some (31, false), .bin .gtr (.t 36) (.c (.int .i64 1099511627776))⟩, ⟨some 38, none, .pick (.t 31) (.c (.bool true)) (.t 37)⟩] none)
 (.cond (.t 38) (.seq (.reg [⟨some 2, none, .mov (.c (.bool false))⟩] none)
 .ret) .skip))
 (.seq (.reg [⟨some 5, none, .mov (.c (.int .i64 0))⟩] none)
 (.block 2 (.loop (.seq (.seq (.reg [⟨some 39, none, .mov (.t 5)⟩, ⟨some 40, none, .mov (.t 0)⟩, ⟨some 41, none, .mov (.t 4)⟩, ⟨some 42, none, .iaddr 3 (.t 40) (.t 41)⟩, ⟨some 43, none, .faddr 2 (.t 42)⟩, ⟨some 44, none, .load none (.t 43)⟩, ⟨some 45, none, .len false (.t 44)⟩, ⟨some 46, none, .bin .lss (.t 39) (.t 45)⟩] none)
 (.cond (.t 46) .skip (.exit 2)))
 (.seq (.block 3 (.seq (.reg [⟨some 49, none, .mov (.t 0)⟩, ⟨some 50, none, .mov (.t 4)⟩, ⟨some 51, none, .iaddr 3 (.t 49) (.t 50)⟩, ⟨some 52, none, .faddr 2 (.t 51)⟩, ⟨some 53, none, .load none (.t 52)⟩, ⟨some 54, none, .mov (.t 5)⟩, ⟨some 55, none, .iaddr 3 (.t 53) (.t 54)⟩, ⟨some 56, none, .faddr 0 (.t 55)⟩, ⟨some 57, none, .load none (.t 56)⟩, ⟨some 58, none, .len true (.t 57)⟩, ⟨some 59, none, .bin .gtr (.t 58) (.c (.int .i64 1000))⟩, ⟨some 60, none, .mov (.t 59)⟩, ⟨some 61, some (60, false), .mov (.t 0)⟩, ⟨some 62, some (60, false), .mov (.t 4)⟩, ⟨some 63, some (60, false), .iaddr 3 (.t 61) (.t 62)⟩, ⟨some 64, some (60, false), .faddr 2 (.t 63)⟩, ⟨some 65, some (60, false), .load none (.t 64)⟩, ⟨some 66, some (60, false), .mov (.t 5)⟩, ⟨some 67, some (60, false), .iaddr 3 (.t 65) (.t 66)⟩, ⟨some 68, some (60, false), .faddr 1 (.t 67)⟩, ⟨some 69, some (60, false), .load none (.t 68)⟩, ⟨some 70, some (60, false), .len true (.t 69)⟩, ⟨some 71, some (60, false), .bin .gtr (.t 70) (.c (.int .i64 1000))⟩, ⟨some 72, none, .pick (.t 60) (.c (.bool true)) (.t 71)⟩] none)
 (.cond (.t 72) (.seq (.reg [⟨some 2, none, .mov (.c (.bool false))⟩] none)
 .ret) .skip)))
 (.reg [⟨some 47, none, .mov (.t 5)⟩, ⟨some 48, none, .bin .add (.t 47) (.c (.int .i64 1))⟩, ⟨some 5, none, .mov (.t 48)⟩] none)))))))))
 (.reg [⟨some 10, none, .mov (.t 4)⟩, ⟨some 11, none, .bin .add (.t 10) (.c (.int .i64 1))⟩, ⟨some 4, none, .mov (.t 11)⟩] none))))))
 (.seq (.reg [⟨some 2, none, .mov (.c (.bool true))⟩] none)
 .ret))))
theorem f30 : FnIs Try.prog 30 73 c30 [.tmp 2] := ⟨_, Try.func30, rfl, by kernel_rfl, rfl⟩
def c31 : AC := (.seq (.reg [⟨some 4, none, .box (.t 1)⟩, ⟨some 5, none, .box (.t 2)⟩, ⟨some 6, none, .mov (.c (.sc (.pointer none)))⟩, ⟨some 7, none, .alloc [.sl 2 [] (.exact 0), .int .i64 0, .int .i64 0]⟩, ⟨some 8, none, .mov (.c (.bool false))⟩] none)
 (.seq (.seq (.reg [⟨some 16, none, .faddr 0 (.t 5)⟩, ⟨some 17, none, .load none (.t 16)⟩] none)
 (.block 0 (.seq (.reg [⟨some 19, none, .bin .eql (.t 17) (.c (.int .i64 1))⟩, ⟨some 18, none, .mov (.t 19)⟩] none)
 (.cond (.t 18) (.seq (.reg [⟨some 21, none, .load (some 3) (.t 4)⟩, ⟨some 22, none, .faddr 2 (.t 4)⟩, ⟨some 23, none, .load none (.t 22)⟩, ⟨some 24, none, .faddr 1 (.t 5)⟩, ⟨some 25, none, .load none (.t 24)⟩, ⟨some 26, none, .bin .add (.t 23) (.t 25)⟩, ⟨some 27, none, .call 72 [(.t 21), (.t 26)]⟩, ⟨some 20, none, .mov (.t 27)⟩, ⟨some 28, none, .ext (.t 20) 0⟩, ⟨some 29, none, .ext (.t 20) 1⟩, ⟨some 9, none, .alloc [.sl 2 [] (.exact 0), .int .i64 0, .int .i64 0]⟩, ⟨none, none, .store 3 (.t 9) (.t 28)⟩, ⟨some 10, none, .mov (.t 29)⟩] none)
 (.seq (.reg [⟨some 30, none, .mov (.t 0)⟩, ⟨some 31, none, .load (some 3) (.t 9)⟩, ⟨some 32, none, .mov (.t 0)⟩, ⟨some 33, none, .faddr 2 (.t 4)⟩, ⟨some 34, none, .load none (.t 33)⟩, ⟨some 35, none, .faddr 1 (.t 5)⟩, ⟨some 36, none, .load none (.t 35)⟩, ⟨some 37, none, .bin .add (.t 34) (.t 36)⟩, ⟨some 38, none, .call 21 [(.t 32), (.t 37)]⟩, ⟨some 39, none, .mov (.t 10)⟩, ⟨some 40, none, .bin .eql (.t 38) (.t 39)⟩, ⟨some 6, none, .mov (.t 30)⟩, ⟨none, none, .store 3 (.t 7) (.t 31)⟩, ⟨some 8, none, .mov (.t 40)⟩] (some [(1, 4), (1, 6), (4, 6), (1, 8)]))
 .ret)) (.seq (.reg [⟨some 42, none, .bin .eql (.t 17) (.c (.int .i64 2))⟩, ⟨some 41, none, .mov (.t 42)⟩] none)
 (.cond (.t 41) (.seq (.reg [⟨some 43, none, .mov (.t 0)⟩, ⟨some 44, none, .call 25 [(.t 43)]⟩, ⟨some 11, none, .mov (.t 44)⟩] none)
 (.seq (.reg [⟨some 45, none, .mov (.t 0)⟩, ⟨some 46, none, .faddr 1 (.t 4)⟩, ⟨some 47, none, .load none (.t 46)⟩, ⟨some 48, none, .bin .add (.t 47) (.c (.int .i64 1))⟩, ⟨some 49, none, .build [.str [], .str [], .bool false] [(0, 1, (.c (.str [122, 122]))), (1, 1, (.c (.str [122, 122])))]⟩, ⟨some 50, none, .buildSl 3 [(.t 49)]⟩, ⟨some 51, none, .call 15 [(.t 45), (.t 48), (.t 50)]⟩] none)
 (.seq (.reg [⟨some 52, none, .mov (.t 11)⟩, ⟨some 53, none, .load (some 3) (.t 4)⟩, ⟨some 54, none, .mov (.t 11)⟩, ⟨some 55, none, .eqP true (.t 54) (.c (.sc (.pointer none)))⟩, ⟨some 6, none, .mov (.t 52)⟩, ⟨none, none, .store 3 (.t 7) (.t 53)⟩, ⟨some 8, none, .mov (.t 55)⟩] (some []))
 .ret))) (.seq (.reg [⟨some 57, none, .bin .eql (.t 17) (.c (.int .i64 3))⟩, ⟨some 56, none, .mov (.t 57)⟩] none)
 (.cond (.t 56) (.seq (.reg [⟨some 59, none, .mov (.t 0)⟩, ⟨some 60, none, .call 24 [(.t 59)]⟩, ⟨some 61, none, .mov (.t 0)⟩, ⟨some 62, none, .call 19 [(.t 61)]⟩, ⟨some 63, none, .mov (.t 0)⟩, ⟨some 64, none, .call 23 [(.t 63)]⟩, ⟨some 65, none, .call 26 [(.t 60), (.t 62), (.t 64)]⟩, ⟨some 58, none, .mov (.t 65)⟩, ⟨some 66, none, .ext (.t 58) 0⟩, ⟨some 67, none, .ext (.t 58) 1⟩, ⟨some 12, none, .mov (.t 66)⟩, ⟨some 13, none, .mov (.t 67)⟩] none)
 (.seq (.reg [⟨some 68, none, .mov (.t 12)⟩, ⟨some 69, none, .load (some 3) (.t 4)⟩, ⟨some 70, none, .mov (.t 13)⟩, ⟨some 71, none, .bin .eql (.t 70) (.c (.int .i64 0))⟩, ⟨some 72, none, .mov (.t 71)⟩, ⟨some 73, some (72, true), .mov (.t 12)⟩, ⟨some 74, some (72, true), .eqP true (.t 73) (.c (.sc (.pointer none)))⟩, ⟨some 75, none, .pick (.t 72) (.t 74) (.c (.bool false))⟩, ⟨some 6, none, .mov (.t 68)⟩, ⟨none, none, .store 3 (.t 7) (.t 69)⟩, ⟨some 8, none, .mov (.t 75)⟩] (some []))
 .ret)) .skip))))))))
 (.seq (.reg [⟨some 77, none, .load (some 3) (.t 4)⟩, ⟨some 78, none, .faddr 1 (.t 4)⟩, ⟨some 79, none, .load none (.t 78)⟩, ⟨some 80, none, .faddr 1 (.t 5)⟩, ⟨some 81, none, .load none (.t 80)⟩, ⟨some 82, none, .bin .add (.t 79) (.t 81)⟩, ⟨some 83, none, .faddr 2 (.t 5)⟩, ⟨some 84, none, .load none (.t 83)⟩, ⟨some 85, none, .call 73 [(.t 77), (.t 82), (.t 84)]⟩, ⟨some 76, none, .mov (.t 85)⟩, ⟨some 86, none, .ext (.t 76) 0⟩, ⟨some 87, none, .ext (.t 76) 1⟩, ⟨some 14, none, .alloc [.sl 2 [] (.exact 0), .int .i64 0, .int .i64 0]⟩, ⟨none, none, .store 3 (.t 14) (.t 86)⟩, ⟨some 15, none, .mov (.t 87)⟩] none)
 (.seq (.reg [⟨some 88, none, .mov (.t 0)⟩, ⟨some 89, none, .load (some 3) (.t 14)⟩, ⟨some 90, none, .mov (.t 0)⟩, ⟨some 91, none, .faddr 1 (.t 4)⟩, ⟨some 92, none, .load none (.t 91)⟩, ⟨some 93, none, .faddr 1 (.t 5)⟩, ⟨some 94, none, .load none (.t 93)⟩, ⟨some 95, none, .bin .add (.t 92) (.t 94)⟩, ⟨some 96, none, .buildSl 3 []⟩, ⟨some 97, none, .faddr 2 (.t 5)⟩, ⟨some 98, none, .load none (.t 97)⟩, ⟨some 99, none, .app false 3 40 (.t 96) (.t 98)⟩, ⟨some 100, none, .call 15 [(.t 90), (.t 95), (.t 99)]⟩, ⟨some 101, none, .mov (.t 15)⟩, ⟨some 102, none, .bin .eql (.t 100) (.t 101)⟩, ⟨some 6, none, .mov (.t 88)⟩, ⟨none, none, .store 3 (.t 7) (.t 89)⟩, ⟨some 8, none, .mov (.t 102)⟩] (some [(1, 4), (1, 6), (4, 6), (1, 8), (4, 8), (6, 8), (1, 10), (4, 10), (6, 10), (8, 10), (1, 11), (4, 11), (6, 11), (1, 12)]))
 .ret))))
theorem f31 : FnIs Try.prog 31 103 c31 [.tmp 6, .cell 7 (some 3), .tmp 8] := ⟨_, Try.func31, rfl, by kernel_rfl, rfl⟩
def c32 : AC := (.seq (.reg [⟨some 0, none, .mov (.c (.bool false))⟩] none)
 (.seq (.reg [⟨some 12, none, .call 13 []⟩, ⟨some 1, none, .mov (.t 12)⟩] none)
 (.seq (.seq (.reg [⟨some 13, none, .mov (.t 1)⟩, ⟨some 14, none, .eqP false (.t 13) (.c (.sc (.pointer none)))⟩, ⟨some 15, none, .mov (.t 14)⟩, ⟨some 16, some (15, false), .mov (.t 1)⟩, ⟨some 17, some (15, false), .build [.str [], .str [], .bool false] [(0, 1, (.c (.str [97]))), (1, 1, (.c (.str [49])))]⟩, ⟨some 18, some (15, false), .buildSl 3 [(.t 17)]⟩, ⟨some 19, some (15, false), .call 15 [(.t 16), (.c (.int .i64 5)), (.t 18)]⟩, ⟨some 20, some (15, false), .bin .neq (.t 19) (.c (.int .i64 0))⟩, ⟨some 21, none, .pick (.t 15) (.c (.bool true)) (.t 20)⟩] none)
 (.cond (.t 21) (.seq (.reg [⟨some 0, none, .mov (.c (.bool false))⟩] none)
 .ret) .skip))
 (.seq (.reg [⟨some 23, none, .mov (.t 1)⟩, ⟨some 24, none, .call 33 [(.t 23), (.c (.int .i64 5))]⟩, ⟨some 22, none, .mov (.t 24)⟩, ⟨some 25, none, .ext (.t 22) 0⟩, ⟨some 26, none, .ext (.t 22) 1⟩, ⟨some 2, none, .mov (.t 25)⟩, ⟨some 3, none, .mov (.t 26)⟩] none)
 (.seq (.seq (.reg [⟨some 27, none, .mov (.t 2)⟩, ⟨some 28, none, .eqP false (.t 27) (.c (.sc (.pointer none)))⟩, ⟨some 29, none, .mov (.t 28)⟩, ⟨some 30, some (29, false), .mov (.t 3)⟩, ⟨some 31, some (29, false), .bin .neq (.t 30) (.c (.int .i64 0))⟩, ⟨some 32, none, .pick (.t 29) (.c (.bool true)) (.t 31)⟩] none)
 (.cond (.t 32) (.seq (.reg [⟨some 0, none, .mov (.c (.bool false))⟩] none)
 .ret) .skip))
 (.seq (.reg [⟨some 33, none, .mov (.t 2)⟩, ⟨some 34, none, .call 74 [(.t 33), (.c (.str [98])), (.c (.str [50]))]⟩, ⟨some 4, none, .mov (.t 34)⟩] none)
 (.seq (.reg [⟨some 36, none, .mov (.t 2)⟩, ⟨some 37, none, .call 75 [(.t 36), (.c (.str [])), (.c (.str [])), (.c (.int .i64 (-1)))]⟩, ⟨some 35, none, .mov (.t 37)⟩, ⟨some 38, none, .ext (.t 35) 0⟩, ⟨some 39, none, .ext (.t 35) 1⟩, ⟨some 5, none, .mov (.t 38)⟩, ⟨some 6, none, .mov (.t 39)⟩] none)
 (.seq (.reg [⟨some 40, none, .mov (.t 1)⟩, ⟨some 41, none, .build [.str [], .str [], .bool false] [(0, 1, (.c (.str [99]))), (1, 1, (.c (.str [51])))]⟩, ⟨some 42, none, .buildSl 3 [(.t 41)]⟩, ⟨some 43, none, .call 15 [(.t 40), (.c (.int .i64 6)), (.t 42)]⟩] none)
 (.seq (.reg [⟨some 45, none, .mov (.t 2)⟩, ⟨some 46, none, .call 75 [(.t 45), (.c (.str [])), (.c (.str [])), (.c (.int .i64 (-1)))]⟩, ⟨some 44, none, .mov (.t 46)⟩, ⟨some 47, none, .ext (.t 44) 0⟩, ⟨some 48, none, .ext (.t 44) 1⟩, ⟨some 7, none, .mov (.t 47)⟩, ⟨some 8, none, .mov (.t 48)⟩] none)
 (.seq (.reg [⟨some 50, none, .mov (.t 2)⟩, ⟨some 51, none, .call 76 [(.t 50), (.c (.str [98]))]⟩, ⟨some 49, none, .mov (.t 51)⟩, ⟨some 52, none, .ext (.t 49) 0⟩, ⟨some 53, none, .ext (.t 49) 1⟩, ⟨some 9, none, .mov (.t 52)⟩, ⟨some 10, none, .mov (.t 53)⟩] none)
 (.seq (.reg [⟨some 54, none, .build [.str [], .str []] [(0, 1, (.c (.str [97]))), (1, 1, (.c (.str [49])))]⟩, ⟨some 55, none, .build [.str [], .str []] [(0, 1, (.c (.str [98]))), (1, 1, (.c (.str [50])))]⟩, ⟨some 56, none, .buildSl 2 [(.t 54), (.t 55)]⟩, ⟨some 11, none, .mov (.t 56)⟩] none)
 (.seq (.reg [⟨some 57, none, .mov (.t 4)⟩, ⟨some 58, none, .bin .eql (.t 57) (.c (.int .i64 0))⟩, ⟨some 59, none, .mov (.t 58)⟩, ⟨some 60, some (59, true), .mov (.t 5)⟩, ⟨some 61, some (59, true), .mov (.t 11)⟩, ⟨some 62, some (59, true), .call 18 [(.t 60), (.t 61)]⟩, ⟨some 63, none, .pick (.t 59) (.t 62) (.c (.bool false))⟩, ⟨some 64, none, .mov (.t 63)⟩, ⟨some 65, some (64, true), .mov (.t 6)⟩, ⟨some 66, some (64, true), .bin .eql (.t 65) (.c (.int .i64 0))⟩, ⟨some 67, none, .pick (.t 64) (.t 66) (.c (.bool false))⟩, ⟨some 68, none, .mov (.t 67)⟩, ⟨some 69, some (68, true), .mov (.t 7)⟩, ⟨some 70, some (68, true), .mov (.t 11)⟩, ⟨some 71, some (68, true), .call 18 [(.t 69), (.t 70)]⟩, ⟨some 72, none, .pick (.t 68) (.t 71) (.c (.bool false))⟩, ⟨some 73, none, .mov (.t 72)⟩, ⟨some 74, some (73, true), .mov (.t 8)⟩, ⟨some 75, some (73, true), .bin .eql (.t 74) (.c (.int .i64 0))⟩, ⟨some 76, none, .pick (.t 73) (.t 75) (.c (.bool false))⟩, ⟨some 77, none, .mov (.t 76)⟩, ⟨some 78, some (77, true), .mov (.t 2)⟩, ⟨some 79, some (77, true), .call 77 [(.t 78)]⟩, ⟨some 80, none, .pick (.t 77) (.t 79) (.c (.bool false))⟩, ⟨some 81, none, .mov (.t 80)⟩, ⟨some 82, some (81, true), .mov (.t 9)⟩, ⟨some 83, some (81, true), .bin .eql (.t 82) (.c (.str [50]))⟩, ⟨some 84, none, .pick (.t 81) (.t 83) (.c (.bool false))⟩, ⟨some 85, none, .mov (.t 84)⟩, ⟨some 86, some (85, true), .mov (.t 10)⟩, ⟨some 87, some (85, true), .bin .eql (.t 86) (.c (.int .i64 0))⟩, ⟨some 88, none, .pick (.t 85) (.t 87) (.c (.bool false))⟩, ⟨some 89, none, .mov (.t 88)⟩, ⟨some 90, some (89, true), .mov (.t 2)⟩, ⟨some 91, some (89, true), .call 78 [(.t 90)]⟩, ⟨some 92, some (89, true), .build [.str [], .str []] []⟩, ⟨some 93, some (89, true), .buildSl 2 [(.t 92)]⟩, ⟨some 94, some (89, true), .build [.sl 1 [] (.exact 0), .sl 2 [] (.exact 0)] [(1, 1, (.t 93))]⟩, ⟨some 95, some (89, true), .call 45 [(.t 91), (.t 94)]⟩, ⟨some 96, none, .pick (.t 89) (.t 95) (.c (.bool false))⟩, ⟨some 97, none, .mov (.t 96)⟩, ⟨some 98, some (97, true), .mov (.t 2)⟩, ⟨some 99, some (97, true), .call 79 [(.t 98)]⟩, ⟨some 100, some (97, true), .bin .eql (.t 99) (.c (.int .i64 5))⟩, ⟨some 101, none, .pick (.t 97) (.t 100) (.c (.bool false))⟩, ⟨some 0, none, .mov (.t 101)⟩] none)
 .ret))))))))))))
theorem f32 : FnIs Try.prog 32 102 c32 [.tmp 0] := ⟨_, Try.func32, rfl, by kernel_rfl, rfl⟩
def c33 : AC := (.seq (.reg [⟨some 4, none, .mov (.c (.sc (.pointer none)))⟩, ⟨some 5, none, .mov (.c (.int .i64 0))⟩] none)
 (.seq (.seq (.reg [⟨some 9, none, .mov (.t 0)⟩, ⟨some 10, none, .mov (.t 1)⟩, ⟨some 11, none, .call 20 [(.t 9), (.c (.str [])), (.t 10)]⟩, ⟨some 8, none, .mov (.t 11)⟩, ⟨some 12, none, .ext (.t 8) 0⟩, ⟨some 13, none, .ext (.t 8) 1⟩, ⟨some 6, none, .mov (.t 12)⟩, ⟨some 7, none, .mov (.t 13)⟩] none)
 (.seq (.reg [⟨some 14, none, .mov (.t 7)⟩, ⟨some 15, none, .bin .neq (.t 14) (.c (.int .i64 0))⟩, ⟨some 16, none, .mov (.t 15)⟩, ⟨some 17, some (16, true), .mov (.t 7)⟩, ⟨some 18, some (16, true), .bin .neq (.t 17) (.c (.int .i64 7))⟩, ⟨some 19, none, .pick (.t 16) (.t 18) (.c (.bool false))⟩] none)
 (.cond (.t 19) (.seq (.reg [⟨some 20, none, .mov (.t 7)⟩, ⟨some 4, none, .mov (.c (.sc (.pointer none)))⟩, ⟨some 5, none, .mov (.t 20)⟩] none)
 .ret) .skip)))
 (.seq (.reg [⟨some 21, none, .mov (.t 0)⟩, ⟨some 22, none, .mov (.t 1)⟩, ⟨some 23, none, .mkmap⟩, ⟨some 24, none, .build [.sc (.pointer none), .int .i64 0, .sc (.map none), .sl 1 [] (.exact 0), .sl 1 [] (.exact 0), .sl 2 [] (.exact 0), .bool false] [(0, 1, (.t 21)), (1, 1, (.t 22)), (2, 1, (.t 23))]⟩, ⟨some 25, none, .box (.t 24)⟩, ⟨some 4, none, .mov (.t 25)⟩, ⟨some 5, none, .mov (.c (.int .i64 0))⟩] none)
 .ret)))
theorem f33 : FnIs Try.prog 33 26 c33 [.tmp 4, .tmp 5] := ⟨_, Try.func33, rfl, by kernel_rfl, rfl⟩
def c34 : AC := (.seq (.reg [⟨some 2, none, .box (.t 0)⟩, ⟨some 4, none, .alloc [.int .i64 0, .sl 3 [] (.exact 0), .sl 1 [] (.exact 0), .sl 2 [] (.exact 0), .bool false]⟩, ⟨some 5, none, .mov (.c (.int .i64 0))⟩] none)
 (.seq (.seq (.reg [⟨some 9, none, .load (some 3) (.t 2)⟩, ⟨some 10, none, .mov (.t 1)⟩, ⟨some 11, none, .call 69 [(.t 9), (.c (.str [])), (.t 10)]⟩, ⟨some 8, none, .mov (.t 11)⟩, ⟨some 12, none, .ext (.t 8) 0⟩, ⟨some 13, none, .ext (.t 8) 1⟩, ⟨some 6, none, .mov (.t 12)⟩, ⟨some 7, none, .mov (.t 13)⟩] none)
 (.seq (.reg [⟨some 14, none, .mov (.t 7)⟩, ⟨some 15, none, .bin .neq (.t 14) (.c (.int .i64 0))⟩, ⟨some 16, none, .mov (.t 15)⟩, ⟨some 17, some (16, true), .mov (.t 7)⟩, ⟨some 18, some (16, true), .bin .neq (.t 17) (.c (.int .i64 7))⟩, ⟨some 19, none, .pick (.t 16) (.t 18) (.c (.bool false))⟩] none)
 (.cond (.t 19) (.seq (.reg [⟨some 20, none, .build [.int .i64 0, .sl 3 [] (.exact 0), .sl 1 [] (.exact 0), .sl 2 [] (.exact 0), .bool false] []⟩, ⟨some 21, none, .mov (.t 7)⟩, ⟨none, none, .store 5 (.t 4) (.t 20)⟩, ⟨some 5, none, .mov (.t 21)⟩] none)
 .ret) .skip)))
 (.seq (.reg [⟨some 22, none, .mov (.t 1)⟩, ⟨some 23, none, .build [.int .i64 0, .sl 3 [] (.exact 0), .sl 1 [] (.exact 0), .sl 2 [] (.exact 0), .bool false] [(0, 1, (.t 22))]⟩, ⟨none, none, .store 5 (.t 4) (.t 23)⟩, ⟨some 5, none, .mov (.c (.int .i64 0))⟩] none)
 .ret)))
theorem f34 : FnIs Try.prog 34 24 c34 [.cell 4 (some 5), .tmp 5] := ⟨_, Try.func34, rfl, by kernel_rfl, rfl⟩
def c35 : AC := (.seq (.reg [⟨some 4, none, .mov (.c (.bool false))⟩] none)
 (.seq (.reg [⟨some 5, none, .mov (.t 0)⟩, ⟨some 6, none, .call 80 [(.t 5)]⟩, ⟨some 7, none, .mov (.t 6)⟩, ⟨some 8, some (7, true), .mov (.t 0)⟩, ⟨some 9, some (7, true), .nilck (.t 8)⟩, ⟨some 10, some (7, true), .faddr 0 (.t 9)⟩, ⟨some 11, some (7, true), .load none (.t 10)⟩, ⟨some 12, some (7, true), .mov (.t 1)⟩, ⟨some 13, some (7, true), .eqQ false (.t 11) (.t 12)⟩, ⟨some 14, none, .pick (.t 7) (.t 13) (.c (.bool false))⟩, ⟨some 4, none, .mov (.t 14)⟩] none)
 .ret))
theorem f35 : FnIs Try.prog 35 15 c35 [.tmp 4] := ⟨_, Try.func35, rfl, by kernel_rfl, rfl⟩
def c36 : AC := (.seq (.reg [⟨some 1, none, .box (.t 0)⟩, ⟨some 2, none, .mov (.c (.bool false))⟩] none)
 (.seq (.reg [⟨some 3, none, .faddr 0 (.t 1)⟩, ⟨some 4, none, .load none (.t 3)⟩, ⟨some 5, none, .len false (.t 4)⟩, ⟨some 6, none, .bin .leq (.t 5) (.c (.int .i64 100))⟩, ⟨some 7, none, .mov (.t 6)⟩, ⟨some 8, some (7, true), .faddr 1 (.t 1)⟩, ⟨some 9, some (7, true), .load none (.t 8)⟩, ⟨some 10, some (7, true), .len false (.t 9)⟩, ⟨some 11, some (7, true), .bin .leq (.t 10) (.c (.int .i64 100))⟩, ⟨some 12, none, .pick (.t 7) (.t 11) (.c (.bool false))⟩, ⟨some 2, none, .mov (.t 12)⟩] none)
 .ret))
theorem f36 : FnIs Try.prog 36 13 c36 [.tmp 2] := ⟨_, Try.func36, rfl, by kernel_rfl, rfl⟩
def c37 : AC := (.seq (.reg [⟨some 0, none, .mov (.c (.bool false))⟩] none)
 (.seq (.reg [⟨some 10, none, .build [.sl 1 [] (.exact 0), .sl 2 [] (.exact 0)] []⟩, ⟨some 11, none, .call 39 [(.t 10), (.c (.str [99]))]⟩, ⟨some 9, none, .mov (.t 11)⟩, ⟨some 12, none, .ext (.t 9) 0⟩, ⟨some 13, none, .ext (.t 9) 1⟩, ⟨some 1, none, .alloc [.sl 1 [] (.exact 0), .sl 2 [] (.exact 0)]⟩, ⟨none, none, .store 2 (.t 1) (.t 12)⟩, ⟨some 2, none, .mov (.t 13)⟩] none)
 (.seq (.reg [⟨some 15, none, .load (some 2) (.t 1)⟩, ⟨some 16, none, .call 41 [(.t 15), (.c (.str [97])), (.c (.str [98]))]⟩, ⟨some 14, none, .mov (.t 16)⟩, ⟨some 17, none, .ext (.t 14) 0⟩, ⟨some 18, none, .ext (.t 14) 1⟩, ⟨some 3, none, .alloc [.sl 1 [] (.exact 0), .sl 2 [] (.exact 0)]⟩, ⟨none, none, .store 2 (.t 3) (.t 17)⟩, ⟨some 4, none, .mov (.t 18)⟩] none)
 (.seq (.reg [⟨some 20, none, .load (some 2) (.t 3)⟩, ⟨some 21, none, .call 41 [(.t 20), (.c (.str [98])), (.c (.str [100]))]⟩, ⟨some 19, none, .mov (.t 21)⟩, ⟨some 22, none, .ext (.t 19) 0⟩, ⟨some 23, none, .ext (.t 19) 1⟩, ⟨some 5, none, .alloc [.sl 1 [] (.exact 0), .sl 2 [] (.exact 0)]⟩, ⟨none, none, .store 2 (.t 5) (.t 22)⟩, ⟨some 6, none, .mov (.t 23)⟩] none)
 (.seq (.reg [⟨some 25, none, .load (some 2) (.t 5)⟩, ⟨some 26, none, .call 41 [(.t 25), (.c (.str [122])), (.c (.str []))]⟩, ⟨some 24, none, .mov (.t 26)⟩, ⟨some 27, none, .ext (.t 24) 0⟩, ⟨some 28, none, .ext (.t 24) 1⟩, ⟨some 7, none, .alloc [.sl 1 [] (.exact 0), .sl 2 [] (.exact 0)]⟩, ⟨none, none, .store 2 (.t 7) (.t 27)⟩, ⟨some 8, none, .mov (.t 28)⟩] none)
 (.seq (.reg [⟨some 29, none, .mov (.t 2)⟩, ⟨some 30, none, .bin .eql (.t 29) (.c (.int .i64 0))⟩, ⟨some 31, none, .mov (.t 30)⟩, ⟨some 32, some (31, true), .mov (.t 4)⟩, ⟨some 33, some (31, true), .bin .eql (.t 32) (.c (.int .i64 0))⟩, ⟨some 34, none, .pick (.t 31) (.t 33) (.c (.bool false))⟩, ⟨some 35, none, .mov (.t 34)⟩, ⟨some 36, some (35, true), .load (some 2) (.t 3)⟩, ⟨some 37, some (35, true), .buildSl 1 [(.c (.str [99]))]⟩, ⟨some 38, some (35, true), .build [.str [], .str []] [(0, 1, (.c (.str [97]))), (1, 1, (.c (.str [98])))]⟩, ⟨some 39, some (35, true), .buildSl 2 [(.t 38)]⟩, ⟨some 40, some (35, true), .build [.sl 1 [] (.exact 0), .sl 2 [] (.exact 0)] [(0, 1, (.t 37)), (1, 1, (.t 39))]⟩, ⟨some 41, some (35, true), .call 45 [(.t 36), (.t 40)]⟩, ⟨some 42, none, .pick (.t 35) (.t 41) (.c (.bool false))⟩, ⟨some 43, none, .mov (.t 42)⟩, ⟨some 44, some (43, true), .mov (.t 6)⟩, ⟨some 45, some (43, true), .bin .eql (.t 44) (.c (.int .i64 0))⟩, ⟨some 46, none, .pick (.t 43) (.t 45) (.c (.bool false))⟩, ⟨some 47, none, .mov (.t 46)⟩, ⟨some 48, some (47, true), .load (some 2) (.t 5)⟩, ⟨some 49, some (47, true), .build [.str [], .str []] [(0, 1, (.c (.str [97]))), (1, 1, (.c (.str [100])))]⟩, ⟨some 50, some (47, true), .buildSl 2 [(.t 49)]⟩, ⟨some 51, some (47, true), .build [.sl 1 [] (.exact 0), .sl 2 [] (.exact 0)] [(1, 1, (.t 50))]⟩, ⟨some 52, some (47, true), .call 45 [(.t 48), (.t 51)]⟩, ⟨some 53, none, .pick (.t 47) (.t 52) (.c (.bool false))⟩, ⟨some 54, none, .mov (.t 53)⟩, ⟨some 55, some (54, true), .mov (.t 8)⟩, ⟨some 56, some (54, true), .bin .eql (.t 55) (.c (.int .i64 0))⟩, ⟨some 57, none, .pick (.t 54) (.t 56) (.c (.bool false))⟩, ⟨some 58, none, .mov (.t 57)⟩, ⟨some 59, some (58, true), .faddr 1 (.t 7)⟩, ⟨some 60, some (58, true), .load none (.t 59)⟩, ⟨some 61, some (58, true), .len false (.t 60)⟩, ⟨some 62, some (58, true), .bin .eql (.t 61) (.c (.int .i64 2))⟩, ⟨some 63, none, .pick (.t 58) (.t 62) (.c (.bool false))⟩, ⟨some 64, none, .mov (.t 63)⟩, ⟨some 65, some (64, true), .load (some 2) (.t 7)⟩, ⟨some 66, some (64, true), .call 46 [(.t 65), (.c (.str [100]))]⟩, ⟨some 67, some (64, true), .un .not (.t 66)⟩, ⟨some 68, none, .pick (.t 64) (.t 67) (.c (.bool false))⟩, ⟨some 69, none, .mov (.t 68)⟩, ⟨some 70, some (69, true), .load (some 2) (.t 7)⟩, ⟨some 71, some (69, true), .build [.str [], .str [], .bool false] [(0, 1, (.c (.str [122, 122]))), (2, 1, (.c (.bool true)))]⟩, ⟨some 72, some (69, true), .buildSl 3 [(.t 71)]⟩, ⟨some 73, some (69, true), .call 48 [(.t 70), (.t 72)]⟩, ⟨some 74, none, .pick (.t 69) (.t 73) (.c (.bool false))⟩, ⟨some 75, none, .mov (.t 74)⟩, ⟨some 76, none, .pick (.t 75) (.c (.bool true)) (.c (.bool false))⟩, ⟨some 0, none, .mov (.t 76)⟩] none)
 .ret))))))
theorem f37 : FnIs Try.prog 37 77 c37 [.tmp 0] := ⟨_, Try.func37, rfl, by kernel_rfl, rfl⟩
def c38 : AC := (.seq (.reg [⟨some 1, none, .box (.t 0)⟩, ⟨some 2, none, .alloc [.sl 1 [] (.exact 0), .sl 2 [] (.exact 0)]⟩] none)
 (.seq (.reg [⟨some 5, none, .buildSl 1 []⟩, ⟨some 6, none, .faddr 0 (.t 1)⟩, ⟨some 7, none, .load none (.t 6)⟩, ⟨some 8, none, .app false 1 16 (.t 5) (.t 7)⟩, ⟨some 9, none, .buildSl 1 [(.c (.str [63]))]⟩, ⟨some 10, none, .app false 1 16 (.t 8) (.t 9)⟩, ⟨some 3, none, .mov (.t 10)⟩] none)
 (.seq (.reg [⟨some 11, none, .buildSl 2 []⟩, ⟨some 12, none, .faddr 1 (.t 1)⟩, ⟨some 13, none, .load none (.t 12)⟩, ⟨some 14, none, .app false 2 32 (.t 11) (.t 13)⟩, ⟨some 15, none, .build [.str [], .str []] [(0, 1, (.c (.str [63])))]⟩, ⟨some 16, none, .buildSl 2 [(.t 15)]⟩, ⟨some 17, none, .app false 2 32 (.t 14) (.t 16)⟩, ⟨some 4, none, .mov (.t 17)⟩] none)
 (.seq (.reg [⟨some 18, none, .mov (.t 3)⟩, ⟨some 19, none, .faddr 0 (.t 1)⟩, ⟨some 20, none, .load none (.t 19)⟩, ⟨some 21, none, .len false (.t 20)⟩, ⟨some 22, none, .slc false 1 (.t 18) none (some (.t 21)) none⟩, ⟨some 23, none, .mov (.t 4)⟩, ⟨some 24, none, .faddr 1 (.t 1)⟩, ⟨some 25, none, .load none (.t 24)⟩, ⟨some 26, none, .len false (.t 25)⟩, ⟨some 27, none, .slc false 2 (.t 23) none (some (.t 26)) none⟩, ⟨some 28, none, .build [.sl 1 [] (.exact 0), .sl 2 [] (.exact 0)] [(0, 1, (.t 22)), (1, 1, (.t 27))]⟩, ⟨none, none, .store 2 (.t 2) (.t 28)⟩] (some [(2, 7)]))
 .ret))))
theorem f38 : FnIs Try.prog 38 29 c38 [.cell 2 (some 2)] := ⟨_, Try.func38, rfl, by kernel_rfl, rfl⟩
def c39 : AC := (.seq (.reg [⟨some 2, none, .box (.t 0)⟩, ⟨some 4, none, .alloc [.sl 1 [] (.exact 0), .sl 2 [] (.exact 0)]⟩, ⟨some 5, none, .mov (.c (.int .i64 0))⟩] none)
 (.seq (.seq (.reg [⟨some 10, none, .load (some 2) (.t 2)⟩, ⟨some 11, none, .call 43 [(.t 10)]⟩, ⟨some 6, none, .mov (.t 11)⟩] none)
 (.seq (.reg [⟨some 12, none, .mov (.t 6)⟩, ⟨some 13, none, .bin .neq (.t 12) (.c (.int .i64 0))⟩] none)
 (.cond (.t 13) (.seq (.reg [⟨some 14, none, .build [.sl 1 [] (.exact 0), .sl 2 [] (.exact 0)] []⟩, ⟨some 15, none, .mov (.t 6)⟩, ⟨none, none, .store 2 (.t 4) (.t 14)⟩, ⟨some 5, none, .mov (.t 15)⟩] none)
 .ret) .skip)))
 (.seq (.reg [⟨some 16, none, .faddr 0 (.t 2)⟩, ⟨some 17, none, .load none (.t 16)⟩, ⟨some 18, none, .call 61 [(.t 17)]⟩, ⟨some 7, none, .mov (.t 18)⟩] none)
 (.seq (.seq (.reg [⟨some 20, none, .mov (.t 7)⟩, ⟨some 21, none, .mov (.t 1)⟩, ⟨some 22, none, .call 81 [(.t 20), (.t 21)]⟩, ⟨some 19, none, .mov (.t 22)⟩, ⟨some 23, none, .ext (.t 19) 0⟩, ⟨some 24, none, .ext (.t 19) 1⟩, ⟨some 8, none, .mov (.t 23)⟩, ⟨some 9, none, .mov (.t 24)⟩] none)
 (.seq (.reg [⟨some 25, none, .mov (.t 9)⟩, ⟨some 26, none, .un .not (.t 25)⟩] none)
 (.cond (.t 26) (.reg [⟨some 27, none, .mov (.t 7)⟩, ⟨some 28, none, .mov (.t 8)⟩, ⟨some 29, none, .mov (.t 1)⟩, ⟨some 30, none, .buildSl 1 [(.t 29)]⟩, ⟨some 31, none, .call 82 [(.t 27), (.t 28), (.t 30)]⟩, ⟨some 7, none, .mov (.t 31)⟩] none) .skip)))
 (.seq (.reg [⟨some 32, none, .mov (.t 7)⟩, ⟨some 33, none, .faddr 1 (.t 2)⟩, ⟨some 34, none, .load none (.t 33)⟩, ⟨some 35, none, .call 84 [(.t 34)]⟩, ⟨some 36, none, .call 83 [(.t 32), (.t 35)]⟩, ⟨some 37, none, .ext (.t 36) 0⟩, ⟨some 38, none, .ext (.t 36) 1⟩, ⟨none, none, .store 2 (.t 4) (.t 37)⟩, ⟨some 5, none, .mov (.t 38)⟩] none)
 .ret)))))
theorem f39 : FnIs Try.prog 39 39 c39 [.cell 4 (some 2), .tmp 5] := ⟨_, Try.func39, rfl, by kernel_rfl, rfl⟩
def c40 : AC := (.seq (.reg [⟨some 2, none, .box (.t 0)⟩, ⟨some 4, none, .alloc [.sl 1 [] (.exact 0), .sl 2 [] (.exact 0)]⟩, ⟨some 5, none, .mov (.c (.int .i64 0))⟩] none)
 (.seq (.seq (.reg [⟨some 11, none, .load (some 2) (.t 2)⟩, ⟨some 12, none, .call 85 [(.t 11)]⟩, ⟨some 13, none, .un .not (.t 12)⟩] none)
 (.cond (.t 13) (.seq (.reg [⟨some 14, none, .build [.sl 1 [] (.exact 0), .sl 2 [] (.exact 0)] []⟩, ⟨none, none, .store 2 (.t 4) (.t 14)⟩, ⟨some 5, none, .mov (.c (.int .i64 4))⟩] none)
 .ret) .skip))
 (.seq (.reg [⟨some 6, none, .mov (.c (.sl 1 [] (.exact 0)))⟩] none)
 (.seq (.reg [⟨some 7, none, .mov (.c (.bool false))⟩] none)
 (.seq (.seq (.reg [⟨some 8, none, .mov (.c (.int .i64 0))⟩] none)
 (.block 0 (.loop (.seq (.seq (.reg [⟨some 15, none, .mov (.t 8)⟩, ⟨some 16, none, .faddr 0 (.t 2)⟩, ⟨some 17, none, .load none (.t 16)⟩, ⟨some 18, none, .len false (.t 17)⟩, ⟨some 19, none, .bin .lss (.t 15) (.t 18)⟩] none)
 (.cond (.t 19) .skip (.exit 0)))
 (.seq (.block 1 (.seq (.seq (.reg [⟨some 22, none, .mov (.t 7)⟩, ⟨some 23, none, .un .not (.t 22)⟩, ⟨some 24, none, .mov (.t 23)⟩, ⟨some 25, some (24, true), .faddr 0 (.t 2)⟩, ⟨some 26, some (24, true), .load none (.t 25)⟩, ⟨some 27, some (24, true), .mov (.t 8)⟩, ⟨some 28, some (24, true), .iaddr 1 (.t 26) (.t 27)⟩, ⟨some 29, some (24, true), .load none (.t 28)⟩, ⟨some 30, some (24, true), .mov (.t 1)⟩, ⟨some 31, some (24, true), .call 66 [(.t 29), (.t 30)]⟩, ⟨some 32, some (24, true), .un .not (.t 31)⟩, ⟨some 33, none, .pick (.t 24) (.t 32) (.c (.bool false))⟩] none)
 (.cond (.t 33) (.seq (.reg [⟨some 34, none, .mov (.t 6)⟩, ⟨some 35, none, .mov (.t 1)⟩, ⟨some 36, none, .buildSl 1 [(.t 35)]⟩, ⟨some 37, none, .app false 1 16 (.t 34) (.t 36)⟩, ⟨some 6, none, .mov (.t 37)⟩] none)
 (.reg [⟨some 7, none, .mov (.c (.bool true))⟩] none)) .skip))
 (.seq (.reg [⟨some 38, none, .faddr 0 (.t 2)⟩, ⟨some 39, none, .load none (.t 38)⟩, ⟨some 40, none, .mov (.t 8)⟩, ⟨some 41, none, .iaddr 1 (.t 39) (.t 40)⟩, ⟨some 42, none, .load none (.t 41)⟩, ⟨some 43, none, .mov (.t 1)⟩, ⟨some 44, none, .bin .neq (.t 42) (.t 43)⟩] none)
 (.cond (.t 44) (.reg [⟨some 45, none, .mov (.t 6)⟩, ⟨some 46, none, .faddr 0 (.t 2)⟩, ⟨some 47, none, .load none (.t 46)⟩, ⟨some 48, none, .mov (.t 8)⟩, ⟨some 49, none, .iaddr 1 (.t 47) (.t 48)⟩, ⟨some 50, none, .load none (.t 49)⟩, ⟨some 51, none, .buildSl 1 [(.t 50)]⟩, ⟨some 52, none, .app false 1 16 (.t 45) (.t 51)⟩, ⟨some 6, none, .mov (.t 52)⟩] none) .skip))))
 (.reg [⟨some 20, none, .mov (.t 8)⟩, ⟨some 21, none, .bin .add (.t 20) (.c (.int .i64 1))⟩, ⟨some 8, none, .mov (.t 21)⟩] none))))))
 (.seq (.seq (.reg [⟨some 53, none, .mov (.t 7)⟩, ⟨some 54, none, .un .not (.t 53)⟩] none)
 (.cond (.t 54) (.reg [⟨some 55, none, .mov (.t 6)⟩, ⟨some 56, none, .mov (.t 1)⟩, ⟨some 57, none, .buildSl 1 [(.t 56)]⟩, ⟨some 58, none, .app false 1 16 (.t 55) (.t 57)⟩, ⟨some 6, none, .mov (.t 58)⟩] none) .skip))
 (.seq (.reg [⟨some 60, none, .mov (.t 6)⟩, ⟨some 61, none, .faddr 1 (.t 2)⟩, ⟨some 62, none, .load none (.t 61)⟩, ⟨some 63, none, .call 86 [(.t 60), (.t 62)]⟩, ⟨some 59, none, .mov (.t 63)⟩, ⟨some 64, none, .ext (.t 59) 0⟩, ⟨some 65, none, .ext (.t 59) 1⟩, ⟨some 9, none, .alloc [.sl 1 [] (.exact 0), .sl 2 [] (.exact 0)]⟩, ⟨none, none, .store 2 (.t 9) (.t 64)⟩, ⟨some 10, none, .mov (.t 65)⟩] none)
 (.seq (.seq (.reg [⟨some 66, none, .mov (.t 10)⟩, ⟨some 67, none, .un .not (.t 66)⟩] none)
 (.cond (.t 67) (.seq (.reg [⟨some 68, none, .build [.sl 1 [] (.exact 0), .sl 2 [] (.exact 0)] []⟩, ⟨none, none, .store 2 (.t 4) (.t 68)⟩, ⟨some 5, none, .mov (.c (.int .i64 9))⟩] none)
 .ret) .skip))
 (.seq (.reg [⟨some 69, none, .load (some 2) (.t 9)⟩, ⟨none, none, .store 2 (.t 4) (.t 69)⟩, ⟨some 5, none, .mov (.c (.int .i64 0))⟩] none)
 .ret)))))))))
theorem f40 : FnIs Try.prog 40 70 c40 [.cell 4 (some 2), .tmp 5] := ⟨_, Try.func40, rfl, by kernel_rfl, rfl⟩
def c41 : AC := (.seq (.reg [⟨some 3, none, .box (.t 0)⟩, ⟨some 6, none, .alloc [.sl 1 [] (.exact 0), .sl 2 [] (.exact 0)]⟩, ⟨some 7, none, .mov (.c (.int .i64 0))⟩] none)
 (.scope (.seq (.seq (.reg [⟨some 15, none, .load (some 2) (.t 3)⟩, ⟨some 16, none, .call 43 [(.t 15)]⟩, ⟨some 8, none, .mov (.t 16)⟩] none)
 (.seq (.reg [⟨some 17, none, .mov (.t 8)⟩, ⟨some 18, none, .bin .neq (.t 17) (.c (.int .i64 0))⟩] none)
 (.cond (.t 18) (.seq (.reg [⟨some 19, none, .build [.sl 1 [] (.exact 0), .sl 2 [] (.exact 0)] []⟩, ⟨some 20, none, .mov (.t 8)⟩, ⟨none, none, .store 2 (.t 6) (.t 19)⟩, ⟨some 7, none, .mov (.t 20)⟩] none)
 .ret) .skip)))
 (.seq (.reg [⟨some 21, none, .mov (.t 1)⟩, ⟨some 22, none, .mov (.t 2)⟩, ⟨some 23, none, .build [.str [], .str []] [(0, 1, (.t 21)), (1, 1, (.t 22))]⟩, ⟨some 9, none, .alloc [.str [], .str []]⟩, ⟨none, none, .store 2 (.t 9) (.t 23)⟩] none)
 (.seq (.reg [⟨some 24, none, .faddr 1 (.t 3)⟩, ⟨some 25, none, .load none (.t 24)⟩, ⟨some 26, none, .call 84 [(.t 25)]⟩, ⟨some 10, none, .mov (.t 26)⟩] none)
 (.seq (.seq (.reg [⟨some 27, none, .load (some 2) (.t 9)⟩, ⟨some 28, none, .call 87 [(.t 27)]⟩, ⟨some 29, none, .un .not (.t 28)⟩] none)
 (.cond (.t 29) (.seq (.reg [⟨some 30, none, .faddr 0 (.t 3)⟩, ⟨some 31, none, .load none (.t 30)⟩, ⟨some 32, none, .call 61 [(.t 31)]⟩, ⟨some 33, none, .mov (.t 10)⟩, ⟨some 34, none, .call 83 [(.t 32), (.t 33)]⟩, ⟨some 35, none, .ext (.t 34) 0⟩, ⟨some 36, none, .ext (.t 34) 1⟩, ⟨none, none, .store 2 (.t 6) (.t 35)⟩, ⟨some 7, none, .mov (.t 36)⟩] none)
 .ret) .skip))
 (.seq (.reg [⟨some 11, none, .mov (.c (.sl 2 [] (.exact 0)))⟩] none)
 (.seq (.reg [⟨some 12, none, .mov (.c (.bool false))⟩] none)
 (.seq (.label 0)
 (.seq (.seq (.reg [⟨some 37, none, .mov (.t 10)⟩, ⟨some 38, none, .len false (.t 37)⟩, ⟨some 39, none, .mov (.c (.int .i64 0))⟩] none)
 (.block 0 (.loop (.seq (.reg [⟨some 40, none, .bin .lss (.t 39) (.t 38)⟩] none)
 (.seq (.cond (.t 40) .skip (.exit 0))
 (.seq (.block 1 (.seq (.reg [⟨some 41, none, .iaddr 2 (.t 37) (.t 39)⟩, ⟨some 42, none, .load (some 2) (.t 41)⟩, ⟨some 14, none, .alloc [.str [], .str []]⟩, ⟨none, none, .store 2 (.t 14) (.t 42)⟩] none)
 (.seq (.block 2 (.seq (.reg [⟨some 44, none, .load (some 2) (.t 14)⟩, ⟨some 45, none, .load (some 2) (.t 9)⟩, ⟨some 46, none, .call 88 [(.t 44), (.t 45)]⟩, ⟨some 43, none, .mov (.t 46)⟩] none)
 (.cond (.t 43) (.seq (.reg [⟨some 47, none, .mov (.t 11)⟩, ⟨some 48, none, .load (some 2) (.t 14)⟩, ⟨some 49, none, .buildSl 2 [(.t 48)]⟩, ⟨some 50, none, .app false 2 32 (.t 47) (.t 49)⟩, ⟨some 11, none, .mov (.t 50)⟩] none)
 (.exit 1)) (.seq (.reg [⟨some 52, none, .load (some 2) (.t 9)⟩, ⟨some 53, none, .load (some 2) (.t 14)⟩, ⟨some 54, none, .call 88 [(.t 52), (.t 53)]⟩, ⟨some 55, none, .un .not (.t 54)⟩, ⟨some 51, none, .mov (.t 55)⟩] none)
 (.cond (.t 51) (.seq (.reg [⟨some 56, none, .load (some 2) (.t 9)⟩, ⟨some 57, none, .load (some 2) (.t 14)⟩, ⟨some 58, none, .call 89 [(.t 56), (.t 57)]⟩, ⟨none, none, .store 2 (.t 9) (.t 58)⟩] none)
 (.exit 1)) (.seq (.reg [⟨some 60, none, .mov (.t 12)⟩, ⟨some 61, none, .un .not (.t 60)⟩, ⟨some 59, none, .mov (.t 61)⟩] none)
 (.cond (.t 59) (.seq (.reg [⟨some 62, none, .mov (.t 11)⟩, ⟨some 63, none, .load (some 2) (.t 9)⟩, ⟨some 64, none, .buildSl 2 [(.t 63)]⟩, ⟨some 65, none, .app false 2 32 (.t 62) (.t 64)⟩, ⟨some 11, none, .mov (.t 65)⟩] none)
 (.reg [⟨some 12, none, .mov (.c (.bool true))⟩] none)) .skip)))))))
 (.reg [⟨some 66, none, .mov (.t 11)⟩, ⟨some 67, none, .load (some 2) (.t 14)⟩, ⟨some 68, none, .buildSl 2 [(.t 67)]⟩, ⟨some 69, none, .app false 2 32 (.t 66) (.t 68)⟩, ⟨some 11, none, .mov (.t 69)⟩] none))))
 (.reg [⟨some 70, none, .bin .add (.t 39) (.c (.int .i64 1))⟩, ⟨some 39, none, .mov (.t 70)⟩] none)))))))
 (.seq (.seq (.reg [⟨some 71, none, .mov (.t 12)⟩, ⟨some 72, none, .un .not (.t 71)⟩] none)
 (.cond (.t 72) (.reg [⟨some 73, none, .mov (.t 11)⟩, ⟨some 74, none, .load (some 2) (.t 9)⟩, ⟨some 75, none, .buildSl 2 [(.t 74)]⟩, ⟨some 76, none, .app false 2 32 (.t 73) (.t 75)⟩, ⟨some 11, none, .mov (.t 76)⟩] none) .skip))
 (.seq (.reg [⟨some 77, none, .faddr 0 (.t 3)⟩, ⟨some 78, none, .load none (.t 77)⟩, ⟨some 79, none, .call 61 [(.t 78)]⟩, ⟨some 80, none, .mov (.t 11)⟩, ⟨some 81, none, .call 83 [(.t 79), (.t 80)]⟩, ⟨some 82, none, .ext (.t 81) 0⟩, ⟨some 83, none, .ext (.t 81) 1⟩, ⟨none, none, .store 2 (.t 6) (.t 82)⟩, ⟨some 7, none, .mov (.t 83)⟩] none)
 .ret))))))))))))
theorem f41 : FnIs Try.prog 41 84 c41 [.cell 6 (some 2), .tmp 7] := ⟨_, Try.func41, rfl, by kernel_rfl, rfl⟩
def c42 : AC := (.seq (.reg [⟨some 3, none, .box (.t 0)⟩, ⟨some 6, none, .alloc [.sl 1 [] (.exact 0), .sl 2 [] (.exact 0)]⟩, ⟨some 7, none, .mov (.c (.int .i64 0))⟩] none)
 (.seq (.seq (.reg [⟨some 15, none, .load (some 2) (.t 3)⟩, ⟨some 16, none, .call 85 [(.t 15)]⟩, ⟨some 17, none, .un .not (.t 16)⟩] none)
 (.cond (.t 17) (.seq (.reg [⟨some 18, none, .build [.sl 1 [] (.exact 0), .sl 2 [] (.exact 0)] []⟩, ⟨none, none, .store 2 (.t 6) (.t 18)⟩, ⟨some 7, none, .mov (.c (.int .i64 4))⟩] none)
 .ret) .skip))
 (.seq (.reg [⟨some 19, none, .mov (.t 1)⟩, ⟨some 20, none, .mov (.t 2)⟩, ⟨some 21, none, .build [.str [], .str []] [(0, 1, (.t 19)), (1, 1, (.t 20))]⟩, ⟨some 8, none, .alloc [.str [], .str []]⟩, ⟨none, none, .store 2 (.t 8) (.t 21)⟩] none)
 (.seq (.seq (.reg [⟨some 22, none, .load (some 2) (.t 8)⟩, ⟨some 23, none, .call 90 [(.t 22)]⟩, ⟨some 24, none, .un .not (.t 23)⟩] none)
 (.cond (.t 24) (.seq (.reg [⟨some 25, none, .load (some 2) (.t 3)⟩, ⟨none, none, .store 2 (.t 6) (.t 25)⟩, ⟨some 7, none, .mov (.c (.int .i64 0))⟩] none)
 .ret) .skip))
 (.seq (.reg [⟨some 9, none, .mov (.c (.sl 2 [] (.exact 0)))⟩, ⟨some 10, none, .mov (.c (.sl 2 [] (.exact 0)))⟩] none)
 (.seq (.seq (.reg [⟨some 11, none, .mov (.c (.int .i64 0))⟩] none)
 (.block 0 (.loop (.seq (.seq (.reg [⟨some 26, none, .mov (.t 11)⟩, ⟨some 27, none, .faddr 1 (.t 3)⟩, ⟨some 28, none, .load none (.t 27)⟩, ⟨some 29, none, .len false (.t 28)⟩, ⟨some 30, none, .bin .lss (.t 26) (.t 29)⟩] none)
 (.cond (.t 30) .skip (.exit 0)))
 (.seq (.block 1 (.seq (.reg [⟨some 33, none, .faddr 1 (.t 3)⟩, ⟨some 34, none, .load none (.t 33)⟩, ⟨some 35, none, .mov (.t 11)⟩, ⟨some 36, none, .iaddr 2 (.t 34) (.t 35)⟩, ⟨some 37, none, .load (some 2) (.t 36)⟩, ⟨some 12, none, .alloc [.str [], .str []]⟩, ⟨none, none, .store 2 (.t 12) (.t 37)⟩] none)
 (.block 2 (.seq (.reg [⟨some 65, none, .load (some 2) (.t 12)⟩, ⟨some 66, none, .load (some 2) (.t 8)⟩, ⟨some 67, none, .call 91 [(.t 65), (.t 66)]⟩, ⟨some 64, none, .mov (.t 67)⟩] none)
 (.cond (.t 64) (.reg [⟨some 68, none, .mov (.t 9)⟩, ⟨some 69, none, .load (some 2) (.t 12)⟩, ⟨some 70, none, .buildSl 2 [(.t 69)]⟩, ⟨some 71, none, .app false 2 32 (.t 68) (.t 70)⟩, ⟨some 9, none, .mov (.t 71)⟩] none) (.seq (.reg [⟨some 73, none, .load (some 2) (.t 8)⟩, ⟨some 74, none, .load (some 2) (.t 12)⟩, ⟨some 75, none, .call 91 [(.t 73), (.t 74)]⟩, ⟨some 72, none, .mov (.t 75)⟩] none)
 (.cond (.t 72) (.reg [⟨some 76, none, .mov (.t 10)⟩, ⟨some 77, none, .load (some 2) (.t 12)⟩, ⟨some 78, none, .buildSl 2 [(.t 77)]⟩, ⟨some 79, none, .app false 2 32 (.t 76) (.t 78)⟩, ⟨some 10, none, .mov (.t 79)⟩] none) (.seq (.seq (.reg [⟨some 38, none, .faddr 0 (.t 12)⟩, ⟨some 39, none, .load none (.t 38)⟩, ⟨some 40, none, .faddr 0 (.t 8)⟩, ⟨some 41, none, .load none (.t 40)⟩, ⟨some 42, none, .call 66 [(.t 39), (.t 41)]⟩] none)
 (.cond (.t 42) (.reg [⟨some 43, none, .faddr 0 (.t 12)⟩, ⟨some 44, none, .load none (.t 43)⟩, ⟨some 45, none, .faddr 0 (.t 8)⟩, ⟨none, none, .store 1 (.t 45) (.t 44)⟩] none) .skip))
 (.seq (.reg [⟨some 46, none, .faddr 1 (.t 12)⟩, ⟨some 47, none, .load none (.t 46)⟩, ⟨some 48, none, .bin .eql (.t 47) (.c (.str []))⟩, ⟨some 49, none, .mov (.t 48)⟩, ⟨some 50, some (49, false), .faddr 1 (.t 8)⟩, ⟨some 51, some (49, false), .load none (.t 50)⟩, ⟨some 52, some (49, false), .bin .neq (.t 51) (.c (.str []))⟩, ⟨some 53, some (49, false), .mov (.t 52)⟩, ⟨some 54, some (53, true), .faddr 1 (.t 8)⟩, ⟨some 55, some (53, true), .load none (.t 54)⟩, ⟨some 56, some (53, true), .faddr 1 (.t 12)⟩, ⟨some 57, some (53, true), .load none (.t 56)⟩, ⟨some 58, some (53, true), .call 66 [(.t 55), (.t 57)]⟩, ⟨some 59, some (49, false), .pick (.t 53) (.t 58) (.c (.bool false))⟩, ⟨some 60, none, .pick (.t 49) (.c (.bool true)) (.t 59)⟩] none)
 (.cond (.t 60) (.reg [⟨some 61, none, .faddr 1 (.t 12)⟩, ⟨some 62, none, .load none (.t 61)⟩, ⟨some 63, none, .faddr 1 (.t 8)⟩, ⟨none, none, .store 1 (.t 63) (.t 62)⟩] none) .skip))))))))))
 (.reg [⟨some 31, none, .mov (.t 11)⟩, ⟨some 32, none, .bin .add (.t 31) (.c (.int .i64 1))⟩, ⟨some 11, none, .mov (.t 32)⟩] none))))))
 (.seq (.reg [⟨some 81, none, .faddr 0 (.t 3)⟩, ⟨some 82, none, .load none (.t 81)⟩, ⟨some 83, none, .mov (.t 9)⟩, ⟨some 84, none, .load (some 2) (.t 8)⟩, ⟨some 85, none, .buildSl 2 [(.t 84)]⟩, ⟨some 86, none, .app false 2 32 (.t 83) (.t 85)⟩, ⟨some 87, none, .mov (.t 10)⟩, ⟨some 88, none, .app false 2 32 (.t 86) (.t 87)⟩, ⟨some 89, none, .call 86 [(.t 82), (.t 88)]⟩, ⟨some 80, none, .mov (.t 89)⟩, ⟨some 90, none, .ext (.t 80) 0⟩, ⟨some 91, none, .ext (.t 80) 1⟩, ⟨some 13, none, .alloc [.sl 1 [] (.exact 0), .sl 2 [] (.exact 0)]⟩, ⟨none, none, .store 2 (.t 13) (.t 90)⟩, ⟨some 14, none, .mov (.t 91)⟩] (some [(1, 3), (1, 4), (1, 5), (1, 7), (1, 12), (3, 12), (4, 12), (5, 12), (7, 12), (8, 12)]))
 (.seq (.seq (.reg [⟨some 92, none, .mov (.t 14)⟩, ⟨some 93, none, .un .not (.t 92)⟩] none)
 (.cond (.t 93) (.seq (.reg [⟨some 94, none, .build [.sl 1 [] (.exact 0), .sl 2 [] (.exact 0)] []⟩, ⟨none, none, .store 2 (.t 6) (.t 94)⟩, ⟨some 7, none, .mov (.c (.int .i64 9))⟩] none)
 .ret) .skip))
 (.seq (.reg [⟨some 95, none, .load (some 2) (.t 13)⟩, ⟨none, none, .store 2 (.t 6) (.t 95)⟩, ⟨some 7, none, .mov (.c (.int .i64 0))⟩] none)
 .ret)))))))))
theorem f42 : FnIs Try.prog 42 96 c42 [.cell 6 (some 2), .tmp 7] := ⟨_, Try.func42, rfl, by kernel_rfl, rfl⟩
def c43 : AC := (.seq (.reg [⟨some 1, none, .box (.t 0)⟩, ⟨some 2, none, .mov (.c (.int .i64 0))⟩] none)
 (.seq (.seq (.reg [⟨some 7, none, .faddr 0 (.t 1)⟩, ⟨some 8, none, .load none (.t 7)⟩, ⟨some 9, none, .len false (.t 8)⟩, ⟨some 10, none, .bin .gtr (.t 9) (.c (.int .i64 64))⟩, ⟨some 11, none, .mov (.t 10)⟩, ⟨some 12, some (11, false), .faddr 1 (.t 1)⟩, ⟨some 13, some (11, false), .load none (.t 12)⟩, ⟨some 14, some (11, false), .len false (.t 13)⟩, ⟨some 15, some (11, false), .bin .gtr (.t 14) (.c (.int .i64 64))⟩, ⟨some 16, none, .pick (.t 11) (.c (.bool true)) (.t 15)⟩] none)
 (.cond (.t 16) (.seq (.reg [⟨some 2, none, .mov (.c (.int .i64 4))⟩] none)
 .ret) .skip))
 (.seq (.seq (.reg [⟨some 17, none, .faddr 1 (.t 1)⟩, ⟨some 18, none, .load none (.t 17)⟩, ⟨some 19, none, .len false (.t 18)⟩, ⟨some 20, none, .mov (.c (.int .i64 0))⟩] none)
 (.block 0 (.loop (.seq (.reg [⟨some 21, none, .bin .lss (.t 20) (.t 19)⟩] none)
 (.seq (.cond (.t 21) .skip (.exit 0))
 (.seq (.block 1 (.seq (.reg [⟨some 22, none, .mov (.t 20)⟩, ⟨some 23, none, .iaddr 2 (.t 18) (.t 20)⟩, ⟨some 24, none, .load (some 2) (.t 23)⟩, ⟨some 4, none, .alloc [.str [], .str []]⟩, ⟨some 3, none, .mov (.t 22)⟩, ⟨none, none, .store 2 (.t 4) (.t 24)⟩] none)
 (.seq (.reg [⟨some 25, none, .load (some 2) (.t 4)⟩, ⟨some 26, none, .call 87 [(.t 25)]⟩, ⟨some 27, none, .un .not (.t 26)⟩, ⟨some 28, none, .mov (.t 27)⟩, ⟨some 29, some (28, false), .mov (.t 3)⟩, ⟨some 30, some (28, false), .bin .gtr (.t 29) (.c (.int .i64 0))⟩, ⟨some 31, some (28, false), .mov (.t 30)⟩, ⟨some 32, some (31, true), .faddr 1 (.t 1)⟩, ⟨some 33, some (31, true), .load none (.t 32)⟩, ⟨some 34, some (31, true), .mov (.t 3)⟩, ⟨some 35, some (31, true), .bin .sub (.t 34) (.c (.int .i64 1))⟩, ⟨some 36, some (31, true), .iaddr 2 (.t 33) (.t 35)⟩, ⟨some 37, some (31, true), .load (some 2) (.t 36)⟩, ⟨some 38, some (31, true), .load (some 2) (.t 4)⟩, ⟨some 39, some (31, true), .call 88 [(.t 37), (.t 38)]⟩, ⟨some 40, some (31, true), .un .not (.t 39)⟩, ⟨some 41, some (28, false), .pick (.t 31) (.t 40) (.c (.bool false))⟩, ⟨some 42, none, .pick (.t 28) (.c (.bool true)) (.t 41)⟩] (some [(8, 13), (12, 13)]))
 (.cond (.t 42) (.seq (.reg [⟨some 2, none, .mov (.c (.int .i64 4))⟩] none)
 .ret) .skip))))
 (.reg [⟨some 43, none, .bin .add (.t 20) (.c (.int .i64 1))⟩, ⟨some 20, none, .mov (.t 43)⟩] none)))))))
 (.seq (.seq (.reg [⟨some 44, none, .faddr 0 (.t 1)⟩, ⟨some 45, none, .load none (.t 44)⟩, ⟨some 46, none, .len false (.t 45)⟩, ⟨some 47, none, .mov (.c (.int .i64 0))⟩] none)
 (.block 2 (.loop (.seq (.reg [⟨some 48, none, .bin .lss (.t 47) (.t 46)⟩] none)
 (.seq (.cond (.t 48) .skip (.exit 2))
 (.seq (.block 3 (.seq (.reg [⟨some 49, none, .mov (.t 47)⟩, ⟨some 50, none, .iaddr 1 (.t 45) (.t 47)⟩, ⟨some 51, none, .load none (.t 50)⟩, ⟨some 5, none, .mov (.t 49)⟩, ⟨some 6, none, .mov (.t 51)⟩] none)
 (.seq (.reg [⟨some 52, none, .mov (.t 5)⟩, ⟨some 53, none, .bin .gtr (.t 52) (.c (.int .i64 0))⟩, ⟨some 54, none, .mov (.t 53)⟩, ⟨some 55, some (54, true), .faddr 0 (.t 1)⟩, ⟨some 56, some (54, true), .load none (.t 55)⟩, ⟨some 57, some (54, true), .mov (.t 5)⟩, ⟨some 58, some (54, true), .bin .sub (.t 57) (.c (.int .i64 1))⟩, ⟨some 59, some (54, true), .iaddr 1 (.t 56) (.t 58)⟩, ⟨some 60, some (54, true), .load none (.t 59)⟩, ⟨some 61, some (54, true), .mov (.t 6)⟩, ⟨some 62, some (54, true), .bin .geq (.t 60) (.t 61)⟩, ⟨some 63, none, .pick (.t 54) (.t 62) (.c (.bool false))⟩, ⟨some 64, none, .mov (.t 63)⟩, ⟨some 65, some (64, false), .faddr 1 (.t 1)⟩, ⟨some 66, some (64, false), .load none (.t 65)⟩, ⟨some 67, some (64, false), .mov (.t 6)⟩, ⟨some 68, some (64, false), .call 92 [(.t 66), (.t 67)]⟩, ⟨some 69, none, .pick (.t 64) (.c (.bool true)) (.t 68)⟩] none)
 (.cond (.t 69) (.seq (.reg [⟨some 2, none, .mov (.c (.int .i64 4))⟩] none)
 .ret) .skip))))
 (.reg [⟨some 70, none, .bin .add (.t 47) (.c (.int .i64 1))⟩, ⟨some 47, none, .mov (.t 70)⟩] none)))))))
 (.seq (.reg [⟨some 2, none, .mov (.c (.int .i64 0))⟩] none)
 .ret)))))
theorem f43 : FnIs Try.prog 43 71 c43 [.tmp 2] := ⟨_, Try.func43, rfl, by kernel_rfl, rfl⟩
def c44 : AC := (.seq (.reg [⟨some 1, none, .box (.t 0)⟩, ⟨some 2, none, .mov (.c (.int .i64 0))⟩] none)
 (.seq (.seq (.reg [⟨some 3, none, .load (some 2) (.t 1)⟩, ⟨some 4, none, .call 85 [(.t 3)]⟩, ⟨some 5, none, .un .not (.t 4)⟩] none)
 (.cond (.t 5) (.seq (.reg [⟨some 2, none, .mov (.c (.int .i64 4))⟩] none)
 .ret) .skip))
 (.seq (.reg [⟨some 2, none, .mov (.c (.int .i64 0))⟩] none)
 .ret)))
theorem f44 : FnIs Try.prog 44 6 c44 [.tmp 2] := ⟨_, Try.func44, rfl, by kernel_rfl, rfl⟩
def c45 : AC := (.seq (.reg [⟨some 2, none, .box (.t 0)⟩, ⟨some 3, none, .box (.t 1)⟩, ⟨some 4, none, .mov (.c (.bool false))⟩] none)
 (.seq (.seq (.reg [⟨some 7, none, .faddr 0 (.t 2)⟩, ⟨some 8, none, .load none (.t 7)⟩, ⟨some 9, none, .len false (.t 8)⟩, ⟨some 10, none, .faddr 0 (.t 3)⟩, ⟨some 11, none, .load none (.t 10)⟩, ⟨some 12, none, .len false (.t 11)⟩, ⟨some 13, none, .bin .neq (.t 9) (.t 12)⟩, ⟨some 14, none, .mov (.t 13)⟩, ⟨some 15, some (14, false), .faddr 1 (.t 2)⟩, ⟨some 16, some (14, false), .load none (.t 15)⟩, ⟨some 17, some (14, false), .len false (.t 16)⟩, ⟨some 18, some (14, false), .faddr 1 (.t 3)⟩, ⟨some 19, some (14, false), .load none (.t 18)⟩, ⟨some 20, some (14, false), .len false (.t 19)⟩, ⟨some 21, some (14, false), .bin .neq (.t 17) (.t 20)⟩, ⟨some 22, none, .pick (.t 14) (.c (.bool true)) (.t 21)⟩] none)
 (.cond (.t 22) (.seq (.reg [⟨some 4, none, .mov (.c (.bool false))⟩] none)
 .ret) .skip))
 (.seq (.seq (.reg [⟨some 5, none, .mov (.c (.int .i64 0))⟩] none)
 (.block 0 (.loop (.seq (.seq (.reg [⟨some 23, none, .mov (.t 5)⟩, ⟨some 24, none, .faddr 0 (.t 2)⟩, ⟨some 25, none, .load none (.t 24)⟩, ⟨some 26, none, .len false (.t 25)⟩, ⟨some 27, none, .bin .lss (.t 23) (.t 26)⟩] none)
 (.cond (.t 27) .skip (.exit 0)))
 (.seq (.block 1 (.seq (.reg [⟨some 30, none, .faddr 0 (.t 2)⟩, ⟨some 31, none, .load none (.t 30)⟩, ⟨some 32, none, .mov (.t 5)⟩, ⟨some 33, none, .iaddr 1 (.t 31) (.t 32)⟩, ⟨some 34, none, .load none (.t 33)⟩, ⟨some 35, none, .faddr 0 (.t 3)⟩, ⟨some 36, none, .load none (.t 35)⟩, ⟨some 37, none, .mov (.t 5)⟩, ⟨some 38, none, .iaddr 1 (.t 36) (.t 37)⟩, ⟨some 39, none, .load none (.t 38)⟩, ⟨some 40, none, .bin .neq (.t 34) (.t 39)⟩] (some [(1, 6), (4, 6), (1, 9), (4, 9)]))
 (.cond (.t 40) (.seq (.reg [⟨some 4, none, .mov (.c (.bool false))⟩] none)
 .ret) .skip)))
 (.reg [⟨some 28, none, .mov (.t 5)⟩, ⟨some 29, none, .bin .add (.t 28) (.c (.int .i64 1))⟩, ⟨some 5, none, .mov (.t 29)⟩] none))))))
 (.seq (.seq (.reg [⟨some 6, none, .mov (.c (.int .i64 0))⟩] none)
 (.block 2 (.loop (.seq (.seq (.reg [⟨some 41, none, .mov (.t 6)⟩, ⟨some 42, none, .faddr 1 (.t 2)⟩, ⟨some 43, none, .load none (.t 42)⟩, ⟨some 44, none, .len false (.t 43)⟩, ⟨some 45, none, .bin .lss (.t 41) (.t 44)⟩] none)
 (.cond (.t 45) .skip (.exit 2)))
 (.seq (.block 3 (.seq (.reg [⟨some 48, none, .faddr 1 (.t 2)⟩, ⟨some 49, none, .load none (.t 48)⟩, ⟨some 50, none, .mov (.t 6)⟩, ⟨some 51, none, .iaddr 2 (.t 49) (.t 50)⟩, ⟨some 52, none, .load (some 2) (.t 51)⟩, ⟨some 53, none, .faddr 1 (.t 3)⟩, ⟨some 54, none, .load none (.t 53)⟩, ⟨some 55, none, .mov (.t 6)⟩, ⟨some 56, none, .iaddr 2 (.t 54) (.t 55)⟩, ⟨some 57, none, .load (some 2) (.t 56)⟩, ⟨some 58, none, .eqA true [.str, .str] (.t 52) (.t 57)⟩] (some [(1, 6), (4, 6), (1, 9), (4, 9)]))
 (.cond (.t 58) (.seq (.reg [⟨some 4, none, .mov (.c (.bool false))⟩] none)
 .ret) .skip)))
 (.reg [⟨some 46, none, .mov (.t 6)⟩, ⟨some 47, none, .bin .add (.t 46) (.c (.int .i64 1))⟩, ⟨some 6, none, .mov (.t 47)⟩] none))))))
 (.seq (.reg [⟨some 4, none, .mov (.c (.bool true))⟩] none)
 .ret)))))
theorem f45 : FnIs Try.prog 45 59 c45 [.tmp 4] := ⟨_, Try.func45, rfl, by kernel_rfl, rfl⟩
def c46 : AC := (.seq (.reg [⟨some 2, none, .box (.t 0)⟩, ⟨some 4, none, .mov (.c (.bool false))⟩] none)
 (.seq (.reg [⟨some 5, none, .load (some 2) (.t 2)⟩, ⟨some 6, none, .call 43 [(.t 5)]⟩, ⟨some 7, none, .bin .eql (.t 6) (.c (.int .i64 0))⟩, ⟨some 8, none, .mov (.t 7)⟩, ⟨some 9, some (8, true), .load (some 2) (.t 2)⟩, ⟨some 10, some (8, true), .mov (.t 1)⟩, ⟨some 11, some (8, true), .call 93 [(.t 9), (.t 10)]⟩, ⟨some 12, none, .pick (.t 8) (.t 11) (.c (.bool false))⟩, ⟨some 4, none, .mov (.t 12)⟩] none)
 .ret))
theorem f46 : FnIs Try.prog 46 13 c46 [.tmp 4] := ⟨_, Try.func46, rfl, by kernel_rfl, rfl⟩
def c47 : AC := (.seq (.reg [⟨some 2, none, .box (.t 0)⟩, ⟨some 4, none, .mov (.c (.bool false))⟩] none)
 (.seq (.seq (.reg [⟨some 6, none, .load (some 2) (.t 2)⟩, ⟨some 7, none, .call 85 [(.t 6)]⟩, ⟨some 8, none, .un .not (.t 7)⟩] none)
 (.cond (.t 8) (.seq (.reg [⟨some 4, none, .mov (.c (.bool false))⟩] none)
 .ret) .skip))
 (.seq (.seq (.reg [⟨some 5, none, .mov (.c (.int .i64 0))⟩] none)
 (.block 0 (.loop (.seq (.seq (.reg [⟨some 9, none, .mov (.t 5)⟩, ⟨some 10, none, .faddr 0 (.t 2)⟩, ⟨some 11, none, .load none (.t 10)⟩, ⟨some 12, none, .len false (.t 11)⟩, ⟨some 13, none, .bin .lss (.t 9) (.t 12)⟩] none)
 (.cond (.t 13) .skip (.exit 0)))
 (.seq (.block 1 (.seq (.reg [⟨some 16, none, .faddr 0 (.t 2)⟩, ⟨some 17, none, .load none (.t 16)⟩, ⟨some 18, none, .mov (.t 5)⟩, ⟨some 19, none, .iaddr 1 (.t 17) (.t 18)⟩, ⟨some 20, none, .load none (.t 19)⟩, ⟨some 21, none, .mov (.t 1)⟩, ⟨some 22, none, .bin .eql (.t 20) (.t 21)⟩] none)
 (.cond (.t 22) (.seq (.reg [⟨some 4, none, .mov (.c (.bool true))⟩] none)
 .ret) .skip)))
 (.reg [⟨some 14, none, .mov (.t 5)⟩, ⟨some 15, none, .bin .add (.t 14) (.c (.int .i64 1))⟩, ⟨some 5, none, .mov (.t 15)⟩] none))))))
 (.seq (.reg [⟨some 23, none, .faddr 1 (.t 2)⟩, ⟨some 24, none, .load none (.t 23)⟩, ⟨some 25, none, .mov (.t 1)⟩, ⟨some 26, none, .call 94 [(.t 24), (.t 25)]⟩, ⟨some 4, none, .mov (.t 26)⟩] none)
 .ret))))
theorem f47 : FnIs Try.prog 47 27 c47 [.tmp 4] := ⟨_, Try.func47, rfl, by kernel_rfl, rfl⟩
def c48 : AC := (.seq (.reg [⟨some 2, none, .box (.t 0)⟩, ⟨some 4, none, .mov (.c (.bool false))⟩] none)
 (.seq (.reg [⟨some 5, none, .load (some 2) (.t 2)⟩, ⟨some 6, none, .call 43 [(.t 5)]⟩, ⟨some 7, none, .bin .eql (.t 6) (.c (.int .i64 0))⟩, ⟨some 8, none, .mov (.t 7)⟩, ⟨some 9, some (8, true), .mov (.t 1)⟩, ⟨some 10, some (8, true), .mkfn (.func 96) [] [(.t 2)]⟩, ⟨some 11, some (8, true), .call 95 [(.t 9), (.t 10)]⟩, ⟨some 12, none, .pick (.t 8) (.t 11) (.c (.bool false))⟩, ⟨some 4, none, .mov (.t 12)⟩] none)
 .ret))
theorem f48 : FnIs Try.prog 48 13 c48 [.tmp 4] := ⟨_, Try.func48, rfl, by kernel_rfl, rfl⟩
def c49 : AC := (.seq (.reg [⟨some 2, none, .box (.t 0)⟩, ⟨some 4, none, .mov (.c (.bool false))⟩] none)
 (.seq (.seq (.reg [⟨some 5, none, .mov (.c (.int .i64 0))⟩] none)
 (.block 0 (.loop (.seq (.seq (.reg [⟨some 6, none, .mov (.t 5)⟩, ⟨some 7, none, .mov (.t 1)⟩, ⟨some 8, none, .len false (.t 7)⟩, ⟨some 9, none, .bin .lss (.t 6) (.t 8)⟩] none)
 (.cond (.t 9) .skip (.exit 0)))
 (.seq (.block 1 (.seq (.reg [⟨some 12, none, .load (some 2) (.t 2)⟩, ⟨some 13, none, .mov (.t 1)⟩, ⟨some 14, none, .mov (.t 5)⟩, ⟨some 15, none, .iaddr 3 (.t 13) (.t 14)⟩, ⟨some 16, none, .faddr 0 (.t 15)⟩, ⟨some 17, none, .load none (.t 16)⟩, ⟨some 18, none, .call 47 [(.t 12), (.t 17)]⟩] (some [(0, 5)]))
 (.cond (.t 18) (.seq (.reg [⟨some 4, none, .mov (.c (.bool true))⟩] none)
 .ret) .skip)))
 (.reg [⟨some 10, none, .mov (.t 5)⟩, ⟨some 11, none, .bin .add (.t 10) (.c (.int .i64 1))⟩, ⟨some 5, none, .mov (.t 11)⟩] none))))))
 (.seq (.reg [⟨some 4, none, .mov (.c (.bool false))⟩] none)
 .ret)))
theorem f49 : FnIs Try.prog 49 19 c49 [.tmp 4] := ⟨_, Try.func49, rfl, by kernel_rfl, rfl⟩
def c50 : AC := (.seq (.reg [⟨some 3, none, .box (.t 0)⟩, ⟨some 4, none, .box (.t 1)⟩, ⟨some 5, none, .box (.t 2)⟩, ⟨some 6, none, .mov (.c (.bool false))⟩] none)
 (.seq (.seq (.reg [⟨some 7, none, .load (some 2) (.t 3)⟩, ⟨some 8, none, .call 43 [(.t 7)]⟩, ⟨some 9, none, .bin .neq (.t 8) (.c (.int .i64 0))⟩] none)
 (.cond (.t 9) (.seq (.reg [⟨some 6, none, .mov (.c (.bool false))⟩] none)
 .ret) .skip))
 (.seq (.reg [⟨some 10, none, .faddr 0 (.t 3)⟩, ⟨some 11, none, .load none (.t 10)⟩, ⟨some 12, none, .mkfn (.func 98) [] [(.t 4), (.t 5)]⟩, ⟨some 13, none, .call 97 [(.t 11), (.t 12)]⟩, ⟨some 14, none, .mov (.t 13)⟩, ⟨some 15, some (14, false), .faddr 1 (.t 3)⟩, ⟨some 16, some (14, false), .load none (.t 15)⟩, ⟨some 17, some (14, false), .mkfn (.func 100) [] [(.t 4), (.t 5)]⟩, ⟨some 18, some (14, false), .call 99 [(.t 16), (.t 17)]⟩, ⟨some 19, none, .pick (.t 14) (.c (.bool true)) (.t 18)⟩, ⟨some 6, none, .mov (.t 19)⟩] none)
 .ret)))
theorem f50 : FnIs Try.prog 50 20 c50 [.tmp 6] := ⟨_, Try.func50, rfl, by kernel_rfl, rfl⟩
def c51 : AC := (.seq (.reg [⟨some 3, none, .box (.t 0)⟩, ⟨some 4, none, .box (.t 1)⟩, ⟨some 6, none, .mov (.c (.bool false))⟩] none)
 (.seq (.seq (.reg [⟨some 7, none, .mov (.c (.int .i64 0))⟩] none)
 (.block 0 (.loop (.seq (.seq (.reg [⟨some 8, none, .mov (.t 7)⟩, ⟨some 9, none, .faddr 0 (.t 4)⟩, ⟨some 10, none, .load none (.t 9)⟩, ⟨some 11, none, .len false (.t 10)⟩, ⟨some 12, none, .bin .lss (.t 8) (.t 11)⟩] none)
 (.cond (.t 12) .skip (.exit 0)))
 (.seq (.block 1 (.seq (.reg [⟨some 15, none, .load (some 2) (.t 3)⟩, ⟨some 16, none, .faddr 0 (.t 4)⟩, ⟨some 17, none, .load none (.t 16)⟩, ⟨some 18, none, .mov (.t 7)⟩, ⟨some 19, none, .iaddr 2 (.t 17) (.t 18)⟩, ⟨some 20, none, .faddr 0 (.t 19)⟩, ⟨some 21, none, .load none (.t 20)⟩, ⟨some 22, none, .call 47 [(.t 15), (.t 21)]⟩, ⟨some 23, none, .mov (.t 22)⟩, ⟨some 24, some (23, true), .load (some 3) (.t 4)⟩, ⟨some 25, some (23, true), .faddr 0 (.t 4)⟩, ⟨some 26, some (23, true), .load none (.t 25)⟩, ⟨some 27, some (23, true), .mov (.t 7)⟩, ⟨some 28, some (23, true), .iaddr 2 (.t 26) (.t 27)⟩, ⟨some 29, some (23, true), .faddr 0 (.t 28)⟩, ⟨some 30, some (23, true), .load none (.t 29)⟩, ⟨some 31, some (23, true), .faddr 0 (.t 4)⟩, ⟨some 32, some (23, true), .load none (.t 31)⟩, ⟨some 33, some (23, true), .mov (.t 7)⟩, ⟨some 34, some (23, true), .iaddr 2 (.t 32) (.t 33)⟩, ⟨some 35, some (23, true), .faddr 0 (.t 34)⟩, ⟨some 36, some (23, true), .load none (.t 35)⟩, ⟨some 37, some (23, true), .bin .add (.t 36) (.c (.str [0]))⟩, ⟨some 38, some (23, true), .mov (.t 2)⟩, ⟨some 39, some (23, true), .call 71 [(.t 24), (.t 30), (.t 37), (.t 38)]⟩, ⟨some 40, none, .pick (.t 23) (.t 39) (.c (.bool false))⟩] (some [(0, 2), (0, 6), (9, 11), (9, 15), (9, 17), (11, 17), (15, 17), (9, 21), (11, 21), (15, 21)]))
 (.cond (.t 40) (.seq (.reg [⟨some 6, none, .mov (.c (.bool true))⟩] none)
 .ret) .skip)))
 (.reg [⟨some 13, none, .mov (.t 7)⟩, ⟨some 14, none, .bin .add (.t 13) (.c (.int .i64 1))⟩, ⟨some 7, none, .mov (.t 14)⟩] none))))))
 (.seq (.reg [⟨some 6, none, .mov (.c (.bool false))⟩] none)
 .ret)))
theorem f51 : FnIs Try.prog 51 41 c51 [.tmp 6] := ⟨_, Try.func51, rfl, by kernel_rfl, rfl⟩
def c52 : AC := (.seq (.reg [⟨some 2, none, .mov (.c (.bool false))⟩] none)
 (.seq (.reg [⟨some 3, none, .mov (.t 0)⟩, ⟨some 4, none, .eqP true (.t 3) (.c (.sc (.pointer none)))⟩, ⟨some 5, none, .mov (.t 4)⟩, ⟨some 6, some (5, true), .mov (.t 0)⟩, ⟨some 7, some (5, true), .nilck (.t 6)⟩, ⟨some 8, some (5, true), .faddr 1 (.t 7)⟩, ⟨some 9, some (5, true), .load none (.t 8)⟩, ⟨some 10, some (5, true), .eqM true (.t 9)⟩, ⟨some 11, none, .pick (.t 5) (.t 10) (.c (.bool false))⟩, ⟨some 2, none, .mov (.t 11)⟩] none)
 .ret))
theorem f52 : FnIs Try.prog 52 12 c52 [.tmp 2] := ⟨_, Try.func52, rfl, by kernel_rfl, rfl⟩
def c53 : AC := (.seq (.reg [⟨some 2, none, .mov (.c (.bool false))⟩] none)
 (.seq (.reg [⟨some 8, none, .mkmap⟩, ⟨some 3, none, .mov (.t 8)⟩] none)
 (.seq (.seq (.reg [⟨some 9, none, .mov (.t 0)⟩, ⟨some 10, none, .len false (.t 9)⟩, ⟨some 11, none, .mov (.c (.int .i64 0))⟩] none)
 (.block 0 (.loop (.seq (.reg [⟨some 12, none, .bin .lss (.t 11) (.t 10)⟩] none)
 (.seq (.cond (.t 12) .skip (.exit 0))
 (.seq (.block 1 (.seq (.reg [⟨some 13, none, .mov (.t 11)⟩, ⟨some 14, none, .iaddr 3 (.t 9) (.t 11)⟩, ⟨some 15, none, .load (some 3) (.t 14)⟩, ⟨some 5, none, .alloc [.str [], .str [], .bool false]⟩, ⟨some 4, none, .mov (.t 13)⟩, ⟨none, none, .store 3 (.t 5) (.t 15)⟩] none)
 (.seq (.reg [⟨some 17, none, .mov (.t 3)⟩, ⟨some 18, none, .faddr 0 (.t 5)⟩, ⟨some 19, none, .load none (.t 18)⟩, ⟨some 20, none, .mlook (.int .i64 0) true (.t 17) (.t 19)⟩, ⟨some 16, none, .mov (.t 20)⟩, ⟨some 21, none, .ext (.t 16) 0⟩, ⟨some 22, none, .ext (.t 16) 1⟩, ⟨some 6, none, .mov (.t 21)⟩, ⟨some 7, none, .mov (.t 22)⟩] none)
 (.seq (.seq (.reg [⟨some 23, none, .mov (.t 7)⟩, ⟨some 24, none, .mov (.t 23)⟩, ⟨some 25, some (24, false), .faddr 0 (.t 5)⟩, ⟨some 26, some (24, false), .load none (.t 25)⟩, ⟨some 27, some (24, false), .len true (.t 26)⟩, ⟨some 28, some (24, false), .bin .gtr (.t 27) (.c (.int .i64 128))⟩, ⟨some 29, none, .pick (.t 24) (.c (.bool true)) (.t 28)⟩, ⟨some 30, none, .mov (.t 29)⟩, ⟨some 31, some (30, false), .faddr 1 (.t 5)⟩, ⟨some 32, some (30, false), .load none (.t 31)⟩, ⟨some 33, some (30, false), .len true (.t 32)⟩, ⟨some 34, some (30, false), .bin .gtr (.t 33) (.c (.int .i64 200))⟩, ⟨some 35, none, .pick (.t 30) (.c (.bool true)) (.t 34)⟩, ⟨some 36, none, .mov (.t 35)⟩, ⟨some 37, some (36, false), .faddr 2 (.t 5)⟩, ⟨some 38, some (36, false), .load none (.t 37)⟩, ⟨some 39, some (36, false), .mov (.t 38)⟩, ⟨some 40, some (39, true), .faddr 1 (.t 5)⟩, ⟨some 41, some (39, true), .load none (.t 40)⟩, ⟨some 42, some (39, true), .bin .neq (.t 41) (.c (.str []))⟩, ⟨some 43, some (36, false), .pick (.t 39) (.t 42) (.c (.bool false))⟩, ⟨some 44, none, .pick (.t 36) (.c (.bool true)) (.t 43)⟩] none)
 (.cond (.t 44) (.seq (.reg [⟨some 2, none, .mov (.c (.bool false))⟩] none)
 .ret) .skip))
 (.reg [⟨some 45, none, .mov (.t 3)⟩, ⟨some 46, none, .faddr 0 (.t 5)⟩, ⟨some 47, none, .load none (.t 46)⟩, ⟨some 48, none, .mov (.t 4)⟩, ⟨none, none, .mput (.t 45) (.t 47) (.t 48)⟩] none)))))
 (.reg [⟨some 49, none, .bin .add (.t 11) (.c (.int .i64 1))⟩, ⟨some 11, none, .mov (.t 49)⟩] none)))))))
 (.seq (.reg [⟨some 2, none, .mov (.c (.bool true))⟩] none)
 .ret))))
theorem f53 : FnIs Try.prog 53 50 c53 [.tmp 2] := ⟨_, Try.func53, rfl, by kernel_rfl, rfl⟩
def c54 : AC := (.seq (.reg [⟨some 3, none, .box (.t 1)⟩, ⟨some 4, none, .mov (.c (.sl 3 [] (.exact 0)))⟩, ⟨some 5, none, .mov (.c (.int .i64 0))⟩] none)
 (.seq (.block 0 (.seq (.reg [⟨some 7, none, .mov (.t 0)⟩, ⟨some 8, none, .call 101 [(.t 7)]⟩, ⟨some 9, none, .bin .neq (.t 8) (.c (.int .i64 0))⟩, ⟨some 6, none, .mov (.t 9)⟩] none)
 (.cond (.t 6) (.seq (.reg [⟨some 4, none, .mov (.c (.sl 3 [] (.exact 0)))⟩, ⟨some 5, none, .mov (.c (.int .i64 4))⟩] none)
 .ret) (.seq (.reg [⟨some 11, none, .load (some 3) (.t 3)⟩, ⟨some 12, none, .call 102 [(.t 11)]⟩, ⟨some 13, none, .un .not (.t 12)⟩, ⟨some 10, none, .mov (.t 13)⟩] none)
 (.cond (.t 10) (.seq (.reg [⟨some 4, none, .mov (.c (.sl 3 [] (.exact 0)))⟩, ⟨some 5, none, .mov (.c (.int .i64 2))⟩] none)
 .ret) (.seq (.reg [⟨some 15, none, .mov (.t 0)⟩, ⟨some 16, none, .len false (.t 15)⟩, ⟨some 17, none, .bin .gtr (.t 16) (.c (.int .i64 0))⟩, ⟨some 18, none, .mov (.t 17)⟩, ⟨some 19, some (18, true), .faddr 0 (.t 3)⟩, ⟨some 20, some (18, true), .load none (.t 19)⟩, ⟨some 21, some (18, true), .mov (.t 0)⟩, ⟨some 22, some (18, true), .iaddr 3 (.t 21) (.c (.int .i64 0))⟩, ⟨some 23, some (18, true), .faddr 0 (.t 22)⟩, ⟨some 24, some (18, true), .load none (.t 23)⟩, ⟨some 25, some (18, true), .bin .leq (.t 20) (.t 24)⟩, ⟨some 26, none, .pick (.t 18) (.t 25) (.c (.bool false))⟩, ⟨some 14, none, .mov (.t 26)⟩] (some [(5, 9)]))
 (.cond (.t 14) (.seq (.reg [⟨some 4, none, .mov (.c (.sl 3 [] (.exact 0)))⟩, ⟨some 5, none, .mov (.c (.int .i64 18))⟩] none)
 .ret) .skip)))))))
 (.seq (.reg [⟨some 27, none, .load (some 3) (.t 3)⟩, ⟨some 28, none, .buildSl 3 [(.t 27)]⟩, ⟨some 29, none, .mov (.t 0)⟩, ⟨some 30, none, .buildSl 1 [(.t 28), (.t 29)]⟩, ⟨some 31, none, .call 103 [(.t 30)]⟩, ⟨some 4, none, .mov (.t 31)⟩, ⟨some 5, none, .mov (.c (.int .i64 0))⟩] none)
 .ret)))
theorem f54 : FnIs Try.prog 54 32 c54 [.tmp 4, .tmp 5] := ⟨_, Try.func54, rfl, by kernel_rfl, rfl⟩
def c55 : AC := (.seq (.reg [⟨some 9, none, .mov (.t 0)⟩, ⟨some 10, none, .nilck (.t 9)⟩, ⟨some 11, none, .faddr 0 (.t 10)⟩, ⟨some 12, none, .load none (.t 11)⟩, ⟨some 13, none, .mov (.t 1)⟩, ⟨some 14, none, .call 81 [(.t 12), (.t 13)]⟩, ⟨some 8, none, .mov (.t 14)⟩, ⟨some 15, none, .ext (.t 8) 0⟩, ⟨some 16, none, .ext (.t 8) 1⟩, ⟨some 6, none, .mov (.t 15)⟩, ⟨some 7, none, .mov (.t 16)⟩] none)
 (.block 0 (.seq (.reg [⟨some 18, none, .mov (.t 2)⟩, ⟨some 19, none, .len false (.t 18)⟩, ⟨some 20, none, .bin .eql (.t 19) (.c (.int .i64 0))⟩, ⟨some 21, none, .mov (.t 20)⟩, ⟨some 22, some (21, true), .mov (.t 7)⟩, ⟨some 23, none, .pick (.t 21) (.t 22) (.c (.bool false))⟩, ⟨some 17, none, .mov (.t 23)⟩] none)
 (.cond (.t 17) (.seq (.reg [⟨some 24, none, .mov (.t 0)⟩, ⟨some 25, none, .mov (.t 0)⟩, ⟨some 26, none, .nilck (.t 25)⟩, ⟨some 27, none, .faddr 0 (.t 26)⟩, ⟨some 28, none, .load none (.t 27)⟩, ⟨some 29, none, .mov (.t 6)⟩, ⟨some 30, none, .mov (.t 6)⟩, ⟨some 31, none, .bin .add (.t 30) (.c (.int .i64 1))⟩, ⟨some 32, none, .call 104 [(.t 28), (.t 29), (.t 31)]⟩, ⟨some 33, none, .nilck (.t 24)⟩, ⟨some 34, none, .faddr 0 (.t 33)⟩, ⟨none, none, .store 1 (.t 34) (.t 32)⟩] none)
 (.reg [⟨some 35, none, .mov (.t 0)⟩, ⟨some 36, none, .nilck (.t 35)⟩, ⟨some 37, none, .faddr 1 (.t 36)⟩, ⟨some 38, none, .load none (.t 37)⟩, ⟨some 39, none, .mov (.t 1)⟩, ⟨none, none, .mdel (.t 38) (.t 39)⟩] none)) (.seq (.reg [⟨some 41, none, .mov (.t 2)⟩, ⟨some 42, none, .len false (.t 41)⟩, ⟨some 43, none, .bin .gtr (.t 42) (.c (.int .i64 0))⟩, ⟨some 40, none, .mov (.t 43)⟩] none)
 (.cond (.t 40) (.seq (.seq (.reg [⟨some 44, none, .mov (.t 7)⟩, ⟨some 45, none, .un .not (.t 44)⟩] none)
 (.cond (.t 45) (.reg [⟨some 46, none, .mov (.t 0)⟩, ⟨some 47, none, .mov (.t 0)⟩, ⟨some 48, none, .nilck (.t 47)⟩, ⟨some 49, none, .faddr 0 (.t 48)⟩, ⟨some 50, none, .load none (.t 49)⟩, ⟨some 51, none, .mov (.t 6)⟩, ⟨some 52, none, .mov (.t 1)⟩, ⟨some 53, none, .buildSl 1 [(.t 52)]⟩, ⟨some 54, none, .call 82 [(.t 50), (.t 51), (.t 53)]⟩, ⟨some 55, none, .nilck (.t 46)⟩, ⟨some 56, none, .faddr 0 (.t 55)⟩, ⟨none, none, .store 1 (.t 56) (.t 54)⟩] none) .skip))
 (.reg [⟨some 57, none, .mov (.t 0)⟩, ⟨some 58, none, .nilck (.t 57)⟩, ⟨some 59, none, .faddr 1 (.t 58)⟩, ⟨some 60, none, .load none (.t 59)⟩, ⟨some 61, none, .mov (.t 1)⟩, ⟨some 62, none, .mov (.t 2)⟩, ⟨none, none, .mput (.t 60) (.t 61) (.t 62)⟩] none)) .skip))))))
theorem f55 : FnIs Try.prog 55 63 c55 [] := ⟨_, Try.func55, rfl, by kernel_rfl, rfl⟩
def c56 : AC := (.seq (.reg [⟨some 4, none, .mov (.c (.sl 2 [] (.exact 0)))⟩, ⟨some 5, none, .mov (.c (.int .i64 0))⟩] none)
 (.seq (.seq (.reg [⟨some 11, none, .mov (.t 0)⟩, ⟨some 12, none, .mov (.t 1)⟩, ⟨some 13, none, .call 105 [(.t 11), (.t 12)]⟩, ⟨some 10, none, .mov (.t 13)⟩, ⟨some 14, none, .ext (.t 10) 0⟩, ⟨some 15, none, .ext (.t 10) 1⟩, ⟨some 6, none, .mov (.t 14)⟩, ⟨some 7, none, .mov (.t 15)⟩] none)
 (.seq (.reg [⟨some 16, none, .mov (.t 7)⟩, ⟨some 17, none, .bin .neq (.t 16) (.c (.int .i64 0))⟩] none)
 (.cond (.t 17) (.seq (.reg [⟨some 18, none, .mov (.t 0)⟩, ⟨some 4, none, .mov (.t 18)⟩, ⟨some 5, none, .mov (.c (.int .i64 7))⟩] none)
 .ret) .skip)))
 (.seq (.reg [⟨some 8, none, .mov (.c (.sl 2 [] (.exact 0)))⟩] none)
 (.seq (.seq (.reg [⟨some 9, none, .mov (.c (.int .i64 0))⟩] none)
 (.block 0 (.loop (.seq (.seq (.reg [⟨some 19, none, .mov (.t 9)⟩, ⟨some 20, none, .mov (.t 0)⟩, ⟨some 21, none, .len false (.t 20)⟩, ⟨some 22, none, .bin .lss (.t 19) (.t 21)⟩] none)
 (.cond (.t 22) .skip (.exit 0)))
 (.seq (.block 1 (.seq (.reg [⟨some 25, none, .mov (.t 0)⟩, ⟨some 26, none, .mov (.t 9)⟩, ⟨some 27, none, .iaddr 2 (.t 25) (.t 26)⟩, ⟨some 28, none, .faddr 0 (.t 27)⟩, ⟨some 29, none, .load none (.t 28)⟩, ⟨some 30, none, .mov (.t 1)⟩, ⟨some 31, none, .bin .neq (.t 29) (.t 30)⟩] none)
 (.cond (.t 31) (.reg [⟨some 32, none, .mov (.t 8)⟩, ⟨some 33, none, .mov (.t 0)⟩, ⟨some 34, none, .mov (.t 9)⟩, ⟨some 35, none, .iaddr 2 (.t 33) (.t 34)⟩, ⟨some 36, none, .load (some 2) (.t 35)⟩, ⟨some 37, none, .buildSl 2 [(.t 36)]⟩, ⟨some 38, none, .app false 2 32 (.t 32) (.t 37)⟩, ⟨some 8, none, .mov (.t 38)⟩] none) .skip)))
 (.reg [⟨some 23, none, .mov (.t 9)⟩, ⟨some 24, none, .bin .add (.t 23) (.c (.int .i64 1))⟩, ⟨some 9, none, .mov (.t 24)⟩] none))))))
 (.seq (.reg [⟨some 39, none, .mov (.t 8)⟩, ⟨some 4, none, .mov (.t 39)⟩, ⟨some 5, none, .mov (.c (.int .i64 0))⟩] none)
 .ret)))))
theorem f56 : FnIs Try.prog 56 40 c56 [.tmp 4, .tmp 5] := ⟨_, Try.func56, rfl, by kernel_rfl, rfl⟩
def c57 : AC := (.seq (.reg [⟨some 6, none, .mov (.c (.sl 2 [] (.exact 0)))⟩, ⟨some 7, none, .mov (.c (.int .i64 0))⟩] none)
 (.seq (.seq (.reg [⟨some 11, none, .mov (.t 1)⟩, ⟨some 12, none, .len true (.t 11)⟩, ⟨some 13, none, .bin .gtr (.t 12) (.c (.int .i64 128))⟩, ⟨some 14, none, .mov (.t 13)⟩, ⟨some 15, some (14, false), .mov (.t 2)⟩, ⟨some 16, some (14, false), .len true (.t 15)⟩, ⟨some 17, some (14, false), .bin .gtr (.t 16) (.c (.int .i64 200))⟩, ⟨some 18, none, .pick (.t 14) (.c (.bool true)) (.t 17)⟩] none)
 (.cond (.t 18) (.seq (.reg [⟨some 19, none, .mov (.t 0)⟩, ⟨some 6, none, .mov (.t 19)⟩, ⟨some 7, none, .mov (.c (.int .i64 2))⟩] none)
 .ret) .skip))
 (.seq (.reg [⟨some 8, none, .mov (.c (.sl 2 [] (.exact 0)))⟩] none)
 (.seq (.reg [⟨some 9, none, .mov (.c (.bool false))⟩] none)
 (.seq (.seq (.reg [⟨some 10, none, .mov (.c (.int .i64 0))⟩] none)
 (.block 0 (.loop (.seq (.seq (.reg [⟨some 20, none, .mov (.t 10)⟩, ⟨some 21, none, .mov (.t 0)⟩, ⟨some 22, none, .len false (.t 21)⟩, ⟨some 23, none, .bin .lss (.t 20) (.t 22)⟩] none)
 (.cond (.t 23) .skip (.exit 0)))
 (.seq (.block 1 (.seq (.seq (.reg [⟨some 26, none, .mov (.t 9)⟩, ⟨some 27, none, .un .not (.t 26)⟩, ⟨some 28, none, .mov (.t 27)⟩, ⟨some 29, some (28, true), .mov (.t 0)⟩, ⟨some 30, some (28, true), .mov (.t 10)⟩, ⟨some 31, some (28, true), .iaddr 2 (.t 29) (.t 30)⟩, ⟨some 32, some (28, true), .faddr 0 (.t 31)⟩, ⟨some 33, some (28, true), .load none (.t 32)⟩, ⟨some 34, some (28, true), .mov (.t 1)⟩, ⟨some 35, some (28, true), .call 66 [(.t 33), (.t 34)]⟩, ⟨some 36, some (28, true), .un .not (.t 35)⟩, ⟨some 37, none, .pick (.t 28) (.t 36) (.c (.bool false))⟩] none)
 (.cond (.t 37) (.seq (.reg [⟨some 38, none, .mov (.t 8)⟩, ⟨some 39, none, .mov (.t 1)⟩, ⟨some 40, none, .mov (.t 2)⟩, ⟨some 41, none, .build [.str [], .str []] [(0, 1, (.t 39)), (1, 1, (.t 40))]⟩, ⟨some 42, none, .buildSl 2 [(.t 41)]⟩, ⟨some 43, none, .app false 2 32 (.t 38) (.t 42)⟩, ⟨some 8, none, .mov (.t 43)⟩] none)
 (.reg [⟨some 9, none, .mov (.c (.bool true))⟩] none)) .skip))
 (.seq (.reg [⟨some 44, none, .mov (.t 0)⟩, ⟨some 45, none, .mov (.t 10)⟩, ⟨some 46, none, .iaddr 2 (.t 44) (.t 45)⟩, ⟨some 47, none, .faddr 0 (.t 46)⟩, ⟨some 48, none, .load none (.t 47)⟩, ⟨some 49, none, .mov (.t 1)⟩, ⟨some 50, none, .bin .neq (.t 48) (.t 49)⟩] none)
 (.cond (.t 50) (.reg [⟨some 51, none, .mov (.t 8)⟩, ⟨some 52, none, .mov (.t 0)⟩, ⟨some 53, none, .mov (.t 10)⟩, ⟨some 54, none, .iaddr 2 (.t 52) (.t 53)⟩, ⟨some 55, none, .load (some 2) (.t 54)⟩, ⟨some 56, none, .buildSl 2 [(.t 55)]⟩, ⟨some 57, none, .app false 2 32 (.t 51) (.t 56)⟩, ⟨some 8, none, .mov (.t 57)⟩] none) .skip))))
 (.reg [⟨some 24, none, .mov (.t 10)⟩, ⟨some 25, none, .bin .add (.t 24) (.c (.int .i64 1))⟩, ⟨some 10, none, .mov (.t 25)⟩] none))))))
 (.seq (.seq (.reg [⟨some 58, none, .mov (.t 9)⟩, ⟨some 59, none, .un .not (.t 58)⟩] none)
 (.cond (.t 59) (.reg [⟨some 60, none, .mov (.t 8)⟩, ⟨some 61, none, .mov (.t 1)⟩, ⟨some 62, none, .mov (.t 2)⟩, ⟨some 63, none, .build [.str [], .str []] [(0, 1, (.t 61)), (1, 1, (.t 62))]⟩, ⟨some 64, none, .buildSl 2 [(.t 63)]⟩, ⟨some 65, none, .app false 2 32 (.t 60) (.t 64)⟩, ⟨some 8, none, .mov (.t 65)⟩] none) .skip))
 (.seq (.reg [⟨some 66, none, .mov (.t 8)⟩, ⟨some 6, none, .mov (.t 66)⟩, ⟨some 7, none, .mov (.c (.int .i64 0))⟩] none)
 .ret)))))))
theorem f57 : FnIs Try.prog 57 67 c57 [.tmp 6, .tmp 7] := ⟨_, Try.func57, rfl, by kernel_rfl, rfl⟩
def c58 : AC := (.seq (.reg [⟨some 4, none, .mov (.c (.int .i64 0))⟩] none)
 (.seq (.block 0 (.seq (.reg [⟨some 6, none, .mov (.t 0)⟩, ⟨some 7, none, .call 52 [(.t 6)]⟩, ⟨some 8, none, .un .not (.t 7)⟩, ⟨some 5, none, .mov (.t 8)⟩] none)
 (.cond (.t 5) (.seq (.reg [⟨some 4, none, .mov (.c (.int .i64 1))⟩] none)
 .ret) (.seq (.reg [⟨some 10, none, .mov (.t 1)⟩, ⟨some 11, none, .mov (.t 0)⟩, ⟨some 12, none, .nilck (.t 11)⟩, ⟨some 13, none, .faddr 3 (.t 12)⟩, ⟨some 14, none, .load none (.t 13)⟩, ⟨some 15, none, .bin .lss (.t 10) (.t 14)⟩, ⟨some 9, none, .mov (.t 15)⟩] none)
 (.cond (.t 9) (.seq (.reg [⟨some 4, none, .mov (.c (.int .i64 12))⟩] none)
 .ret) (.seq (.reg [⟨some 17, none, .mov (.t 1)⟩, ⟨some 18, none, .mov (.t 0)⟩, ⟨some 19, none, .nilck (.t 18)⟩, ⟨some 20, none, .faddr 2 (.t 19)⟩, ⟨some 21, none, .load none (.t 20)⟩, ⟨some 22, none, .bin .gtr (.t 17) (.t 21)⟩, ⟨some 16, none, .mov (.t 22)⟩] none)
 (.cond (.t 16) (.seq (.reg [⟨some 4, none, .mov (.c (.int .i64 13))⟩] none)
 .ret) .skip)))))))
 (.seq (.reg [⟨some 4, none, .mov (.c (.int .i64 0))⟩] none)
 .ret)))
theorem f58 : FnIs Try.prog 58 23 c58 [.tmp 4] := ⟨_, Try.func58, rfl, by kernel_rfl, rfl⟩
def c59 : AC := (.seq (.reg [⟨some 3, none, .box (.t 0)⟩, ⟨some 4, none, .box (.t 1)⟩, ⟨some 5, none, .box (.t 2)⟩, ⟨some 6, none, .mov (.c (.sc .nilFunc))⟩] none)
 (.seq (.reg [⟨some 7, none, .mkfn (.func 106) [] [(.t 3), (.t 4), (.t 5)]⟩, ⟨some 6, none, .mov (.t 7)⟩] none)
 .ret))
theorem f59 : FnIs Try.prog 59 8 c59 [.tmp 6] := ⟨_, Try.func59, rfl, by kernel_rfl, rfl⟩
def c60 : AC := (.seq (.reg [⟨some 4, none, .mov (.c (.str []))⟩, ⟨some 5, none, .mov (.c (.bool false))⟩] none)
 (.seq (.seq (.reg [⟨some 7, none, .mov (.t 0)⟩, ⟨some 8, none, .call 101 [(.t 7)]⟩, ⟨some 9, none, .bin .neq (.t 8) (.c (.int .i64 0))⟩] none)
 (.cond (.t 9) (.seq (.reg [⟨some 4, none, .mov (.c (.str []))⟩, ⟨some 5, none, .mov (.c (.bool false))⟩] none)
 .ret) .skip))
 (.seq (.reg [⟨some 10, none, .mov (.t 0)⟩, ⟨some 11, none, .mov (.t 1)⟩, ⟨some 12, none, .call 107 [(.t 10), (.t 11)]⟩, ⟨some 6, none, .mov (.t 12)⟩] none)
 (.seq (.seq (.reg [⟨some 13, none, .mov (.t 6)⟩, ⟨some 14, none, .mov (.t 0)⟩, ⟨some 15, none, .len false (.t 14)⟩, ⟨some 16, none, .bin .eql (.t 13) (.t 15)⟩] none)
 (.cond (.t 16) (.seq (.reg [⟨some 4, none, .mov (.c (.str []))⟩, ⟨some 5, none, .mov (.c (.bool false))⟩] none)
 .ret) .skip))
 (.seq (.reg [⟨some 17, none, .mov (.t 0)⟩, ⟨some 18, none, .mov (.t 6)⟩, ⟨some 19, none, .iaddr 3 (.t 17) (.t 18)⟩, ⟨some 20, none, .faddr 1 (.t 19)⟩, ⟨some 21, none, .load none (.t 20)⟩, ⟨some 22, none, .mov (.t 0)⟩, ⟨some 23, none, .mov (.t 6)⟩, ⟨some 24, none, .iaddr 3 (.t 22) (.t 23)⟩, ⟨some 25, none, .faddr 2 (.t 24)⟩, ⟨some 26, none, .load none (.t 25)⟩, ⟨some 27, none, .un .not (.t 26)⟩, ⟨some 4, none, .mov (.t 21)⟩, ⟨some 5, none, .mov (.t 27)⟩] (some [(4, 9)]))
 .ret)))))
theorem f60 : FnIs Try.prog 60 28 c60 [.tmp 4, .tmp 5] := ⟨_, Try.func60, rfl, by kernel_rfl, rfl⟩
def c61 : AC := (.seq (.reg [⟨some 2, none, .mov (.c (.sl 1 [] (.exact 0)))⟩] none)
 (.seq (.seq (.reg [⟨some 3, none, .mov (.t 0)⟩, ⟨some 4, none, .eqN false (.t 3)⟩] none)
 (.cond (.t 4) (.seq (.reg [⟨some 2, none, .mov (.c (.sl 1 [] (.exact 0)))⟩] none)
 .ret) .skip))
 (.seq (.reg [⟨some 5, none, .buildSl 1 []⟩, ⟨some 6, none, .mov (.t 0)⟩, ⟨some 7, none, .app false 1 16 (.t 5) (.t 6)⟩, ⟨some 2, none, .mov (.t 7)⟩] none)
 .ret)))
theorem f61 : FnIs Try.prog 61 8 c61 [.tmp 2] := ⟨_, Try.func61, rfl, by kernel_rfl, rfl⟩
def c62 : AC := (.seq (.reg [⟨some 4, none, .mov (.c (.sl 3 [] (.exact 0)))⟩] none)
 (.seq (.seq (.reg [⟨some 6, none, .mov (.t 0)⟩, ⟨some 7, none, .call 101 [(.t 6)]⟩, ⟨some 8, none, .bin .neq (.t 7) (.c (.int .i64 0))⟩] none)
 (.cond (.t 8) (.seq (.reg [⟨some 4, none, .mov (.c (.sl 3 [] (.exact 0)))⟩] none)
 .ret) .skip))
 (.seq (.reg [⟨some 9, none, .mov (.t 0)⟩, ⟨some 10, none, .mov (.t 1)⟩, ⟨some 11, none, .call 107 [(.t 9), (.t 10)]⟩, ⟨some 5, none, .mov (.t 11)⟩] none)
 (.seq (.seq (.reg [⟨some 12, none, .mov (.t 5)⟩, ⟨some 13, none, .mov (.t 0)⟩, ⟨some 14, none, .len false (.t 13)⟩, ⟨some 15, none, .bin .lss (.t 12) (.t 14)⟩, ⟨some 16, none, .mov (.t 15)⟩, ⟨some 17, some (16, true), .mov (.t 0)⟩, ⟨some 18, some (16, true), .mov (.t 5)⟩, ⟨some 19, some (16, true), .iaddr 3 (.t 17) (.t 18)⟩, ⟨some 20, some (16, true), .faddr 2 (.t 19)⟩, ⟨some 21, some (16, true), .load none (.t 20)⟩, ⟨some 22, some (16, true), .un .not (.t 21)⟩, ⟨some 23, none, .pick (.t 16) (.t 22) (.c (.bool false))⟩] none)
 (.cond (.t 23) (.reg [⟨some 24, none, .mov (.t 5)⟩, ⟨some 25, none, .bin .add (.t 24) (.c (.int .i64 1))⟩, ⟨some 5, none, .mov (.t 25)⟩] none) .skip))
 (.seq (.reg [⟨some 26, none, .mov (.t 0)⟩, ⟨some 27, none, .mov (.t 5)⟩, ⟨some 28, none, .mov (.t 5)⟩, ⟨some 29, none, .slc false 3 (.t 26) none (some (.t 27)) (some (.t 28))⟩, ⟨some 30, none, .call 64 [(.t 29)]⟩, ⟨some 4, none, .mov (.t 30)⟩] none)
 .ret)))))
theorem f62 : FnIs Try.prog 62 31 c62 [.tmp 4] := ⟨_, Try.func62, rfl, by kernel_rfl, rfl⟩
def c63 : AC := (.seq (.reg [⟨some 4, none, .mov (.c (.bool false))⟩] none)
 (.seq (.reg [⟨some 5, none, .mov (.t 0)⟩, ⟨some 6, none, .call 101 [(.t 5)]⟩, ⟨some 7, none, .bin .eql (.t 6) (.c (.int .i64 0))⟩, ⟨some 8, none, .mov (.t 7)⟩, ⟨some 9, some (8, true), .mov (.t 0)⟩, ⟨some 10, some (8, true), .mov (.t 1)⟩, ⟨some 11, some (8, true), .call 107 [(.t 9), (.t 10)]⟩, ⟨some 12, some (8, true), .bin .gtr (.t 11) (.c (.int .i64 0))⟩, ⟨some 13, none, .pick (.t 8) (.t 12) (.c (.bool false))⟩, ⟨some 4, none, .mov (.t 13)⟩] none)
 .ret))
theorem f63 : FnIs Try.prog 63 14 c63 [.tmp 4] := ⟨_, Try.func63, rfl, by kernel_rfl, rfl⟩
def c64 : AC := (.seq (.reg [⟨some 2, none, .mov (.c (.sl 3 [] (.exact 0)))⟩] none)
 (.seq (.seq (.reg [⟨some 3, none, .mov (.t 0)⟩, ⟨some 4, none, .eqN false (.t 3)⟩] none)
 (.cond (.t 4) (.seq (.reg [⟨some 2, none, .mov (.c (.sl 3 [] (.exact 0)))⟩] none)
 .ret) .skip))
 (.seq (.reg [⟨some 5, none, .buildSl 3 []⟩, ⟨some 6, none, .mov (.t 0)⟩, ⟨some 7, none, .app false 3 32 (.t 5) (.t 6)⟩, ⟨some 2, none, .mov (.t 7)⟩] none)
 .ret)))
theorem f64 : FnIs Try.prog 64 8 c64 [.tmp 2] := ⟨_, Try.func64, rfl, by kernel_rfl, rfl⟩
def c65 : AC := (.seq (.reg [⟨some 4, none, .box (.t 0)⟩, ⟨some 8, none, .mov (.c (.bool false))⟩] none)
 (.seq (.reg [⟨some 9, none, .faddr 0 (.t 4)⟩, ⟨some 10, none, .load none (.t 9)⟩, ⟨some 11, none, .len true (.t 10)⟩, ⟨some 12, none, .bin .leq (.t 11) (.c (.int .i64 128))⟩, ⟨some 13, none, .mov (.t 12)⟩, ⟨some 14, some (13, true), .mov (.t 2)⟩, ⟨some 15, some (13, true), .mov (.t 14)⟩, ⟨some 16, some (15, false), .mov (.t 1)⟩, ⟨some 17, some (15, false), .faddr 0 (.t 4)⟩, ⟨some 18, some (15, false), .load none (.t 17)⟩, ⟨some 19, some (15, false), .bin .lss (.t 16) (.t 18)⟩, ⟨some 20, some (13, true), .pick (.t 15) (.c (.bool true)) (.t 19)⟩, ⟨some 21, none, .pick (.t 13) (.t 20) (.c (.bool false))⟩, ⟨some 22, none, .mov (.t 21)⟩, ⟨some 23, some (22, true), .faddr 1 (.t 4)⟩, ⟨some 24, some (22, true), .load none (.t 23)⟩, ⟨some 25, some (22, true), .len false (.t 24)⟩, ⟨some 26, some (22, true), .bin .gtr (.t 25) (.c (.int .i64 0))⟩, ⟨some 27, none, .pick (.t 22) (.t 26) (.c (.bool false))⟩, ⟨some 28, none, .mov (.t 27)⟩, ⟨some 29, some (28, true), .faddr 1 (.t 4)⟩, ⟨some 30, some (28, true), .load none (.t 29)⟩, ⟨some 31, some (28, true), .call 101 [(.t 30)]⟩, ⟨some 32, some (28, true), .bin .eql (.t 31) (.c (.int .i64 0))⟩, ⟨some 33, none, .pick (.t 28) (.t 32) (.c (.bool false))⟩, ⟨some 34, none, .mov (.t 33)⟩, ⟨some 35, some (34, true), .faddr 1 (.t 4)⟩, ⟨some 36, some (34, true), .load none (.t 35)⟩, ⟨some 37, some (34, true), .iaddr 3 (.t 36) (.c (.int .i64 0))⟩, ⟨some 38, some (34, true), .faddr 0 (.t 37)⟩, ⟨some 39, some (34, true), .load none (.t 38)⟩, ⟨some 40, some (34, true), .mov (.t 3)⟩, ⟨some 41, some (34, true), .bin .leq (.t 39) (.t 40)⟩, ⟨some 42, none, .pick (.t 34) (.t 41) (.c (.bool false))⟩, ⟨some 8, none, .mov (.t 42)⟩] none)
 .ret))
theorem f65 : FnIs Try.prog 65 43 c65 [.tmp 8] := ⟨_, Try.func65, rfl, by kernel_rfl, rfl⟩
def c66 : AC := (.seq (.reg [⟨some 4, none, .mov (.c (.bool false))⟩] none)
 (.seq (.seq (.reg [⟨some 5, none, .mov (.c (.int .i64 0))⟩] none)
 (.block 0 (.loop (.seq (.seq (.reg [⟨some 6, none, .mov (.t 5)⟩, ⟨some 7, none, .mov (.t 0)⟩, ⟨some 8, none, .len true (.t 7)⟩, ⟨some 9, none, .bin .lss (.t 6) (.t 8)⟩, ⟨some 10, none, .mov (.t 9)⟩, ⟨some 11, some (10, true), .mov (.t 5)⟩, ⟨some 12, some (10, true), .mov (.t 1)⟩, ⟨some 13, some (10, true), .len true (.t 12)⟩, ⟨some 14, some (10, true), .bin .lss (.t 11) (.t 13)⟩, ⟨some 15, none, .pick (.t 10) (.t 14) (.c (.bool false))⟩] none)
 (.cond (.t 15) .skip (.exit 0)))
 (.seq (.block 1 (.seq (.reg [⟨some 18, none, .mov (.t 0)⟩, ⟨some 19, none, .mov (.t 5)⟩, ⟨some 20, none, .idx (.t 18) (.t 19)⟩, ⟨some 21, none, .mov (.t 1)⟩, ⟨some 22, none, .mov (.t 5)⟩, ⟨some 23, none, .idx (.t 21) (.t 22)⟩, ⟨some 24, none, .bin .neq (.t 20) (.t 23)⟩] (some []))
 (.cond (.t 24) (.seq (.reg [⟨some 25, none, .mov (.t 0)⟩, ⟨some 26, none, .mov (.t 5)⟩, ⟨some 27, none, .idx (.t 25) (.t 26)⟩, ⟨some 28, none, .mov (.t 1)⟩, ⟨some 29, none, .mov (.t 5)⟩, ⟨some 30, none, .idx (.t 28) (.t 29)⟩, ⟨some 31, none, .bin .lss (.t 27) (.t 30)⟩, ⟨some 4, none, .mov (.t 31)⟩] (some []))
 .ret) .skip)))
 (.reg [⟨some 16, none, .mov (.t 5)⟩, ⟨some 17, none, .bin .add (.t 16) (.c (.int .i64 1))⟩, ⟨some 5, none, .mov (.t 17)⟩] none))))))
 (.seq (.reg [⟨some 32, none, .mov (.t 0)⟩, ⟨some 33, none, .len true (.t 32)⟩, ⟨some 34, none, .mov (.t 1)⟩, ⟨some 35, none, .len true (.t 34)⟩, ⟨some 36, none, .bin .lss (.t 33) (.t 35)⟩, ⟨some 4, none, .mov (.t 36)⟩] none)
 .ret)))
theorem f66 : FnIs Try.prog 66 37 c66 [.tmp 4] := ⟨_, Try.func66, rfl, by kernel_rfl, rfl⟩
def c67 : AC := (.seq (.reg [⟨some 2, none, .mov (.c (.bool false))⟩] none)
 (.seq (.seq (.reg [⟨some 3, none, .mov (.c (.int .i64 0))⟩] none)
 (.block 0 (.loop (.seq (.seq (.reg [⟨some 4, none, .mov (.t 3)⟩, ⟨some 5, none, .mov (.t 0)⟩, ⟨some 6, none, .len false (.t 5)⟩, ⟨some 7, none, .bin .lss (.t 4) (.t 6)⟩] none)
 (.cond (.t 7) .skip (.exit 0)))
 (.seq (.block 1 (.seq (.reg [⟨some 10, none, .mov (.t 0)⟩, ⟨some 11, none, .mov (.t 3)⟩, ⟨some 12, none, .iaddr 3 (.t 10) (.t 11)⟩, ⟨some 13, none, .load (some 3) (.t 12)⟩, ⟨some 14, none, .call 108 [(.t 13)]⟩, ⟨some 15, none, .un .not (.t 14)⟩, ⟨some 16, none, .mov (.t 15)⟩, ⟨some 17, some (16, false), .mov (.t 3)⟩, ⟨some 18, some (16, false), .bin .gtr (.t 17) (.c (.int .i64 0))⟩, ⟨some 19, some (16, false), .mov (.t 18)⟩, ⟨some 20, some (19, true), .mov (.t 0)⟩, ⟨some 21, some (19, true), .mov (.t 3)⟩, ⟨some 22, some (19, true), .iaddr 3 (.t 20) (.t 21)⟩, ⟨some 23, some (19, true), .faddr 0 (.t 22)⟩, ⟨some 24, some (19, true), .load none (.t 23)⟩, ⟨some 25, some (19, true), .mov (.t 0)⟩, ⟨some 26, some (19, true), .mov (.t 3)⟩, ⟨some 27, some (19, true), .bin .sub (.t 26) (.c (.int .i64 1))⟩, ⟨some 28, some (19, true), .iaddr 3 (.t 25) (.t 27)⟩, ⟨some 29, some (19, true), .faddr 0 (.t 28)⟩, ⟨some 30, some (19, true), .load none (.t 29)⟩, ⟨some 31, some (19, true), .bin .geq (.t 24) (.t 30)⟩, ⟨some 32, some (16, false), .pick (.t 19) (.t 31) (.c (.bool false))⟩, ⟨some 33, none, .pick (.t 16) (.c (.bool true)) (.t 32)⟩] (some [(14, 20)]))
 (.cond (.t 33) (.seq (.reg [⟨some 2, none, .mov (.c (.bool false))⟩] none)
 .ret) .skip)))
 (.reg [⟨some 8, none, .mov (.t 3)⟩, ⟨some 9, none, .bin .add (.t 8) (.c (.int .i64 1))⟩, ⟨some 3, none, .mov (.t 9)⟩] none))))))
 (.seq (.reg [⟨some 2, none, .mov (.c (.bool true))⟩] none)
 .ret)))
theorem f67 : FnIs Try.prog 67 34 c67 [.tmp 2] := ⟨_, Try.func67, rfl, by kernel_rfl, rfl⟩
def c68 : AC := (.seq (.reg [⟨some 4, none, .mov (.c (.bool false))⟩] none)
 (.seq (.seq (.reg [⟨some 6, none, .mov (.t 0)⟩, ⟨some 7, none, .len false (.t 6)⟩, ⟨some 8, none, .mov (.t 1)⟩, ⟨some 9, none, .len false (.t 8)⟩, ⟨some 10, none, .bin .neq (.t 7) (.t 9)⟩] none)
 (.cond (.t 10) (.seq (.reg [⟨some 4, none, .mov (.c (.bool false))⟩] none)
 .ret) .skip))
 (.seq (.seq (.reg [⟨some 5, none, .mov (.c (.int .i64 0))⟩] none)
 (.block 0 (.loop (.seq (.seq (.reg [⟨some 11, none, .mov (.t 5)⟩, ⟨some 12, none, .mov (.t 0)⟩, ⟨some 13, none, .len false (.t 12)⟩, ⟨some 14, none, .bin .lss (.t 11) (.t 13)⟩] none)
 (.cond (.t 14) .skip (.exit 0)))
 (.seq (.block 1 (.seq (.reg [⟨some 17, none, .mov (.t 0)⟩, ⟨some 18, none, .mov (.t 5)⟩, ⟨some 19, none, .iaddr 2 (.t 17) (.t 18)⟩, ⟨some 20, none, .faddr 0 (.t 19)⟩, ⟨some 21, none, .load none (.t 20)⟩, ⟨some 22, none, .mov (.t 1)⟩, ⟨some 23, none, .mov (.t 5)⟩, ⟨some 24, none, .iaddr 2 (.t 22) (.t 23)⟩, ⟨some 25, none, .faddr 0 (.t 24)⟩, ⟨some 26, none, .load none (.t 25)⟩, ⟨some 27, none, .bin .neq (.t 21) (.t 26)⟩, ⟨some 28, none, .mov (.t 27)⟩, ⟨some 29, some (28, false), .mov (.t 0)⟩, ⟨some 30, some (28, false), .mov (.t 5)⟩, ⟨some 31, some (28, false), .iaddr 2 (.t 29) (.t 30)⟩, ⟨some 32, some (28, false), .faddr 1 (.t 31)⟩, ⟨some 33, some (28, false), .load none (.t 32)⟩, ⟨some 34, some (28, false), .mov (.t 1)⟩, ⟨some 35, some (28, false), .mov (.t 5)⟩, ⟨some 36, some (28, false), .iaddr 2 (.t 34) (.t 35)⟩, ⟨some 37, some (28, false), .faddr 1 (.t 36)⟩, ⟨some 38, some (28, false), .load none (.t 37)⟩, ⟨some 39, some (28, false), .call 109 [(.t 33), (.t 38)]⟩, ⟨some 40, some (28, false), .un .not (.t 39)⟩, ⟨some 41, none, .pick (.t 28) (.c (.bool true)) (.t 40)⟩] (some [(4, 9), (16, 21)]))
 (.cond (.t 41) (.seq (.reg [⟨some 4, none, .mov (.c (.bool false))⟩] none)
 .ret) .skip)))
 (.reg [⟨some 15, none, .mov (.t 5)⟩, ⟨some 16, none, .bin .add (.t 15) (.c (.int .i64 1))⟩, ⟨some 5, none, .mov (.t 16)⟩] none))))))
 (.seq (.reg [⟨some 4, none, .mov (.c (.bool true))⟩] none)
 .ret))))
theorem f68 : FnIs Try.prog 68 42 c68 [.tmp 4] := ⟨_, Try.func68, rfl, by kernel_rfl, rfl⟩
def c69 : AC := (.seq (.reg [⟨some 3, none, .box (.t 0)⟩, ⟨some 6, none, .mov (.c (.str []))⟩, ⟨some 7, none, .mov (.c (.int .i64 0))⟩] none)
 (.seq (.seq (.reg [⟨some 11, none, .load (some 3) (.t 3)⟩, ⟨some 12, none, .mov (.t 2)⟩, ⟨some 13, none, .call 110 [(.t 11), (.t 12)]⟩, ⟨some 8, none, .mov (.t 13)⟩] none)
 (.seq (.reg [⟨some 14, none, .mov (.t 8)⟩, ⟨some 15, none, .bin .neq (.t 14) (.c (.int .i64 0))⟩] none)
 (.cond (.t 15) (.seq (.reg [⟨some 16, none, .mov (.t 8)⟩, ⟨some 6, none, .mov (.c (.str []))⟩, ⟨some 7, none, .mov (.t 16)⟩] none)
 .ret) .skip)))
 (.seq (.reg [⟨some 18, none, .load (some 3) (.t 3)⟩, ⟨some 19, none, .mov (.t 1)⟩, ⟨some 20, none, .call 112 [(.t 18), (.t 19)]⟩, ⟨some 21, none, .mov (.t 2)⟩, ⟨some 22, none, .call 111 [(.t 20), (.t 21)]⟩, ⟨some 17, none, .mov (.t 22)⟩, ⟨some 23, none, .ext (.t 17) 0⟩, ⟨some 24, none, .ext (.t 17) 1⟩, ⟨some 9, none, .mov (.t 23)⟩, ⟨some 10, none, .mov (.t 24)⟩] none)
 (.seq (.seq (.reg [⟨some 25, none, .mov (.t 10)⟩, ⟨some 26, none, .un .not (.t 25)⟩] none)
 (.cond (.t 26) (.seq (.reg [⟨some 6, none, .mov (.c (.str []))⟩, ⟨some 7, none, .mov (.c (.int .i64 7))⟩] none)
 .ret) .skip))
 (.seq (.reg [⟨some 27, none, .mov (.t 9)⟩, ⟨some 6, none, .mov (.t 27)⟩, ⟨some 7, none, .mov (.c (.int .i64 0))⟩] none)
 .ret)))))
theorem f69 : FnIs Try.prog 69 28 c69 [.tmp 6, .tmp 7] := ⟨_, Try.func69, rfl, by kernel_rfl, rfl⟩
def c70 : AC := (.seq (.reg [⟨some 5, none, .box (.t 0)⟩, ⟨some 10, none, .mov (.c (.sl 2 [] (.exact 0)))⟩, ⟨some 11, none, .mov (.c (.int .i64 0))⟩] none)
 (.seq (.seq (.reg [⟨some 17, none, .load (some 3) (.t 5)⟩, ⟨some 18, none, .mov (.t 3)⟩, ⟨some 19, none, .call 110 [(.t 17), (.t 18)]⟩, ⟨some 12, none, .mov (.t 19)⟩] none)
 (.seq (.reg [⟨some 20, none, .mov (.t 12)⟩, ⟨some 21, none, .bin .neq (.t 20) (.c (.int .i64 0))⟩] none)
 (.cond (.t 21) (.seq (.reg [⟨some 22, none, .mov (.t 12)⟩, ⟨some 10, none, .mov (.c (.sl 2 [] (.exact 0)))⟩, ⟨some 11, none, .mov (.t 22)⟩] none)
 .ret) .skip)))
 (.seq (.reg [⟨some 13, none, .mov (.c (.sl 2 [] (.exact 0)))⟩] none)
 (.seq (.seq (.reg [⟨some 14, none, .mov (.c (.int .i64 0))⟩] none)
 (.block 0 (.loop (.seq (.seq (.reg [⟨some 23, none, .mov (.t 14)⟩, ⟨some 24, none, .faddr 0 (.t 5)⟩, ⟨some 25, none, .load none (.t 24)⟩, ⟨some 26, none, .len false (.t 25)⟩, ⟨some 27, none, .bin .lss (.t 23) (.t 26)⟩] none)
 (.cond (.t 27) .skip (.exit 0)))
 (.seq (.block 1 (.seq (.reg [⟨some 31, none, .faddr 0 (.t 5)⟩, ⟨some 32, none, .load none (.t 31)⟩, ⟨some 33, none, .mov (.t 14)⟩, ⟨some 34, none, .iaddr 2 (.t 32) (.t 33)⟩, ⟨some 35, none, .faddr 1 (.t 34)⟩, ⟨some 36, none, .load none (.t 35)⟩, ⟨some 37, none, .mov (.t 3)⟩, ⟨some 38, none, .call 111 [(.t 36), (.t 37)]⟩, ⟨some 30, none, .mov (.t 38)⟩, ⟨some 39, none, .ext (.t 30) 0⟩, ⟨some 40, none, .ext (.t 30) 1⟩, ⟨some 15, none, .mov (.t 39)⟩, ⟨some 16, none, .mov (.t 40)⟩] none)
 (.seq (.reg [⟨some 41, none, .mov (.t 16)⟩, ⟨some 42, none, .mov (.t 41)⟩, ⟨some 43, some (42, true), .faddr 0 (.t 5)⟩, ⟨some 44, some (42, true), .load none (.t 43)⟩, ⟨some 45, some (42, true), .mov (.t 14)⟩, ⟨some 46, some (42, true), .iaddr 2 (.t 44) (.t 45)⟩, ⟨some 47, some (42, true), .faddr 0 (.t 46)⟩, ⟨some 48, some (42, true), .load none (.t 47)⟩, ⟨some 49, some (42, true), .mov (.t 1)⟩, ⟨some 50, some (42, true), .mov (.t 2)⟩, ⟨some 51, some (42, true), .call 113 [(.t 48), (.t 49), (.t 50)]⟩, ⟨some 52, none, .pick (.t 42) (.t 51) (.c (.bool false))⟩, ⟨some 53, none, .mov (.t 52)⟩, ⟨some 54, some (53, true), .mov (.t 4)⟩, ⟨some 55, some (53, true), .bin .lss (.t 54) (.c (.int .i64 0))⟩, ⟨some 56, some (53, true), .mov (.t 55)⟩, ⟨some 57, some (56, false), .mov (.t 13)⟩, ⟨some 58, some (56, false), .len false (.t 57)⟩, ⟨some 59, some (56, false), .mov (.t 4)⟩, ⟨some 60, some (56, false), .bin .lss (.t 58) (.t 59)⟩, ⟨some 61, some (53, true), .pick (.t 56) (.c (.bool true)) (.t 60)⟩, ⟨some 62, none, .pick (.t 53) (.t 61) (.c (.bool false))⟩] none)
 (.cond (.t 62) (.reg [⟨some 63, none, .mov (.t 13)⟩, ⟨some 64, none, .faddr 0 (.t 5)⟩, ⟨some 65, none, .load none (.t 64)⟩, ⟨some 66, none, .mov (.t 14)⟩, ⟨some 67, none, .iaddr 2 (.t 65) (.t 66)⟩, ⟨some 68, none, .faddr 0 (.t 67)⟩, ⟨some 69, none, .load none (.t 68)⟩, ⟨some 70, none, .mov (.t 15)⟩, ⟨some 71, none, .build [.str [], .str []] [(0, 1, (.t 69)), (1, 1, (.t 70))]⟩, ⟨some 72, none, .buildSl 2 [(.t 71)]⟩, ⟨some 73, none, .app false 2 32 (.t 63) (.t 72)⟩, ⟨some 13, none, .mov (.t 73)⟩] none) .skip))))
 (.reg [⟨some 28, none, .mov (.t 14)⟩, ⟨some 29, none, .bin .add (.t 28) (.c (.int .i64 1))⟩, ⟨some 14, none, .mov (.t 29)⟩] none))))))
 (.seq (.reg [⟨some 74, none, .mov (.t 13)⟩, ⟨some 10, none, .mov (.t 74)⟩, ⟨some 11, none, .mov (.c (.int .i64 0))⟩] none)
 .ret)))))
theorem f70 : FnIs Try.prog 70 75 c70 [.tmp 10, .tmp 11] := ⟨_, Try.func70, rfl, by kernel_rfl, rfl⟩
def c71 : AC := (.seq (.reg [⟨some 4, none, .box (.t 0)⟩, ⟨some 8, none, .mov (.c (.bool false))⟩] none)
 (.seq (.seq (.reg [⟨some 9, none, .mov (.c (.int .i64 0))⟩] none)
 (.block 0 (.loop (.seq (.seq (.reg [⟨some 10, none, .mov (.t 9)⟩, ⟨some 11, none, .faddr 0 (.t 4)⟩, ⟨some 12, none, .load none (.t 11)⟩, ⟨some 13, none, .len false (.t 12)⟩, ⟨some 14, none, .bin .lss (.t 10) (.t 13)⟩] none)
 (.cond (.t 14) .skip (.exit 0)))
 (.seq (.block 1 (.seq (.reg [⟨some 17, none, .faddr 0 (.t 4)⟩, ⟨some 18, none, .load none (.t 17)⟩, ⟨some 19, none, .mov (.t 9)⟩, ⟨some 20, none, .iaddr 2 (.t 18) (.t 19)⟩, ⟨some 21, none, .faddr 0 (.t 20)⟩, ⟨some 22, none, .load none (.t 21)⟩, ⟨some 23, none, .mov (.t 1)⟩, ⟨some 24, none, .mov (.t 2)⟩, ⟨some 25, none, .call 113 [(.t 22), (.t 23), (.t 24)]⟩, ⟨some 26, none, .mov (.t 25)⟩, ⟨some 27, some (26, true), .faddr 0 (.t 4)⟩, ⟨some 28, some (26, true), .load none (.t 27)⟩, ⟨some 29, some (26, true), .mov (.t 9)⟩, ⟨some 30, some (26, true), .iaddr 2 (.t 28) (.t 29)⟩, ⟨some 31, some (26, true), .faddr 1 (.t 30)⟩, ⟨some 32, some (26, true), .load none (.t 31)⟩, ⟨some 33, some (26, true), .mov (.t 3)⟩, ⟨some 34, some (26, true), .call 114 [(.t 32), (.t 33)]⟩, ⟨some 35, none, .pick (.t 26) (.t 34) (.c (.bool false))⟩] none)
 (.cond (.t 35) (.seq (.reg [⟨some 8, none, .mov (.c (.bool true))⟩] none)
 .ret) .skip)))
 (.reg [⟨some 15, none, .mov (.t 9)⟩, ⟨some 16, none, .bin .add (.t 15) (.c (.int .i64 1))⟩, ⟨some 9, none, .mov (.t 16)⟩] none))))))
 (.seq (.reg [⟨some 8, none, .mov (.c (.bool false))⟩] none)
 .ret)))
theorem f71 : FnIs Try.prog 71 36 c71 [.tmp 8] := ⟨_, Try.func71, rfl, by kernel_rfl, rfl⟩
def c72 : AC := (.seq (.reg [⟨some 2, none, .box (.t 0)⟩, ⟨some 4, none, .alloc [.sl 2 [] (.exact 0), .int .i64 0, .int .i64 0]⟩, ⟨some 5, none, .mov (.c (.int .i64 0))⟩] none)
 (.seq (.seq (.reg [⟨some 9, none, .mov (.t 1)⟩, ⟨some 10, none, .faddr 2 (.t 2)⟩, ⟨some 11, none, .load none (.t 10)⟩, ⟨some 12, none, .bin .lss (.t 9) (.t 11)⟩, ⟨some 13, none, .mov (.t 12)⟩, ⟨some 14, some (13, false), .mov (.t 1)⟩, ⟨some 15, some (13, false), .faddr 1 (.t 2)⟩, ⟨some 16, some (13, false), .load none (.t 15)⟩, ⟨some 17, some (13, false), .bin .gtr (.t 14) (.t 16)⟩, ⟨some 18, none, .pick (.t 13) (.c (.bool true)) (.t 17)⟩] none)
 (.cond (.t 18) (.seq (.reg [⟨some 19, none, .load (some 3) (.t 2)⟩, ⟨none, none, .store 3 (.t 4) (.t 19)⟩, ⟨some 5, none, .mov (.c (.int .i64 2))⟩] none)
 .ret) .skip))
 (.seq (.reg [⟨some 6, none, .mov (.c (.sl 2 [] (.exact 0)))⟩] none)
 (.seq (.seq (.reg [⟨some 7, none, .mov (.c (.int .i64 0))⟩] none)
 (.block 0 (.loop (.seq (.seq (.reg [⟨some 20, none, .mov (.t 7)⟩, ⟨some 21, none, .faddr 0 (.t 2)⟩, ⟨some 22, none, .load none (.t 21)⟩, ⟨some 23, none, .len false (.t 22)⟩, ⟨some 24, none, .bin .lss (.t 20) (.t 23)⟩] none)
 (.cond (.t 24) .skip (.exit 0)))
 (.seq (.block 1 (.seq (.reg [⟨some 27, none, .faddr 0 (.t 2)⟩, ⟨some 28, none, .load none (.t 27)⟩, ⟨some 29, none, .mov (.t 7)⟩, ⟨some 30, none, .iaddr 2 (.t 28) (.t 29)⟩, ⟨some 31, none, .faddr 1 (.t 30)⟩, ⟨some 32, none, .load none (.t 31)⟩, ⟨some 33, none, .mov (.t 1)⟩, ⟨some 34, none, .call 115 [(.t 32), (.t 33)]⟩, ⟨some 8, none, .mov (.t 34)⟩] none)
 (.seq (.reg [⟨some 35, none, .mov (.t 8)⟩, ⟨some 36, none, .len false (.t 35)⟩, ⟨some 37, none, .bin .gtr (.t 36) (.c (.int .i64 0))⟩] none)
 (.cond (.t 37) (.reg [⟨some 38, none, .mov (.t 6)⟩, ⟨some 39, none, .faddr 0 (.t 2)⟩, ⟨some 40, none, .load none (.t 39)⟩, ⟨some 41, none, .mov (.t 7)⟩, ⟨some 42, none, .iaddr 2 (.t 40) (.t 41)⟩, ⟨some 43, none, .faddr 0 (.t 42)⟩, ⟨some 44, none, .load none (.t 43)⟩, ⟨some 45, none, .mov (.t 8)⟩, ⟨some 46, none, .build [.str [], .sl 3 [] (.exact 0)] [(0, 1, (.t 44)), (1, 1, (.t 45))]⟩, ⟨some 47, none, .buildSl 2 [(.t 46)]⟩, ⟨some 48, none, .app false 2 40 (.t 38) (.t 47)⟩, ⟨some 6, none, .mov (.t 48)⟩] none) .skip))))
 (.reg [⟨some 25, none, .mov (.t 7)⟩, ⟨some 26, none, .bin .add (.t 25) (.c (.int .i64 1))⟩, ⟨some 7, none, .mov (.t 26)⟩] none))))))
 (.seq (.reg [⟨some 49, none, .mov (.t 6)⟩, ⟨some 50, none, .faddr 1 (.t 2)⟩, ⟨some 51, none, .load none (.t 50)⟩, ⟨some 52, none, .mov (.t 1)⟩, ⟨some 53, none, .build [.sl 2 [] (.exact 0), .int .i64 0, .int .i64 0] [(0, 1, (.t 49)), (1, 1, (.t 51)), (2, 1, (.t 52))]⟩, ⟨none, none, .store 3 (.t 4) (.t 53)⟩, ⟨some 5, none, .mov (.c (.int .i64 0))⟩] none)
 .ret)))))
theorem f72 : FnIs Try.prog 72 54 c72 [.cell 4 (some 3), .tmp 5] := ⟨_, Try.func72, rfl, by kernel_rfl, rfl⟩
def c73 : AC := (.seq (.reg [⟨some 3, none, .box (.t 0)⟩, ⟨some 6, none, .alloc [.sl 2 [] (.exact 0), .int .i64 0, .int .i64 0]⟩, ⟨some 7, none, .mov (.c (.int .i64 0))⟩] none)
 (.seq (.seq (.reg [⟨some 12, none, .mov (.t 1)⟩, ⟨some 13, none, .faddr 1 (.t 3)⟩, ⟨some 14, none, .load none (.t 13)⟩, ⟨some 15, none, .bin .leq (.t 12) (.t 14)⟩, ⟨some 16, none, .mov (.t 15)⟩, ⟨some 17, some (16, false), .mov (.t 1)⟩, ⟨some 18, some (16, false), .bin .gtr (.t 17) (.c (.int .i64 1152921504606846976))⟩, ⟨some 19, none, .pick (.t 16) (.c (.bool true)) (.t 18)⟩] none)
 (.cond (.t 19) (.seq (.reg [⟨some 20, none, .load (some 3) (.t 3)⟩, ⟨none, none, .store 3 (.t 6) (.t 20)⟩, ⟨some 7, none, .mov (.c (.int .i64 18))⟩] none)
 .ret) .skip))
 (.seq (.seq (.reg [⟨some 21, none, .mov (.t 2)⟩, ⟨some 22, none, .call 116 [(.t 21)]⟩, ⟨some 23, none, .un .not (.t 22)⟩] none)
 (.cond (.t 23) (.seq (.reg [⟨some 24, none, .load (some 3) (.t 3)⟩, ⟨none, none, .store 3 (.t 6) (.t 24)⟩, ⟨some 7, none, .mov (.c (.int .i64 2))⟩] none)
 .ret) .skip))
 (.seq (.reg [⟨some 25, none, .faddr 0 (.t 3)⟩, ⟨some 26, none, .load none (.t 25)⟩, ⟨some 8, none, .mov (.t 26)⟩] none)
 (.seq (.seq (.reg [⟨some 9, none, .mov (.c (.int .i64 0))⟩] none)
 (.block 0 (.loop (.seq (.seq (.reg [⟨some 27, none, .mov (.t 9)⟩, ⟨some 28, none, .mov (.t 2)⟩, ⟨some 29, none, .len false (.t 28)⟩, ⟨some 30, none, .bin .lss (.t 27) (.t 29)⟩] none)
 (.cond (.t 30) .skip (.exit 0)))
 (.seq (.block 1 (.seq (.reg [⟨some 34, none, .load (some 3) (.t 3)⟩, ⟨some 35, none, .mov (.t 2)⟩, ⟨some 36, none, .mov (.t 9)⟩, ⟨some 37, none, .iaddr 3 (.t 35) (.t 36)⟩, ⟨some 38, none, .faddr 0 (.t 37)⟩, ⟨some 39, none, .load none (.t 38)⟩, ⟨some 40, none, .call 112 [(.t 34), (.t 39)]⟩, ⟨some 41, none, .mov (.t 1)⟩, ⟨some 42, none, .mov (.t 2)⟩, ⟨some 43, none, .mov (.t 9)⟩, ⟨some 44, none, .iaddr 3 (.t 42) (.t 43)⟩, ⟨some 45, none, .faddr 1 (.t 44)⟩, ⟨some 46, none, .load none (.t 45)⟩, ⟨some 47, none, .mov (.t 2)⟩, ⟨some 48, none, .mov (.t 9)⟩, ⟨some 49, none, .iaddr 3 (.t 47) (.t 48)⟩, ⟨some 50, none, .faddr 2 (.t 49)⟩, ⟨some 51, none, .load none (.t 50)⟩, ⟨some 52, none, .build [.int .i64 0, .str [], .bool false] [(0, 1, (.t 41)), (1, 1, (.t 46)), (2, 1, (.t 51))]⟩, ⟨some 53, none, .call 117 [(.t 40), (.t 52)]⟩, ⟨some 33, none, .mov (.t 53)⟩, ⟨some 54, none, .ext (.t 33) 0⟩, ⟨some 55, none, .ext (.t 33) 1⟩, ⟨some 10, none, .mov (.t 54)⟩, ⟨some 11, none, .mov (.t 55)⟩] (some [(0, 5), (0, 12), (5, 12), (6, 12), (0, 17), (5, 17), (6, 17), (12, 17)]))
 (.reg [⟨some 56, none, .mov (.t 8)⟩, ⟨some 57, none, .mov (.t 2)⟩, ⟨some 58, none, .mov (.t 9)⟩, ⟨some 59, none, .iaddr 3 (.t 57) (.t 58)⟩, ⟨some 60, none, .faddr 0 (.t 59)⟩, ⟨some 61, none, .load none (.t 60)⟩, ⟨some 62, none, .mov (.t 10)⟩, ⟨some 63, none, .call 118 [(.t 56), (.t 61), (.t 62)]⟩, ⟨some 8, none, .mov (.t 63)⟩] none)))
 (.reg [⟨some 31, none, .mov (.t 9)⟩, ⟨some 32, none, .bin .add (.t 31) (.c (.int .i64 1))⟩, ⟨some 9, none, .mov (.t 32)⟩] none))))))
 (.seq (.reg [⟨some 64, none, .mov (.t 8)⟩, ⟨some 65, none, .mov (.t 1)⟩, ⟨some 66, none, .faddr 2 (.t 3)⟩, ⟨some 67, none, .load none (.t 66)⟩, ⟨some 68, none, .build [.sl 2 [] (.exact 0), .int .i64 0, .int .i64 0] [(0, 1, (.t 64)), (1, 1, (.t 65)), (2, 1, (.t 67))]⟩, ⟨none, none, .store 3 (.t 6) (.t 68)⟩, ⟨some 7, none, .mov (.c (.int .i64 0))⟩] none)
 .ret))))))
theorem f73 : FnIs Try.prog 73 69 c73 [.cell 6 (some 3), .tmp 7] := ⟨_, Try.func73, rfl, by kernel_rfl, rfl⟩
def c74 : AC := (.seq (.reg [⟨some 6, none, .mov (.c (.int .i64 0))⟩] none)
 (.seq (.reg [⟨some 7, none, .mov (.t 0)⟩, ⟨some 8, none, .mov (.t 1)⟩, ⟨some 9, none, .mov (.t 2)⟩, ⟨some 10, none, .build [.str [], .str [], .bool false] [(0, 1, (.t 8)), (1, 1, (.t 9))]⟩, ⟨some 11, none, .call 119 [(.t 7), (.t 10)]⟩, ⟨some 6, none, .mov (.t 11)⟩] none)
 .ret))
theorem f74 : FnIs Try.prog 74 12 c74 [.tmp 6] := ⟨_, Try.func74, rfl, by kernel_rfl, rfl⟩
def c75 : AC := (.seq (.reg [⟨some 4, none, .box (.t 0)⟩, ⟨some 5, none, .box (.t 1)⟩, ⟨some 6, none, .box (.t 2)⟩, ⟨some 7, none, .box (.t 3)⟩, ⟨some 8, none, .mov (.c (.sl 2 [] (.exact 0)))⟩, ⟨some 9, none, .mov (.c (.int .i64 0))⟩] none)
 (.seq (.reg [⟨some 10, none, .load none (.t 4)⟩, ⟨some 11, none, .mkfn (.func 121) [] [(.t 4), (.t 5), (.t 6), (.t 7)]⟩, ⟨some 12, none, .call 120 [(.t 10), (.t 11)]⟩, ⟨some 13, none, .ext (.t 12) 0⟩, ⟨some 14, none, .ext (.t 12) 1⟩, ⟨some 8, none, .mov (.t 13)⟩, ⟨some 9, none, .mov (.t 14)⟩] none)
 .ret))
theorem f75 : FnIs Try.prog 75 15 c75 [.tmp 8, .tmp 9] := ⟨_, Try.func75, rfl, by kernel_rfl, rfl⟩
def c76 : AC := (.seq (.reg [⟨some 2, none, .box (.t 0)⟩, ⟨some 3, none, .box (.t 1)⟩, ⟨some 4, none, .mov (.c (.str []))⟩, ⟨some 5, none, .mov (.c (.int .i64 0))⟩] none)
 (.seq (.reg [⟨some 6, none, .load none (.t 2)⟩, ⟨some 7, none, .mkfn (.func 124) [] [(.t 2), (.t 3)]⟩, ⟨some 8, none, .call 123 [(.t 6), (.t 7)]⟩, ⟨some 9, none, .ext (.t 8) 0⟩, ⟨some 10, none, .ext (.t 8) 1⟩, ⟨some 4, none, .mov (.t 9)⟩, ⟨some 5, none, .mov (.t 10)⟩] none)
 .ret))
theorem f76 : FnIs Try.prog 76 11 c76 [.tmp 4, .tmp 5] := ⟨_, Try.func76, rfl, by kernel_rfl, rfl⟩
def c77 : AC := (.seq (.reg [⟨some 1, none, .box (.t 0)⟩, ⟨some 2, none, .mov (.c (.bool false))⟩] none)
 (.seq (.seq (.reg [⟨some 4, none, .load none (.t 1)⟩, ⟨some 5, none, .call 80 [(.t 4)]⟩, ⟨some 6, none, .un .not (.t 5)⟩] none)
 (.cond (.t 6) (.seq (.reg [⟨some 2, none, .mov (.c (.bool false))⟩] none)
 .ret) .skip))
 (.seq (.reg [⟨some 7, none, .mkfn (.func 125) [] [(.t 1)]⟩, ⟨some 3, none, .mov (.t 7)⟩] none)
 (.seq (.reg [⟨some 8, none, .load none (.t 1)⟩, ⟨some 9, none, .nilck (.t 8)⟩, ⟨some 10, none, .faddr 3 (.t 9)⟩, ⟨some 11, none, .load none (.t 10)⟩, ⟨some 12, none, .mov (.t 3)⟩, ⟨some 13, none, .call 97 [(.t 11), (.t 12)]⟩, ⟨some 14, none, .mov (.t 13)⟩, ⟨some 15, some (14, false), .load none (.t 1)⟩, ⟨some 16, some (14, false), .nilck (.t 15)⟩, ⟨some 17, some (14, false), .faddr 4 (.t 16)⟩, ⟨some 18, some (14, false), .load (some 2) (.t 17)⟩, ⟨some 19, some (14, false), .load none (.t 1)⟩, ⟨some 20, some (14, false), .nilck (.t 19)⟩, ⟨some 21, some (14, false), .faddr 0 (.t 20)⟩, ⟨some 22, some (14, false), .load none (.t 21)⟩, ⟨some 23, some (14, false), .load none (.t 1)⟩, ⟨some 24, some (14, false), .nilck (.t 23)⟩, ⟨some 25, some (14, false), .faddr 1 (.t 24)⟩, ⟨some 26, some (14, false), .load none (.t 25)⟩, ⟨some 27, some (14, false), .call 50 [(.t 18), (.t 22), (.t 26)]⟩, ⟨some 28, none, .pick (.t 14) (.c (.bool true)) (.t 27)⟩, ⟨some 2, none, .mov (.t 28)⟩] (some [(7, 11), (10, 11), (7, 14), (10, 14), (7, 15), (10, 15), (11, 15), (14, 15), (7, 18), (10, 18), (11, 18), (14, 18)]))
 .ret))))
theorem f77 : FnIs Try.prog 77 29 c77 [.tmp 2] := ⟨_, Try.func77, rfl, by kernel_rfl, rfl⟩
def c78 : AC := (.seq (.reg [⟨some 2, none, .alloc [.sl 1 [] (.exact 0), .sl 2 [] (.exact 0)]⟩] none)
 (.seq (.seq (.reg [⟨some 3, none, .mov (.t 0)⟩, ⟨some 4, none, .call 80 [(.t 3)]⟩, ⟨some 5, none, .un .not (.t 4)⟩] none)
 (.cond (.t 5) (.seq (.reg [⟨some 6, none, .build [.sl 1 [] (.exact 0), .sl 2 [] (.exact 0)] []⟩, ⟨none, none, .store 2 (.t 2) (.t 6)⟩] none)
 .ret) .skip))
 (.seq (.reg [⟨some 7, none, .mov (.t 0)⟩, ⟨some 8, none, .nilck (.t 7)⟩, ⟨some 9, none, .faddr 4 (.t 8)⟩, ⟨some 10, none, .faddr 0 (.t 9)⟩, ⟨some 11, none, .load none (.t 10)⟩, ⟨some 12, none, .call 61 [(.t 11)]⟩, ⟨some 13, none, .mov (.t 0)⟩, ⟨some 14, none, .nilck (.t 13)⟩, ⟨some 15, none, .faddr 4 (.t 14)⟩, ⟨some 16, none, .faddr 1 (.t 15)⟩, ⟨some 17, none, .load none (.t 16)⟩, ⟨some 18, none, .call 84 [(.t 17)]⟩, ⟨some 19, none, .build [.sl 1 [] (.exact 0), .sl 2 [] (.exact 0)] [(0, 1, (.t 12)), (1, 1, (.t 18))]⟩, ⟨none, none, .store 2 (.t 2) (.t 19)⟩] (some [(4, 10), (5, 10)]))
 .ret)))
theorem f78 : FnIs Try.prog 78 20 c78 [.cell 2 (some 2)] := ⟨_, Try.func78, rfl, by kernel_rfl, rfl⟩
def c79 : AC := (.seq (.reg [⟨some 2, none, .mov (.c (.int .i64 0))⟩] none)
 (.seq (.seq (.reg [⟨some 3, none, .mov (.t 0)⟩, ⟨some 4, none, .call 80 [(.t 3)]⟩, ⟨some 5, none, .un .not (.t 4)⟩] none)
 (.cond (.t 5) (.seq (.reg [⟨some 2, none, .mov (.c (.int .i64 0))⟩] none)
 .ret) .skip))
 (.seq (.reg [⟨some 6, none, .mov (.t 0)⟩, ⟨some 7, none, .nilck (.t 6)⟩, ⟨some 8, none, .faddr 1 (.t 7)⟩, ⟨some 9, none, .load none (.t 8)⟩, ⟨some 2, none, .mov (.t 9)⟩] none)
 .ret)))
theorem f79 : FnIs Try.prog 79 10 c79 [.tmp 2] := ⟨_, Try.func79, rfl, by kernel_rfl, rfl⟩
def c80 : AC := (.seq (.reg [⟨some 2, none, .mov (.c (.bool false))⟩] none)
 (.seq (.reg [⟨some 3, none, .mov (.t 0)⟩, ⟨some 4, none, .eqP true (.t 3) (.c (.sc (.pointer none)))⟩, ⟨some 5, none, .mov (.t 4)⟩, ⟨some 6, some (5, true), .mov (.t 0)⟩, ⟨some 7, some (5, true), .nilck (.t 6)⟩, ⟨some 8, some (5, true), .faddr 0 (.t 7)⟩, ⟨some 9, some (5, true), .load none (.t 8)⟩, ⟨some 10, some (5, true), .eqP true (.t 9) (.c (.sc (.pointer none)))⟩, ⟨some 11, none, .pick (.t 5) (.t 10) (.c (.bool false))⟩, ⟨some 2, none, .mov (.t 11)⟩] none)
 .ret))
theorem f80 : FnIs Try.prog 80 12 c80 [.tmp 2] := ⟨_, Try.func80, rfl, by kernel_rfl, rfl⟩
def c81 : AC := (.seq (.reg [⟨some 4, none, .mov (.c (.int .i64 0))⟩, ⟨some 5, none, .mov (.c (.bool false))⟩] none)
 (.seq (.reg [⟨some 10, none, .mov (.t 0)⟩, ⟨some 11, none, .len false (.t 10)⟩, ⟨some 6, none, .mov (.t 11)⟩] none)
 (.seq (.reg [⟨some 12, none, .mov (.t 6)⟩, ⟨some 7, none, .mov (.c (.int .i64 0))⟩, ⟨some 8, none, .mov (.t 12)⟩] none)
 (.seq (.block 0 (.loop (.seq (.seq (.reg [⟨some 13, none, .mov (.t 7)⟩, ⟨some 14, none, .mov (.t 8)⟩, ⟨some 15, none, .bin .lss (.t 13) (.t 14)⟩] none)
 (.cond (.t 15) .skip (.exit 0)))
 (.block 1 (.seq (.reg [⟨some 16, none, .mov (.t 7)⟩, ⟨some 17, none, .mov (.t 8)⟩, ⟨some 18, none, .bin .add (.t 16) (.t 17)⟩, ⟨some 19, none, .conv (.toInt .u64) (.t 18)⟩, ⟨some 20, none, .bin .shr (.t 19) (.c (.int .u64 1))⟩, ⟨some 21, none, .conv (.toInt .i64) (.t 20)⟩, ⟨some 9, none, .mov (.t 21)⟩] none)
 (.seq (.reg [⟨some 22, none, .mov (.t 0)⟩, ⟨some 23, none, .mov (.t 9)⟩, ⟨some 24, none, .iaddr 1 (.t 22) (.t 23)⟩, ⟨some 25, none, .load none (.t 24)⟩, ⟨some 26, none, .mov (.t 1)⟩, ⟨some 27, none, .call 126 [(.t 25), (.t 26)]⟩] none)
 (.cond (.t 27) (.reg [⟨some 28, none, .mov (.t 9)⟩, ⟨some 29, none, .bin .add (.t 28) (.c (.int .i64 1))⟩, ⟨some 7, none, .mov (.t 29)⟩] none) (.reg [⟨some 30, none, .mov (.t 9)⟩, ⟨some 8, none, .mov (.t 30)⟩] none))))))))
 (.seq (.reg [⟨some 31, none, .mov (.t 7)⟩, ⟨some 32, none, .mov (.t 7)⟩, ⟨some 33, none, .mov (.t 6)⟩, ⟨some 34, none, .bin .lss (.t 32) (.t 33)⟩, ⟨some 35, none, .mov (.t 34)⟩, ⟨some 36, some (35, true), .mov (.t 0)⟩, ⟨some 37, some (35, true), .mov (.t 7)⟩, ⟨some 38, some (35, true), .iaddr 1 (.t 36) (.t 37)⟩, ⟨some 39, some (35, true), .load none (.t 38)⟩, ⟨some 40, some (35, true), .mov (.t 1)⟩, ⟨some 41, some (35, true), .bin .eql (.t 39) (.t 40)⟩, ⟨some 42, some (35, true), .mov (.t 41)⟩, ⟨some 43, some (42, false), .mov (.t 0)⟩, ⟨some 44, some (42, false), .mov (.t 7)⟩, ⟨some 45, some (42, false), .iaddr 1 (.t 43) (.t 44)⟩, ⟨some 46, some (42, false), .load none (.t 45)⟩, ⟨some 47, some (42, false), .call 127 [(.t 46)]⟩, ⟨some 48, some (42, false), .mov (.t 47)⟩, ⟨some 49, some (48, true), .mov (.t 1)⟩, ⟨some 50, some (48, true), .call 127 [(.t 49)]⟩, ⟨some 51, some (42, false), .pick (.t 48) (.t 50) (.c (.bool false))⟩, ⟨some 52, some (35, true), .pick (.t 42) (.c (.bool true)) (.t 51)⟩, ⟨some 53, none, .pick (.t 35) (.t 52) (.c (.bool false))⟩, ⟨some 4, none, .mov (.t 31)⟩, ⟨some 5, none, .mov (.t 53)⟩] none)
 .ret)))))
theorem f81 : FnIs Try.prog 81 54 c81 [.tmp 4, .tmp 5] := ⟨_, Try.func81, rfl, by kernel_rfl, rfl⟩
def c82 : AC := (.seq (.reg [⟨some 6, none, .mov (.c (.sl 1 [] (.exact 0)))⟩] none)
 (.seq (.reg [⟨some 10, none, .mov (.t 0)⟩, ⟨some 11, none, .mov (.t 1)⟩, ⟨some 12, none, .slc false 1 (.t 10) (some (.t 11)) none none⟩] none)
 (.seq (.reg [⟨some 13, none, .mov (.t 2)⟩, ⟨some 14, none, .len false (.t 13)⟩, ⟨some 7, none, .mov (.t 14)⟩] none)
 (.seq (.seq (.reg [⟨some 15, none, .mov (.t 7)⟩, ⟨some 16, none, .bin .eql (.t 15) (.c (.int .i64 0))⟩] none)
 (.cond (.t 16) (.seq (.reg [⟨some 17, none, .mov (.t 0)⟩, ⟨some 6, none, .mov (.t 17)⟩] none)
 .ret) .skip))
 (.seq (.reg [⟨some 18, none, .mov (.t 0)⟩, ⟨some 19, none, .len false (.t 18)⟩, ⟨some 8, none, .mov (.t 19)⟩] none)
 (.seq (.seq (.reg [⟨some 20, none, .mov (.t 1)⟩, ⟨some 21, none, .mov (.t 8)⟩, ⟨some 22, none, .bin .eql (.t 20) (.t 21)⟩] none)
 (.cond (.t 22) (.seq (.reg [⟨some 23, none, .mov (.t 0)⟩, ⟨some 24, none, .mov (.t 2)⟩, ⟨some 25, none, .app false 1 16 (.t 23) (.t 24)⟩, ⟨some 6, none, .mov (.t 25)⟩] none)
 .ret) .skip))
 (.seq (.seq (.reg [⟨some 26, none, .mov (.t 8)⟩, ⟨some 27, none, .mov (.t 7)⟩, ⟨some 28, none, .bin .add (.t 26) (.t 27)⟩, ⟨some 29, none, .mov (.t 0)⟩, ⟨some 30, none, .cap (.t 29)⟩, ⟨some 31, none, .bin .gtr (.t 28) (.t 30)⟩] none)
 (.cond (.t 31) (.seq (.reg [⟨some 32, none, .mov (.t 0)⟩, ⟨some 33, none, .mov (.t 1)⟩, ⟨some 34, none, .slc false 1 (.t 32) none (some (.t 33)) none⟩, ⟨some 35, none, .mov (.t 8)⟩, ⟨some 36, none, .mov (.t 7)⟩, ⟨some 37, none, .bin .add (.t 35) (.t 36)⟩, ⟨some 38, none, .mov (.t 1)⟩, ⟨some 39, none, .bin .sub (.t 37) (.t 38)⟩, ⟨some 40, none, .appz 16 (.str []) 1 (.t 34) (.t 39)⟩, ⟨some 9, none, .mov (.t 40)⟩] none)
 (.seq (.reg [⟨some 41, none, .mov (.t 9)⟩, ⟨some 42, none, .mov (.t 1)⟩, ⟨some 43, none, .slc false 1 (.t 41) (some (.t 42)) none none⟩, ⟨some 44, none, .mov (.t 2)⟩, ⟨some 45, none, .dead⟩] none)
 (.seq (.reg [⟨some 46, none, .mov (.t 9)⟩, ⟨some 47, none, .mov (.t 1)⟩, ⟨some 48, none, .mov (.t 7)⟩, ⟨some 49, none, .bin .add (.t 47) (.t 48)⟩, ⟨some 50, none, .slc false 1 (.t 46) (some (.t 49)) none none⟩, ⟨some 51, none, .mov (.t 0)⟩, ⟨some 52, none, .mov (.t 1)⟩, ⟨some 53, none, .slc false 1 (.t 51) (some (.t 52)) none none⟩, ⟨some 54, none, .dead⟩] (some []))
 (.seq (.reg [⟨some 55, none, .mov (.t 9)⟩, ⟨some 6, none, .mov (.t 55)⟩] none)
 .ret)))) .skip))
 (.seq (.reg [⟨some 56, none, .mov (.t 0)⟩, ⟨some 57, none, .mov (.t 8)⟩, ⟨some 58, none, .mov (.t 7)⟩, ⟨some 59, none, .bin .add (.t 57) (.t 58)⟩, ⟨some 60, none, .slc false 1 (.t 56) none (some (.t 59)) none⟩, ⟨some 0, none, .mov (.t 60)⟩] none)
 (.seq (.seq (.reg [⟨some 61, none, .mov (.t 2)⟩, ⟨some 62, none, .mov (.t 0)⟩, ⟨some 63, none, .mov (.t 1)⟩, ⟨some 64, none, .mov (.t 7)⟩, ⟨some 65, none, .bin .add (.t 63) (.t 64)⟩, ⟨some 66, none, .slc false 1 (.t 62) (some (.t 65)) none none⟩, ⟨some 67, none, .dead⟩, ⟨some 68, none, .un .not (.t 67)⟩] none)
 (.cond (.t 68) (.seq (.reg [⟨some 69, none, .mov (.t 0)⟩, ⟨some 70, none, .mov (.t 1)⟩, ⟨some 71, none, .mov (.t 7)⟩, ⟨some 72, none, .bin .add (.t 70) (.t 71)⟩, ⟨some 73, none, .slc false 1 (.t 69) (some (.t 72)) none none⟩, ⟨some 74, none, .mov (.t 0)⟩, ⟨some 75, none, .mov (.t 1)⟩, ⟨some 76, none, .slc false 1 (.t 74) (some (.t 75)) none none⟩, ⟨some 77, none, .dead⟩] (some []))
 (.seq (.reg [⟨some 78, none, .mov (.t 0)⟩, ⟨some 79, none, .mov (.t 1)⟩, ⟨some 80, none, .slc false 1 (.t 78) (some (.t 79)) none none⟩, ⟨some 81, none, .mov (.t 2)⟩, ⟨some 82, none, .dead⟩] none)
 (.seq (.reg [⟨some 83, none, .mov (.t 0)⟩, ⟨some 6, none, .mov (.t 83)⟩] none)
 .ret))) .skip))
 (.seq (.reg [⟨some 84, none, .mov (.t 0)⟩, ⟨some 85, none, .mov (.t 8)⟩, ⟨some 86, none, .slc false 1 (.t 84) (some (.t 85)) none none⟩, ⟨some 87, none, .mov (.t 2)⟩, ⟨some 88, none, .dead⟩] none)
 (.seq (.reg [⟨some 89, none, .mov (.t 0)⟩, ⟨some 90, none, .mov (.t 1)⟩, ⟨some 91, none, .slc false 1 (.t 89) (some (.t 90)) none none⟩, ⟨some 92, none, .mov (.t 7)⟩, ⟨some 93, none, .call 129 [(.t 91), (.t 92)]⟩] none)
 (.seq (.reg [⟨some 94, none, .mov (.t 0)⟩, ⟨some 6, none, .mov (.t 94)⟩] none)
 .ret))))))))))))
theorem f82 : FnIs Try.prog 82 95 c82 [.tmp 6] := ⟨_, Try.func82, rfl, by kernel_rfl, rfl⟩
def c83 : AC := (.seq (.reg [⟨some 3, none, .box (.t 1)⟩, ⟨some 4, none, .alloc [.sl 1 [] (.exact 0), .sl 2 [] (.exact 0)]⟩, ⟨some 5, none, .mov (.c (.int .i64 0))⟩] none)
 (.seq (.reg [⟨some 6, none, .mov (.t 0)⟩, ⟨some 7, none, .mkfn (.func 131) [] [(.t 3)]⟩, ⟨some 8, none, .call 130 [(.t 6), (.t 7)]⟩, ⟨some 0, none, .mov (.t 8)⟩] none)
 (.seq (.seq (.reg [⟨some 9, none, .mov (.t 0)⟩, ⟨some 10, none, .len false (.t 9)⟩, ⟨some 11, none, .bin .gtr (.t 10) (.c (.int .i64 64))⟩, ⟨some 12, none, .mov (.t 11)⟩, ⟨some 13, some (12, false), .load none (.t 3)⟩, ⟨some 14, some (12, false), .len false (.t 13)⟩, ⟨some 15, some (12, false), .bin .gtr (.t 14) (.c (.int .i64 64))⟩, ⟨some 16, none, .pick (.t 12) (.c (.bool true)) (.t 15)⟩] none)
 (.cond (.t 16) (.seq (.reg [⟨some 17, none, .build [.sl 1 [] (.exact 0), .sl 2 [] (.exact 0)] []⟩, ⟨none, none, .store 2 (.t 4) (.t 17)⟩, ⟨some 5, none, .mov (.c (.int .i64 9))⟩] none)
 .ret) .skip))
 (.seq (.reg [⟨some 18, none, .mov (.t 0)⟩, ⟨some 19, none, .load none (.t 3)⟩, ⟨some 20, none, .build [.sl 1 [] (.exact 0), .sl 2 [] (.exact 0)] [(0, 1, (.t 18)), (1, 1, (.t 19))]⟩, ⟨none, none, .store 2 (.t 4) (.t 20)⟩, ⟨some 5, none, .mov (.c (.int .i64 0))⟩] none)
 .ret))))
theorem f83 : FnIs Try.prog 83 21 c83 [.cell 4 (some 2), .tmp 5] := ⟨_, Try.func83, rfl, by kernel_rfl, rfl⟩
def c84 : AC := (.seq (.reg [⟨some 2, none, .mov (.c (.sl 2 [] (.exact 0)))⟩] none)
 (.seq (.seq (.reg [⟨some 3, none, .mov (.t 0)⟩, ⟨some 4, none, .eqN false (.t 3)⟩] none)
 (.cond (.t 4) (.seq (.reg [⟨some 2, none, .mov (.c (.sl 2 [] (.exact 0)))⟩] none)
 .ret) .skip))
 (.seq (.reg [⟨some 5, none, .buildSl 2 []⟩, ⟨some 6, none, .mov (.t 0)⟩, ⟨some 7, none, .app false 2 32 (.t 5) (.t 6)⟩, ⟨some 2, none, .mov (.t 7)⟩] none)
 .ret)))
theorem f84 : FnIs Try.prog 84 8 c84 [.tmp 2] := ⟨_, Try.func84, rfl, by kernel_rfl, rfl⟩
def c85 : AC := (.seq (.reg [⟨some 1, none, .box (.t 0)⟩, ⟨some 2, none, .mov (.c (.bool false))⟩] none)
 (.seq (.seq (.reg [⟨some 5, none, .faddr 0 (.t 1)⟩, ⟨some 6, none, .load none (.t 5)⟩, ⟨some 7, none, .len false (.t 6)⟩, ⟨some 8, none, .bin .gtr (.t 7) (.c (.int .i64 64))⟩, ⟨some 9, none, .mov (.t 8)⟩, ⟨some 10, some (9, false), .faddr 1 (.t 1)⟩, ⟨some 11, some (9, false), .load none (.t 10)⟩, ⟨some 12, some (9, false), .len false (.t 11)⟩, ⟨some 13, some (9, false), .bin .gtr (.t 12) (.c (.int .i64 64))⟩, ⟨some 14, none, .pick (.t 9) (.c (.bool true)) (.t 13)⟩] none)
 (.cond (.t 14) (.seq (.reg [⟨some 2, none, .mov (.c (.bool false))⟩] none)
 .ret) .skip))
 (.seq (.seq (.reg [⟨some 3, none, .mov (.c (.int .i64 0))⟩] none)
 (.block 0 (.loop (.seq (.seq (.reg [⟨some 15, none, .mov (.t 3)⟩, ⟨some 16, none, .faddr 1 (.t 1)⟩, ⟨some 17, none, .load none (.t 16)⟩, ⟨some 18, none, .len false (.t 17)⟩, ⟨some 19, none, .bin .lss (.t 15) (.t 18)⟩] none)
 (.cond (.t 19) .skip (.exit 0)))
 (.seq (.block 1 (.seq (.reg [⟨some 22, none, .faddr 1 (.t 1)⟩, ⟨some 23, none, .load none (.t 22)⟩, ⟨some 24, none, .mov (.t 3)⟩, ⟨some 25, none, .iaddr 2 (.t 23) (.t 24)⟩, ⟨some 26, none, .load (some 2) (.t 25)⟩, ⟨some 27, none, .call 90 [(.t 26)]⟩, ⟨some 28, none, .un .not (.t 27)⟩, ⟨some 29, none, .mov (.t 28)⟩, ⟨some 30, some (29, false), .mov (.t 3)⟩, ⟨some 31, some (29, false), .bin .gtr (.t 30) (.c (.int .i64 0))⟩, ⟨some 32, some (29, false), .mov (.t 31)⟩, ⟨some 33, some (32, true), .faddr 1 (.t 1)⟩, ⟨some 34, some (32, true), .load none (.t 33)⟩, ⟨some 35, some (32, true), .mov (.t 3)⟩, ⟨some 36, some (32, true), .bin .sub (.t 35) (.c (.int .i64 1))⟩, ⟨some 37, some (32, true), .iaddr 2 (.t 34) (.t 36)⟩, ⟨some 38, some (32, true), .faddr 1 (.t 37)⟩, ⟨some 39, some (32, true), .load none (.t 38)⟩, ⟨some 40, some (32, true), .bin .eql (.t 39) (.c (.str []))⟩, ⟨some 41, some (32, true), .mov (.t 40)⟩, ⟨some 42, some (41, false), .faddr 1 (.t 1)⟩, ⟨some 43, some (41, false), .load none (.t 42)⟩, ⟨some 44, some (41, false), .mov (.t 3)⟩, ⟨some 45, some (41, false), .bin .sub (.t 44) (.c (.int .i64 1))⟩, ⟨some 46, some (41, false), .iaddr 2 (.t 43) (.t 45)⟩, ⟨some 47, some (41, false), .faddr 1 (.t 46)⟩, ⟨some 48, some (41, false), .load none (.t 47)⟩, ⟨some 49, some (41, false), .faddr 1 (.t 1)⟩, ⟨some 50, some (41, false), .load none (.t 49)⟩, ⟨some 51, some (41, false), .mov (.t 3)⟩, ⟨some 52, some (41, false), .iaddr 2 (.t 50) (.t 51)⟩, ⟨some 53, some (41, false), .faddr 0 (.t 52)⟩, ⟨some 54, some (41, false), .load none (.t 53)⟩, ⟨some 55, some (41, false), .call 66 [(.t 48), (.t 54)]⟩, ⟨some 56, some (41, false), .un .not (.t 55)⟩, ⟨some 57, some (32, true), .pick (.t 41) (.c (.bool true)) (.t 56)⟩, ⟨some 58, some (29, false), .pick (.t 32) (.t 57) (.c (.bool false))⟩, ⟨some 59, none, .pick (.t 29) (.c (.bool true)) (.t 58)⟩] (some [(21, 28), (26, 28), (21, 32), (26, 32)]))
 (.cond (.t 59) (.seq (.reg [⟨some 2, none, .mov (.c (.bool false))⟩] none)
 .ret) .skip)))
 (.reg [⟨some 20, none, .mov (.t 3)⟩, ⟨some 21, none, .bin .add (.t 20) (.c (.int .i64 1))⟩, ⟨some 3, none, .mov (.t 21)⟩] none))))))
 (.seq (.seq (.reg [⟨some 4, none, .mov (.c (.int .i64 0))⟩] none)
 (.block 2 (.loop (.seq (.seq (.reg [⟨some 60, none, .mov (.t 4)⟩, ⟨some 61, none, .faddr 0 (.t 1)⟩, ⟨some 62, none, .load none (.t 61)⟩, ⟨some 63, none, .len false (.t 62)⟩, ⟨some 64, none, .bin .lss (.t 60) (.t 63)⟩] none)
 (.cond (.t 64) .skip (.exit 2)))
 (.seq (.block 3 (.seq (.reg [⟨some 67, none, .mov (.t 4)⟩, ⟨some 68, none, .bin .gtr (.t 67) (.c (.int .i64 0))⟩, ⟨some 69, none, .mov (.t 68)⟩, ⟨some 70, some (69, true), .faddr 0 (.t 1)⟩, ⟨some 71, some (69, true), .load none (.t 70)⟩, ⟨some 72, some (69, true), .mov (.t 4)⟩, ⟨some 73, some (69, true), .bin .sub (.t 72) (.c (.int .i64 1))⟩, ⟨some 74, some (69, true), .iaddr 1 (.t 71) (.t 73)⟩, ⟨some 75, some (69, true), .load none (.t 74)⟩, ⟨some 76, some (69, true), .faddr 0 (.t 1)⟩, ⟨some 77, some (69, true), .load none (.t 76)⟩, ⟨some 78, some (69, true), .mov (.t 4)⟩, ⟨some 79, some (69, true), .iaddr 1 (.t 77) (.t 78)⟩, ⟨some 80, some (69, true), .load none (.t 79)⟩, ⟨some 81, some (69, true), .call 66 [(.t 75), (.t 80)]⟩, ⟨some 82, some (69, true), .un .not (.t 81)⟩, ⟨some 83, none, .pick (.t 69) (.t 82) (.c (.bool false))⟩, ⟨some 84, none, .mov (.t 83)⟩, ⟨some 85, some (84, false), .faddr 1 (.t 1)⟩, ⟨some 86, some (84, false), .load none (.t 85)⟩, ⟨some 87, some (84, false), .faddr 0 (.t 1)⟩, ⟨some 88, some (84, false), .load none (.t 87)⟩, ⟨some 89, some (84, false), .mov (.t 4)⟩, ⟨some 90, some (84, false), .iaddr 1 (.t 88) (.t 89)⟩, ⟨some 91, some (84, false), .load none (.t 90)⟩, ⟨some 92, some (84, false), .call 94 [(.t 86), (.t 91)]⟩, ⟨some 93, none, .pick (.t 84) (.c (.bool true)) (.t 92)⟩] (some [(4, 10), (8, 10), (4, 13), (8, 13), (19, 21), (19, 24)]))
 (.cond (.t 93) (.seq (.reg [⟨some 2, none, .mov (.c (.bool false))⟩] none)
 .ret) .skip)))
 (.reg [⟨some 65, none, .mov (.t 4)⟩, ⟨some 66, none, .bin .add (.t 65) (.c (.int .i64 1))⟩, ⟨some 4, none, .mov (.t 66)⟩] none))))))
 (.seq (.reg [⟨some 2, none, .mov (.c (.bool true))⟩] none)
 .ret)))))
theorem f85 : FnIs Try.prog 85 94 c85 [.tmp 2] := ⟨_, Try.func85, rfl, by kernel_rfl, rfl⟩
def c86 : AC := (.seq (.reg [⟨some 4, none, .alloc [.sl 1 [] (.exact 0), .sl 2 [] (.exact 0)]⟩, ⟨some 5, none, .mov (.c (.bool false))⟩] none)
 (.seq (.reg [⟨some 6, none, .alloc [.sl 1 [] (.exact 0), .sl 2 [] (.exact 0)]⟩] none)
 (.seq (.seq (.reg [⟨some 7, none, .mov (.c (.int .i64 0))⟩] none)
 (.block 0 (.loop (.seq (.seq (.reg [⟨some 8, none, .mov (.t 7)⟩, ⟨some 9, none, .mov (.t 0)⟩, ⟨some 10, none, .len false (.t 9)⟩, ⟨some 11, none, .bin .lss (.t 8) (.t 10)⟩] none)
 (.cond (.t 11) .skip (.exit 0)))
 (.seq (.block 1 (.seq (.reg [⟨some 14, none, .mov (.t 1)⟩, ⟨some 15, none, .mov (.t 0)⟩, ⟨some 16, none, .mov (.t 7)⟩, ⟨some 17, none, .iaddr 1 (.t 15) (.t 16)⟩, ⟨some 18, none, .load none (.t 17)⟩, ⟨some 19, none, .call 94 [(.t 14), (.t 18)]⟩, ⟨some 20, none, .un .not (.t 19)⟩] none)
 (.cond (.t 20) (.reg [⟨some 21, none, .faddr 0 (.t 6)⟩, ⟨some 22, none, .load none (.t 21)⟩, ⟨some 23, none, .mov (.t 0)⟩, ⟨some 24, none, .mov (.t 7)⟩, ⟨some 25, none, .iaddr 1 (.t 23) (.t 24)⟩, ⟨some 26, none, .load none (.t 25)⟩, ⟨some 27, none, .buildSl 1 [(.t 26)]⟩, ⟨some 28, none, .app false 1 16 (.t 22) (.t 27)⟩, ⟨some 29, none, .faddr 0 (.t 6)⟩, ⟨none, none, .store 1 (.t 29) (.t 28)⟩] (some [(1, 5), (1, 6)])) .skip)))
 (.reg [⟨some 12, none, .mov (.t 7)⟩, ⟨some 13, none, .bin .add (.t 12) (.c (.int .i64 1))⟩, ⟨some 7, none, .mov (.t 13)⟩] none))))))
 (.seq (.reg [⟨some 30, none, .mov (.t 1)⟩, ⟨some 31, none, .faddr 1 (.t 6)⟩, ⟨none, none, .store 1 (.t 31) (.t 30)⟩] none)
 (.seq (.reg [⟨some 32, none, .load (some 2) (.t 6)⟩, ⟨some 33, none, .faddr 0 (.t 6)⟩, ⟨some 34, none, .load none (.t 33)⟩, ⟨some 35, none, .len false (.t 34)⟩, ⟨some 36, none, .bin .leq (.t 35) (.c (.int .i64 64))⟩, ⟨some 37, none, .mov (.t 36)⟩, ⟨some 38, some (37, true), .faddr 1 (.t 6)⟩, ⟨some 39, some (37, true), .load none (.t 38)⟩, ⟨some 40, some (37, true), .len false (.t 39)⟩, ⟨some 41, some (37, true), .bin .leq (.t 40) (.c (.int .i64 64))⟩, ⟨some 42, none, .pick (.t 37) (.t 41) (.c (.bool false))⟩, ⟨none, none, .store 2 (.t 4) (.t 32)⟩, ⟨some 5, none, .mov (.t 42)⟩] (some [(0, 2), (0, 7), (7, 11)]))
 .ret)))))
theorem f86 : FnIs Try.prog 86 43 c86 [.cell 4 (some 2), .tmp 5] := ⟨_, Try.func86, rfl, by kernel_rfl, rfl⟩
def c87 : AC := (.seq (.reg [⟨some 1, none, .box (.t 0)⟩, ⟨some 2, none, .mov (.c (.bool false))⟩] none)
 (.seq (.reg [⟨some 3, none, .faddr 1 (.t 1)⟩, ⟨some 4, none, .load none (.t 3)⟩, ⟨some 5, none, .bin .eql (.t 4) (.c (.str []))⟩, ⟨some 6, none, .mov (.t 5)⟩, ⟨some 7, some (6, false), .faddr 0 (.t 1)⟩, ⟨some 8, some (6, false), .load none (.t 7)⟩, ⟨some 9, some (6, false), .faddr 1 (.t 1)⟩, ⟨some 10, some (6, false), .load none (.t 9)⟩, ⟨some 11, some (6, false), .bin .lss (.t 8) (.t 10)⟩, ⟨some 12, none, .pick (.t 6) (.c (.bool true)) (.t 11)⟩, ⟨some 2, none, .mov (.t 12)⟩] none)
 .ret))
theorem f87 : FnIs Try.prog 87 13 c87 [.tmp 2] := ⟨_, Try.func87, rfl, by kernel_rfl, rfl⟩
def c88 : AC := (.seq (.reg [⟨some 2, none, .box (.t 0)⟩, ⟨some 3, none, .box (.t 1)⟩, ⟨some 4, none, .mov (.c (.bool false))⟩] none)
 (.seq (.reg [⟨some 5, none, .faddr 1 (.t 2)⟩, ⟨some 6, none, .load none (.t 5)⟩, ⟨some 7, none, .bin .neq (.t 6) (.c (.str []))⟩, ⟨some 8, none, .mov (.t 7)⟩, ⟨some 9, some (8, true), .faddr 1 (.t 2)⟩, ⟨some 10, some (8, true), .load none (.t 9)⟩, ⟨some 11, some (8, true), .faddr 0 (.t 3)⟩, ⟨some 12, some (8, true), .load none (.t 11)⟩, ⟨some 13, some (8, true), .bin .lss (.t 10) (.t 12)⟩, ⟨some 14, none, .pick (.t 8) (.t 13) (.c (.bool false))⟩, ⟨some 4, none, .mov (.t 14)⟩] none)
 .ret))
theorem f88 : FnIs Try.prog 88 15 c88 [.tmp 4] := ⟨_, Try.func88, rfl, by kernel_rfl, rfl⟩
def c89 : AC := (.seq (.reg [⟨some 2, none, .box (.t 0)⟩, ⟨some 3, none, .box (.t 1)⟩, ⟨some 4, none, .alloc [.str [], .str []]⟩] none)
 (.seq (.reg [⟨some 6, none, .faddr 0 (.t 2)⟩, ⟨some 7, none, .load none (.t 6)⟩, ⟨some 8, none, .faddr 0 (.t 3)⟩, ⟨some 9, none, .load none (.t 8)⟩, ⟨some 10, none, .mm false (.t 7) (.t 9)⟩, ⟨some 11, none, .faddr 1 (.t 2)⟩, ⟨some 12, none, .load none (.t 11)⟩, ⟨some 13, none, .faddr 1 (.t 3)⟩, ⟨some 14, none, .load none (.t 13)⟩, ⟨some 15, none, .mm true (.t 12) (.t 14)⟩, ⟨some 16, none, .build [.str [], .str []] [(0, 1, (.t 10)), (1, 1, (.t 15))]⟩, ⟨some 5, none, .alloc [.str [], .str []]⟩, ⟨none, none, .store 2 (.t 5) (.t 16)⟩] none)
 (.seq (.seq (.reg [⟨some 17, none, .faddr 1 (.t 2)⟩, ⟨some 18, none, .load none (.t 17)⟩, ⟨some 19, none, .bin .eql (.t 18) (.c (.str []))⟩, ⟨some 20, none, .mov (.t 19)⟩, ⟨some 21, some (20, false), .faddr 1 (.t 3)⟩, ⟨some 22, some (20, false), .load none (.t 21)⟩, ⟨some 23, some (20, false), .bin .eql (.t 22) (.c (.str []))⟩, ⟨some 24, none, .pick (.t 20) (.c (.bool true)) (.t 23)⟩] none)
 (.cond (.t 24) (.reg [⟨some 25, none, .faddr 1 (.t 5)⟩, ⟨none, none, .store 1 (.t 25) (.c (.str []))⟩] none) .skip))
 (.seq (.reg [⟨some 26, none, .load (some 2) (.t 5)⟩, ⟨none, none, .store 2 (.t 4) (.t 26)⟩] none)
 .ret))))
theorem f89 : FnIs Try.prog 89 27 c89 [.cell 4 (some 2)] := ⟨_, Try.func89, rfl, by kernel_rfl, rfl⟩
def c90 : AC := (.seq (.reg [⟨some 1, none, .box (.t 0)⟩, ⟨some 2, none, .mov (.c (.bool false))⟩] none)
 (.seq (.reg [⟨some 3, none, .faddr 1 (.t 1)⟩, ⟨some 4, none, .load none (.t 3)⟩, ⟨some 5, none, .bin .eql (.t 4) (.c (.str []))⟩, ⟨some 6, none, .mov (.t 5)⟩, ⟨some 7, some (6, false), .faddr 0 (.t 1)⟩, ⟨some 8, some (6, false), .load none (.t 7)⟩, ⟨some 9, some (6, false), .faddr 1 (.t 1)⟩, ⟨some 10, some (6, false), .load none (.t 9)⟩, ⟨some 11, some (6, false), .call 66 [(.t 8), (.t 10)]⟩, ⟨some 12, none, .pick (.t 6) (.c (.bool true)) (.t 11)⟩, ⟨some 2, none, .mov (.t 12)⟩] none)
 .ret))
theorem f90 : FnIs Try.prog 90 13 c90 [.tmp 2] := ⟨_, Try.func90, rfl, by kernel_rfl, rfl⟩
def c91 : AC := (.seq (.reg [⟨some 2, none, .box (.t 0)⟩, ⟨some 3, none, .box (.t 1)⟩, ⟨some 4, none, .mov (.c (.bool false))⟩] none)
 (.seq (.reg [⟨some 5, none, .faddr 1 (.t 2)⟩, ⟨some 6, none, .load none (.t 5)⟩, ⟨some 7, none, .bin .neq (.t 6) (.c (.str []))⟩, ⟨some 8, none, .mov (.t 7)⟩, ⟨some 9, some (8, true), .faddr 1 (.t 2)⟩, ⟨some 10, some (8, true), .load none (.t 9)⟩, ⟨some 11, some (8, true), .faddr 0 (.t 3)⟩, ⟨some 12, some (8, true), .load none (.t 11)⟩, ⟨some 13, some (8, true), .call 66 [(.t 10), (.t 12)]⟩, ⟨some 14, none, .pick (.t 8) (.t 13) (.c (.bool false))⟩, ⟨some 4, none, .mov (.t 14)⟩] none)
 .ret))
theorem f91 : FnIs Try.prog 91 15 c91 [.tmp 4] := ⟨_, Try.func91, rfl, by kernel_rfl, rfl⟩
def c92 : AC := (.seq (.reg [⟨some 3, none, .box (.t 1)⟩, ⟨some 4, none, .mov (.c (.bool false))⟩] none)
 (.seq (.reg [⟨some 5, none, .mov (.t 0)⟩, ⟨some 6, none, .mkfn (.func 132) [] [(.t 3)]⟩, ⟨some 7, none, .call 99 [(.t 5), (.t 6)]⟩, ⟨some 4, none, .mov (.t 7)⟩] none)
 .ret))
theorem f92 : FnIs Try.prog 92 8 c92 [.tmp 4] := ⟨_, Try.func92, rfl, by kernel_rfl, rfl⟩
def c93 : AC := (.seq (.reg [⟨some 2, none, .box (.t 0)⟩, ⟨some 4, none, .mov (.c (.bool false))⟩] none)
 (.seq (.reg [⟨some 8, none, .faddr 0 (.t 2)⟩, ⟨some 9, none, .load none (.t 8)⟩, ⟨some 10, none, .mov (.t 1)⟩, ⟨some 11, none, .call 81 [(.t 9), (.t 10)]⟩, ⟨some 7, none, .mov (.t 11)⟩, ⟨some 12, none, .ext (.t 7) 0⟩, ⟨some 13, none, .ext (.t 7) 1⟩, ⟨some 5, none, .mov (.t 12)⟩, ⟨some 6, none, .mov (.t 13)⟩] none)
 (.seq (.reg [⟨some 14, none, .mov (.t 6)⟩, ⟨some 15, none, .mov (.t 14)⟩, ⟨some 16, some (15, false), .faddr 1 (.t 2)⟩, ⟨some 17, some (15, false), .load none (.t 16)⟩, ⟨some 18, some (15, false), .mov (.t 1)⟩, ⟨some 19, some (15, false), .call 92 [(.t 17), (.t 18)]⟩, ⟨some 20, none, .pick (.t 15) (.c (.bool true)) (.t 19)⟩, ⟨some 4, none, .mov (.t 20)⟩] none)
 .ret)))
theorem f93 : FnIs Try.prog 93 21 c93 [.tmp 4] := ⟨_, Try.func93, rfl, by kernel_rfl, rfl⟩
def c94 : AC := (.seq (.reg [⟨some 4, none, .mov (.c (.bool false))⟩] none)
 (.seq (.seq (.reg [⟨some 5, none, .mov (.c (.int .i64 0))⟩] none)
 (.block 0 (.loop (.seq (.seq (.reg [⟨some 6, none, .mov (.t 5)⟩, ⟨some 7, none, .mov (.t 0)⟩, ⟨some 8, none, .len false (.t 7)⟩, ⟨some 9, none, .bin .lss (.t 6) (.t 8)⟩] none)
 (.cond (.t 9) .skip (.exit 0)))
 (.seq (.block 1 (.seq (.reg [⟨some 12, none, .mov (.t 1)⟩, ⟨some 13, none, .mov (.t 0)⟩, ⟨some 14, none, .mov (.t 5)⟩, ⟨some 15, none, .iaddr 2 (.t 13) (.t 14)⟩, ⟨some 16, none, .faddr 0 (.t 15)⟩, ⟨some 17, none, .load none (.t 16)⟩, ⟨some 18, none, .mov (.t 0)⟩, ⟨some 19, none, .mov (.t 5)⟩, ⟨some 20, none, .iaddr 2 (.t 18) (.t 19)⟩, ⟨some 21, none, .faddr 1 (.t 20)⟩, ⟨some 22, none, .load none (.t 21)⟩, ⟨some 23, none, .call 113 [(.t 12), (.t 17), (.t 22)]⟩] (some [(5, 10)]))
 (.cond (.t 23) (.seq (.reg [⟨some 4, none, .mov (.c (.bool true))⟩] none)
 .ret) .skip)))
 (.reg [⟨some 10, none, .mov (.t 5)⟩, ⟨some 11, none, .bin .add (.t 10) (.c (.int .i64 1))⟩, ⟨some 5, none, .mov (.t 11)⟩] none))))))
 (.seq (.reg [⟨some 4, none, .mov (.c (.bool false))⟩] none)
 .ret)))
theorem f94 : FnIs Try.prog 94 24 c94 [.tmp 4] := ⟨_, Try.func94, rfl, by kernel_rfl, rfl⟩
def c95 : AC := (.seq (.reg [⟨some 4, none, .mov (.c (.bool false))⟩] none)
 (.seq (.reg [⟨some 5, none, .mov (.t 0)⟩, ⟨some 6, none, .mov (.t 1)⟩, ⟨some 7, none, .call 134 [(.t 5), (.t 6)]⟩, ⟨some 8, none, .bin .geq (.t 7) (.c (.int .i64 0))⟩, ⟨some 4, none, .mov (.t 8)⟩] none)
 .ret))
theorem f95 : FnIs Try.prog 95 9 c95 [.tmp 4] := ⟨_, Try.func95, rfl, by kernel_rfl, rfl⟩
def c96 : AC := (.seq (.reg [⟨some 2, none, .box (.t 0)⟩, ⟨some 3, none, .mov (.c (.bool false))⟩] none)
 (.seq (.reg [⟨some 4, none, .load (some 2) (.t 1)⟩, ⟨some 5, none, .faddr 0 (.t 2)⟩, ⟨some 6, none, .load none (.t 5)⟩, ⟨some 7, none, .call 93 [(.t 4), (.t 6)]⟩, ⟨some 3, none, .mov (.t 7)⟩] none)
 .ret))
theorem f96 : FnIs Try.prog 96 8 c96 [.tmp 3] := ⟨_, Try.func96, rfl, by kernel_rfl, rfl⟩
def c97 : AC := (.seq (.reg [⟨some 4, none, .mov (.c (.bool false))⟩] none)
 (.seq (.reg [⟨some 5, none, .mov (.t 0)⟩, ⟨some 6, none, .mov (.t 1)⟩, ⟨some 7, none, .call 135 [(.t 5), (.t 6)]⟩, ⟨some 8, none, .bin .geq (.t 7) (.c (.int .i64 0))⟩, ⟨some 4, none, .mov (.t 8)⟩] none)
 .ret))
theorem f97 : FnIs Try.prog 97 9 c97 [.tmp 4] := ⟨_, Try.func97, rfl, by kernel_rfl, rfl⟩
def c98 : AC := (.seq (.reg [⟨some 4, none, .mov (.c (.bool false))⟩] none)
 (.seq (.reg [⟨some 5, none, .load none (.t 1)⟩, ⟨some 6, none, .mov (.t 0)⟩, ⟨some 7, none, .mov (.t 0)⟩, ⟨some 8, none, .bin .add (.t 7) (.c (.str [0]))⟩, ⟨some 9, none, .load none (.t 2)⟩, ⟨some 10, none, .call 22 [(.t 5), (.t 6), (.t 8), (.t 9)]⟩, ⟨some 4, none, .mov (.t 10)⟩] none)
 .ret))
theorem f98 : FnIs Try.prog 98 11 c98 [.tmp 4] := ⟨_, Try.func98, rfl, by kernel_rfl, rfl⟩
def c99 : AC := (.seq (.reg [⟨some 4, none, .mov (.c (.bool false))⟩] none)
 (.seq (.reg [⟨some 5, none, .mov (.t 0)⟩, ⟨some 6, none, .mov (.t 1)⟩, ⟨some 7, none, .call 136 [(.t 5), (.t 6)]⟩, ⟨some 8, none, .bin .geq (.t 7) (.c (.int .i64 0))⟩, ⟨some 4, none, .mov (.t 8)⟩] none)
 .ret))
theorem f99 : FnIs Try.prog 99 9 c99 [.tmp 4] := ⟨_, Try.func99, rfl, by kernel_rfl, rfl⟩
def c100 : AC := (.seq (.reg [⟨some 3, none, .box (.t 0)⟩, ⟨some 4, none, .mov (.c (.bool false))⟩] none)
 (.seq (.reg [⟨some 5, none, .load none (.t 1)⟩, ⟨some 6, none, .faddr 0 (.t 3)⟩, ⟨some 7, none, .load none (.t 6)⟩, ⟨some 8, none, .faddr 1 (.t 3)⟩, ⟨some 9, none, .load none (.t 8)⟩, ⟨some 10, none, .load none (.t 2)⟩, ⟨some 11, none, .call 22 [(.t 5), (.t 7), (.t 9), (.t 10)]⟩, ⟨some 4, none, .mov (.t 11)⟩] none)
 .ret))
theorem f100 : FnIs Try.prog 100 12 c100 [.tmp 4] := ⟨_, Try.func100, rfl, by kernel_rfl, rfl⟩
def c101 : AC := (.seq (.reg [⟨some 2, none, .mov (.c (.int .i64 0))⟩] none)
 (.seq (.seq (.reg [⟨some 5, none, .mov (.t 0)⟩, ⟨some 6, none, .len false (.t 5)⟩, ⟨some 7, none, .mov (.c (.int .i64 0))⟩] none)
 (.block 0 (.loop (.seq (.reg [⟨some 8, none, .bin .lss (.t 7) (.t 6)⟩] none)
 (.seq (.cond (.t 8) .skip (.exit 0))
 (.seq (.block 1 (.seq (.reg [⟨some 9, none, .mov (.t 7)⟩, ⟨some 10, none, .iaddr 3 (.t 5) (.t 7)⟩, ⟨some 11, none, .load (some 3) (.t 10)⟩, ⟨some 4, none, .alloc [.int .i64 0, .str [], .bool false]⟩, ⟨some 3, none, .mov (.t 9)⟩, ⟨none, none, .store 3 (.t 4) (.t 11)⟩] none)
 (.seq (.reg [⟨some 12, none, .load (some 3) (.t 4)⟩, ⟨some 13, none, .call 102 [(.t 12)]⟩, ⟨some 14, none, .un .not (.t 13)⟩, ⟨some 15, none, .mov (.t 14)⟩, ⟨some 16, some (15, false), .mov (.t 3)⟩, ⟨some 17, some (15, false), .bin .gtr (.t 16) (.c (.int .i64 0))⟩, ⟨some 18, some (15, false), .mov (.t 17)⟩, ⟨some 19, some (18, true), .faddr 0 (.t 4)⟩, ⟨some 20, some (18, true), .load none (.t 19)⟩, ⟨some 21, some (18, true), .mov (.t 0)⟩, ⟨some 22, some (18, true), .mov (.t 3)⟩, ⟨some 23, some (18, true), .bin .sub (.t 22) (.c (.int .i64 1))⟩, ⟨some 24, some (18, true), .iaddr 3 (.t 21) (.t 23)⟩, ⟨some 25, some (18, true), .faddr 0 (.t 24)⟩, ⟨some 26, some (18, true), .load none (.t 25)⟩, ⟨some 27, some (18, true), .bin .geq (.t 20) (.t 26)⟩, ⟨some 28, some (15, false), .pick (.t 18) (.t 27) (.c (.bool false))⟩, ⟨some 29, none, .pick (.t 15) (.c (.bool true)) (.t 28)⟩] (some [(8, 14)]))
 (.cond (.t 29) (.seq (.reg [⟨some 2, none, .mov (.c (.int .i64 4))⟩] none)
 .ret) .skip))))
 (.reg [⟨some 30, none, .bin .add (.t 7) (.c (.int .i64 1))⟩, ⟨some 7, none, .mov (.t 30)⟩] none)))))))
 (.seq (.reg [⟨some 2, none, .mov (.c (.int .i64 0))⟩] none)
 .ret)))
theorem f101 : FnIs Try.prog 101 31 c101 [.tmp 2] := ⟨_, Try.func101, rfl, by kernel_rfl, rfl⟩
def c102 : AC := (.seq (.reg [⟨some 1, none, .box (.t 0)⟩, ⟨some 2, none, .mov (.c (.bool false))⟩] none)
 (.seq (.reg [⟨some 3, none, .faddr 0 (.t 1)⟩, ⟨some 4, none, .load none (.t 3)⟩, ⟨some 5, none, .bin .geq (.t 4) (.c (.int .i64 1))⟩, ⟨some 6, none, .mov (.t 5)⟩, ⟨some 7, some (6, true), .faddr 0 (.t 1)⟩, ⟨some 8, some (6, true), .load none (.t 7)⟩, ⟨some 9, some (6, true), .bin .leq (.t 8) (.c (.int .i64 1152921504606846976))⟩, ⟨some 10, none, .pick (.t 6) (.t 9) (.c (.bool false))⟩, ⟨some 11, none, .mov (.t 10)⟩, ⟨some 12, some (11, true), .faddr 1 (.t 1)⟩, ⟨some 13, some (11, true), .load none (.t 12)⟩, ⟨some 14, some (11, true), .len true (.t 13)⟩, ⟨some 15, some (11, true), .bin .leq (.t 14) (.c (.int .i64 200))⟩, ⟨some 16, none, .pick (.t 11) (.t 15) (.c (.bool false))⟩, ⟨some 17, none, .mov (.t 16)⟩, ⟨some 18, some (17, true), .faddr 2 (.t 1)⟩, ⟨some 19, some (17, true), .load none (.t 18)⟩, ⟨some 20, some (17, true), .un .not (.t 19)⟩, ⟨some 21, some (17, true), .mov (.t 20)⟩, ⟨some 22, some (21, false), .faddr 1 (.t 1)⟩, ⟨some 23, some (21, false), .load none (.t 22)⟩, ⟨some 24, some (21, false), .bin .eql (.t 23) (.c (.str []))⟩, ⟨some 25, some (17, true), .pick (.t 21) (.c (.bool true)) (.t 24)⟩, ⟨some 26, none, .pick (.t 17) (.t 25) (.c (.bool false))⟩, ⟨some 2, none, .mov (.t 26)⟩] none)
 .ret))
theorem f102 : FnIs Try.prog 102 27 c102 [.tmp 2] := ⟨_, Try.func102, rfl, by kernel_rfl, rfl⟩
def c103 : AC := (.seq (.reg [⟨some 2, none, .mov (.c (.sl 3 [] (.exact 0)))⟩] none)
 (.seq (.reg [⟨some 3, none, .mov (.c (.int .i64 0))⟩] none)
 (.seq (.seq (.reg [⟨some 9, none, .mov (.t 0)⟩, ⟨some 10, none, .len false (.t 9)⟩, ⟨some 11, none, .mov (.c (.int .i64 0))⟩] none)
 (.block 0 (.loop (.seq (.reg [⟨some 12, none, .bin .lss (.t 11) (.t 10)⟩] none)
 (.seq (.cond (.t 12) .skip (.exit 0))
 (.seq (.block 1 (.seq (.reg [⟨some 13, none, .iaddr 1 (.t 9) (.t 11)⟩, ⟨some 14, none, .load none (.t 13)⟩, ⟨some 5, none, .mov (.t 14)⟩] none)
 (.seq (.reg [⟨some 15, none, .mov (.t 3)⟩, ⟨some 16, none, .mov (.t 5)⟩, ⟨some 17, none, .len false (.t 16)⟩, ⟨some 18, none, .bin .add (.t 15) (.t 17)⟩, ⟨some 3, none, .mov (.t 18)⟩] none)
 (.seq (.reg [⟨some 19, none, .mov (.t 3)⟩, ⟨some 20, none, .bin .lss (.t 19) (.c (.int .i64 0))⟩] none)
 (.cond (.t 20) (.reg [⟨some 21, none, .ifc 9 (.c (.str [108, 101, 110, 32, 111, 117, 116, 32, 111, 102, 32, 114, 97, 110, 103, 101]))⟩, ⟨none, none, .pan (.t 21)⟩] none) .skip)))))
 (.reg [⟨some 22, none, .bin .add (.t 11) (.c (.int .i64 1))⟩, ⟨some 11, none, .mov (.t 22)⟩] none)))))))
 (.seq (.reg [⟨some 23, none, .mov (.t 3)⟩, ⟨some 24, none, .call 137 [(.c (.sl 3 [] (.exact 0))), (.t 23)]⟩, ⟨some 6, none, .mov (.t 24)⟩] none)
 (.seq (.seq (.reg [⟨some 25, none, .mov (.t 0)⟩, ⟨some 26, none, .len false (.t 25)⟩, ⟨some 27, none, .mov (.c (.int .i64 0))⟩] none)
 (.block 2 (.loop (.seq (.reg [⟨some 28, none, .bin .lss (.t 27) (.t 26)⟩] none)
 (.seq (.cond (.t 28) .skip (.exit 2))
 (.seq (.block 3 (.seq (.reg [⟨some 29, none, .iaddr 1 (.t 25) (.t 27)⟩, ⟨some 30, none, .load none (.t 29)⟩, ⟨some 8, none, .mov (.t 30)⟩] none)
 (.reg [⟨some 31, none, .mov (.t 6)⟩, ⟨some 32, none, .mov (.t 8)⟩, ⟨some 33, none, .app false 3 32 (.t 31) (.t 32)⟩, ⟨some 6, none, .mov (.t 33)⟩] none)))
 (.reg [⟨some 34, none, .bin .add (.t 27) (.c (.int .i64 1))⟩, ⟨some 27, none, .mov (.t 34)⟩] none)))))))
 (.seq (.reg [⟨some 35, none, .mov (.t 6)⟩, ⟨some 2, none, .mov (.t 35)⟩] none)
 .ret))))))
theorem f103 : FnIs Try.prog 103 36 c103 [.tmp 2] := ⟨_, Try.func103, rfl, by kernel_rfl, rfl⟩
def c104 : AC := (.seq (.reg [⟨some 6, none, .mov (.c (.sl 1 [] (.exact 0)))⟩] none)
 (.seq (.reg [⟨some 8, none, .mov (.t 0)⟩, ⟨some 9, none, .mov (.t 1)⟩, ⟨some 10, none, .mov (.t 2)⟩, ⟨some 11, none, .mov (.t 0)⟩, ⟨some 12, none, .len false (.t 11)⟩, ⟨some 13, none, .slc false 1 (.t 8) (some (.t 9)) (some (.t 10)) (some (.t 12))⟩] none)
 (.seq (.seq (.reg [⟨some 14, none, .mov (.t 1)⟩, ⟨some 15, none, .mov (.t 2)⟩, ⟨some 16, none, .bin .eql (.t 14) (.t 15)⟩] none)
 (.cond (.t 16) (.seq (.reg [⟨some 17, none, .mov (.t 0)⟩, ⟨some 6, none, .mov (.t 17)⟩] none)
 .ret) .skip))
 (.seq (.reg [⟨some 18, none, .mov (.t 0)⟩, ⟨some 19, none, .len false (.t 18)⟩, ⟨some 7, none, .mov (.t 19)⟩] none)
 (.seq (.reg [⟨some 20, none, .mov (.t 0)⟩, ⟨some 21, none, .mov (.t 1)⟩, ⟨some 22, none, .slc false 1 (.t 20) none (some (.t 21)) none⟩, ⟨some 23, none, .mov (.t 0)⟩, ⟨some 24, none, .mov (.t 2)⟩, ⟨some 25, none, .slc false 1 (.t 23) (some (.t 24)) none none⟩, ⟨some 26, none, .app false 1 16 (.t 22) (.t 25)⟩, ⟨some 0, none, .mov (.t 26)⟩] (some []))
 (.seq (.reg [⟨some 27, none, .mov (.t 0)⟩, ⟨some 28, none, .mov (.t 0)⟩, ⟨some 29, none, .len false (.t 28)⟩, ⟨some 30, none, .mov (.t 7)⟩, ⟨some 31, none, .slc false 1 (.t 27) (some (.t 29)) (some (.t 30)) none⟩, ⟨none, none, .clr 1 [.str []] (.t 31)⟩] none)
 (.seq (.reg [⟨some 32, none, .mov (.t 0)⟩, ⟨some 6, none, .mov (.t 32)⟩] none)
 .ret)))))))
theorem f104 : FnIs Try.prog 104 33 c104 [.tmp 6] := ⟨_, Try.func104, rfl, by kernel_rfl, rfl⟩
def c105 : AC := (.seq (.reg [⟨some 4, none, .mov (.c (.str []))⟩, ⟨some 5, none, .mov (.c (.int .i64 0))⟩] none)
 (.seq (.seq (.reg [⟨some 6, none, .mov (.c (.int .i64 0))⟩] none)
 (.block 0 (.loop (.seq (.seq (.reg [⟨some 7, none, .mov (.t 6)⟩, ⟨some 8, none, .mov (.t 0)⟩, ⟨some 9, none, .len false (.t 8)⟩, ⟨some 10, none, .bin .lss (.t 7) (.t 9)⟩] none)
 (.cond (.t 10) .skip (.exit 0)))
 (.seq (.block 1 (.seq (.reg [⟨some 13, none, .mov (.t 0)⟩, ⟨some 14, none, .mov (.t 6)⟩, ⟨some 15, none, .iaddr 2 (.t 13) (.t 14)⟩, ⟨some 16, none, .faddr 0 (.t 15)⟩, ⟨some 17, none, .load none (.t 16)⟩, ⟨some 18, none, .mov (.t 1)⟩, ⟨some 19, none, .bin .eql (.t 17) (.t 18)⟩] none)
 (.cond (.t 19) (.seq (.reg [⟨some 20, none, .mov (.t 0)⟩, ⟨some 21, none, .mov (.t 6)⟩, ⟨some 22, none, .iaddr 2 (.t 20) (.t 21)⟩, ⟨some 23, none, .faddr 1 (.t 22)⟩, ⟨some 24, none, .load none (.t 23)⟩, ⟨some 4, none, .mov (.t 24)⟩, ⟨some 5, none, .mov (.c (.int .i64 0))⟩] none)
 .ret) .skip)))
 (.reg [⟨some 11, none, .mov (.t 6)⟩, ⟨some 12, none, .bin .add (.t 11) (.c (.int .i64 1))⟩, ⟨some 6, none, .mov (.t 12)⟩] none))))))
 (.seq (.reg [⟨some 4, none, .mov (.c (.str []))⟩, ⟨some 5, none, .mov (.c (.int .i64 7))⟩] none)
 .ret)))
theorem f105 : FnIs Try.prog 105 25 c105 [.tmp 4, .tmp 5] := ⟨_, Try.func105, rfl, by kernel_rfl, rfl⟩
def c106 : AC := (.seq (.reg [⟨some 10, none, .load none (.t 1)⟩, ⟨some 11, none, .nilck (.t 10)⟩, ⟨some 12, none, .faddr 0 (.t 11)⟩, ⟨some 13, none, .load none (.t 12)⟩, ⟨some 14, none, .load none (.t 2)⟩, ⟨some 15, none, .call 81 [(.t 13), (.t 14)]⟩, ⟨some 9, none, .mov (.t 15)⟩, ⟨some 16, none, .ext (.t 9) 0⟩, ⟨some 17, none, .ext (.t 9) 1⟩, ⟨some 5, none, .mov (.t 16)⟩, ⟨some 6, none, .mov (.t 17)⟩] (some [(0, 4), (3, 4)]))
 (.seq (.reg [⟨some 18, none, .load none (.t 1)⟩, ⟨some 19, none, .nilck (.t 18)⟩, ⟨some 20, none, .faddr 0 (.t 19)⟩, ⟨some 21, none, .load none (.t 20)⟩, ⟨some 22, none, .mov (.t 5)⟩, ⟨some 23, none, .slc false 1 (.t 21) (some (.t 22)) none none⟩, ⟨some 24, none, .len false (.t 23)⟩, ⟨some 25, none, .mov (.c (.int .i64 0))⟩] none)
 (.block 0 (.loop (.seq (.reg [⟨some 26, none, .bin .lss (.t 25) (.t 24)⟩] none)
 (.seq (.cond (.t 26) .skip (.exit 0))
 (.seq (.block 1 (.seq (.reg [⟨some 27, none, .iaddr 1 (.t 23) (.t 25)⟩, ⟨some 28, none, .load none (.t 27)⟩, ⟨some 8, none, .mov (.t 28)⟩] none)
 (.seq (.reg [⟨some 29, none, .load none (.t 3)⟩, ⟨some 30, none, .bin .neq (.t 29) (.c (.str []))⟩, ⟨some 31, none, .mov (.t 30)⟩, ⟨some 32, some (31, true), .mov (.t 8)⟩, ⟨some 33, some (31, true), .load none (.t 3)⟩, ⟨some 34, some (31, true), .bin .geq (.t 32) (.t 33)⟩, ⟨some 35, none, .pick (.t 31) (.t 34) (.c (.bool false))⟩, ⟨some 36, none, .mov (.t 35)⟩, ⟨some 37, some (36, false), .mov (.t 0)⟩, ⟨some 38, some (36, false), .mov (.t 8)⟩, ⟨some 39, some (36, false), .callv (.t 37) [(.t 38)]⟩, ⟨some 40, some (36, false), .un .not (.t 39)⟩, ⟨some 41, none, .pick (.t 36) (.c (.bool true)) (.t 40)⟩] none)
 (.cond (.t 41) .ret .skip))))
 (.reg [⟨some 42, none, .bin .add (.t 25) (.c (.int .i64 1))⟩, ⟨some 25, none, .mov (.t 42)⟩] none))))))))
theorem f106 : FnIs Try.prog 106 43 c106 [] := ⟨_, Try.func106, rfl, by kernel_rfl, rfl⟩
def c107 : AC := (.seq (.reg [⟨some 2, none, .box (.t 0)⟩, ⟨some 3, none, .box (.t 1)⟩, ⟨some 4, none, .mov (.c (.int .i64 0))⟩] none)
 (.seq (.reg [⟨some 5, none, .load none (.t 2)⟩, ⟨some 6, none, .len false (.t 5)⟩, ⟨some 7, none, .mkfn (.func 139) [] [(.t 2), (.t 3)]⟩, ⟨some 8, none, .call 138 [(.t 6), (.t 7)]⟩, ⟨some 4, none, .mov (.t 8)⟩] none)
 .ret))
theorem f107 : FnIs Try.prog 107 9 c107 [.tmp 4] := ⟨_, Try.func107, rfl, by kernel_rfl, rfl⟩
def c108 : AC := (.seq (.reg [⟨some 1, none, .box (.t 0)⟩, ⟨some 2, none, .mov (.c (.bool false))⟩] none)
 (.seq (.reg [⟨some 3, none, .faddr 0 (.t 1)⟩, ⟨some 4, none, .load none (.t 3)⟩, ⟨some 5, none, .bin .geq (.t 4) (.c (.int .i64 1))⟩, ⟨some 6, none, .mov (.t 5)⟩, ⟨some 7, some (6, true), .faddr 0 (.t 1)⟩, ⟨some 8, some (6, true), .load none (.t 7)⟩, ⟨some 9, some (6, true), .bin .leq (.t 8) (.c (.int .i64 1152921504606846976))⟩, ⟨some 10, none, .pick (.t 6) (.t 9) (.c (.bool false))⟩, ⟨some 11, none, .mov (.t 10)⟩, ⟨some 12, some (11, true), .faddr 1 (.t 1)⟩, ⟨some 13, some (11, true), .load none (.t 12)⟩, ⟨some 14, some (11, true), .len true (.t 13)⟩, ⟨some 15, some (11, true), .bin .leq (.t 14) (.c (.int .i64 200))⟩, ⟨some 16, none, .pick (.t 11) (.t 15) (.c (.bool false))⟩, ⟨some 17, none, .mov (.t 16)⟩, ⟨some 18, some (17, true), .faddr 2 (.t 1)⟩, ⟨some 19, some (17, true), .load none (.t 18)⟩, ⟨some 20, some (17, true), .un .not (.t 19)⟩, ⟨some 21, some (17, true), .mov (.t 20)⟩, ⟨some 22, some (21, false), .faddr 1 (.t 1)⟩, ⟨some 23, some (21, false), .load none (.t 22)⟩, ⟨some 24, some (21, false), .bin .eql (.t 23) (.c (.str []))⟩, ⟨some 25, some (17, true), .pick (.t 21) (.c (.bool true)) (.t 24)⟩, ⟨some 26, none, .pick (.t 17) (.t 25) (.c (.bool false))⟩, ⟨some 2, none, .mov (.t 26)⟩] none)
 .ret))
theorem f108 : FnIs Try.prog 108 27 c108 [.tmp 2] := ⟨_, Try.func108, rfl, by kernel_rfl, rfl⟩
def c109 : AC := (.seq (.reg [⟨some 4, none, .mov (.c (.bool false))⟩] none)
 (.seq (.seq (.reg [⟨some 6, none, .mov (.t 0)⟩, ⟨some 7, none, .len false (.t 6)⟩, ⟨some 8, none, .mov (.t 1)⟩, ⟨some 9, none, .len false (.t 8)⟩, ⟨some 10, none, .bin .neq (.t 7) (.t 9)⟩] none)
 (.cond (.t 10) (.seq (.reg [⟨some 4, none, .mov (.c (.bool false))⟩] none)
 .ret) .skip))
 (.seq (.seq (.reg [⟨some 5, none, .mov (.c (.int .i64 0))⟩] none)
 (.block 0 (.loop (.seq (.seq (.reg [⟨some 11, none, .mov (.t 5)⟩, ⟨some 12, none, .mov (.t 0)⟩, ⟨some 13, none, .len false (.t 12)⟩, ⟨some 14, none, .bin .lss (.t 11) (.t 13)⟩] none)
 (.cond (.t 14) .skip (.exit 0)))
 (.seq (.block 1 (.seq (.reg [⟨some 17, none, .mov (.t 0)⟩, ⟨some 18, none, .mov (.t 5)⟩, ⟨some 19, none, .iaddr 3 (.t 17) (.t 18)⟩, ⟨some 20, none, .load (some 3) (.t 19)⟩, ⟨some 21, none, .mov (.t 1)⟩, ⟨some 22, none, .mov (.t 5)⟩, ⟨some 23, none, .iaddr 3 (.t 21) (.t 22)⟩, ⟨some 24, none, .load (some 3) (.t 23)⟩, ⟨some 25, none, .eqA true [.int, .str, .bool] (.t 20) (.t 24)⟩] (some [(3, 7)]))
 (.cond (.t 25) (.seq (.reg [⟨some 4, none, .mov (.c (.bool false))⟩] none)
 .ret) .skip)))
 (.reg [⟨some 15, none, .mov (.t 5)⟩, ⟨some 16, none, .bin .add (.t 15) (.c (.int .i64 1))⟩, ⟨some 5, none, .mov (.t 16)⟩] none))))))
 (.seq (.reg [⟨some 4, none, .mov (.c (.bool true))⟩] none)
 .ret))))
theorem f109 : FnIs Try.prog 109 26 c109 [.tmp 4] := ⟨_, Try.func109, rfl, by kernel_rfl, rfl⟩
def c110 : AC := (.seq (.reg [⟨some 2, none, .box (.t 0)⟩, ⟨some 4, none, .mov (.c (.int .i64 0))⟩] none)
 (.seq (.seq (.reg [⟨some 5, none, .mov (.t 1)⟩, ⟨some 6, none, .faddr 2 (.t 2)⟩, ⟨some 7, none, .load none (.t 6)⟩, ⟨some 8, none, .bin .lss (.t 5) (.t 7)⟩] none)
 (.cond (.t 8) (.seq (.reg [⟨some 4, none, .mov (.c (.int .i64 12))⟩] none)
 .ret) .skip))
 (.seq (.seq (.reg [⟨some 9, none, .mov (.t 1)⟩, ⟨some 10, none, .faddr 1 (.t 2)⟩, ⟨some 11, none, .load none (.t 10)⟩, ⟨some 12, none, .bin .gtr (.t 9) (.t 11)⟩] none)
 (.cond (.t 12) (.seq (.reg [⟨some 4, none, .mov (.c (.int .i64 13))⟩] none)
 .ret) .skip))
 (.seq (.reg [⟨some 4, none, .mov (.c (.int .i64 0))⟩] none)
 .ret))))
theorem f110 : FnIs Try.prog 110 13 c110 [.tmp 4] := ⟨_, Try.func110, rfl, by kernel_rfl, rfl⟩
def c111 : AC := (.seq (.reg [⟨some 4, none, .mov (.c (.str []))⟩, ⟨some 5, none, .mov (.c (.bool false))⟩] none)
 (.seq (.seq (.reg [⟨some 7, none, .mov (.t 0)⟩, ⟨some 8, none, .call 67 [(.t 7)]⟩, ⟨some 9, none, .un .not (.t 8)⟩] none)
 (.cond (.t 9) (.seq (.reg [⟨some 4, none, .mov (.c (.str []))⟩, ⟨some 5, none, .mov (.c (.bool false))⟩] none)
 .ret) .skip))
 (.seq (.seq (.reg [⟨some 6, none, .mov (.c (.int .i64 0))⟩] none)
 (.block 0 (.loop (.seq (.seq (.reg [⟨some 10, none, .mov (.t 6)⟩, ⟨some 11, none, .mov (.t 0)⟩, ⟨some 12, none, .len false (.t 11)⟩, ⟨some 13, none, .bin .lss (.t 10) (.t 12)⟩] none)
 (.cond (.t 13) .skip (.exit 0)))
 (.seq (.block 1 (.seq (.reg [⟨some 16, none, .mov (.t 0)⟩, ⟨some 17, none, .mov (.t 6)⟩, ⟨some 18, none, .iaddr 3 (.t 16) (.t 17)⟩, ⟨some 19, none, .faddr 0 (.t 18)⟩, ⟨some 20, none, .load none (.t 19)⟩, ⟨some 21, none, .mov (.t 1)⟩, ⟨some 22, none, .bin .leq (.t 20) (.t 21)⟩] none)
 (.cond (.t 22) (.seq (.reg [⟨some 23, none, .mov (.t 0)⟩, ⟨some 24, none, .mov (.t 6)⟩, ⟨some 25, none, .iaddr 3 (.t 23) (.t 24)⟩, ⟨some 26, none, .faddr 1 (.t 25)⟩, ⟨some 27, none, .load none (.t 26)⟩, ⟨some 28, none, .mov (.t 0)⟩, ⟨some 29, none, .mov (.t 6)⟩, ⟨some 30, none, .iaddr 3 (.t 28) (.t 29)⟩, ⟨some 31, none, .faddr 2 (.t 30)⟩, ⟨some 32, none, .load none (.t 31)⟩, ⟨some 33, none, .un .not (.t 32)⟩, ⟨some 4, none, .mov (.t 27)⟩, ⟨some 5, none, .mov (.t 33)⟩] (some [(4, 9)]))
 .ret) .skip)))
 (.reg [⟨some 14, none, .mov (.t 6)⟩, ⟨some 15, none, .bin .add (.t 14) (.c (.int .i64 1))⟩, ⟨some 6, none, .mov (.t 15)⟩] none))))))
 (.seq (.reg [⟨some 4, none, .mov (.c (.str []))⟩, ⟨some 5, none, .mov (.c (.bool false))⟩] none)
 .ret))))
theorem f111 : FnIs Try.prog 111 34 c111 [.tmp 4, .tmp 5] := ⟨_, Try.func111, rfl, by kernel_rfl, rfl⟩
def c112 : AC := (.seq (.reg [⟨some 2, none, .box (.t 0)⟩, ⟨some 4, none, .mov (.c (.sl 3 [] (.exact 0)))⟩] none)
 (.seq (.seq (.reg [⟨some 5, none, .mov (.c (.int .i64 0))⟩] none)
 (.block 0 (.loop (.seq (.seq (.reg [⟨some 6, none, .mov (.t 5)⟩, ⟨some 7, none, .faddr 0 (.t 2)⟩, ⟨some 8, none, .load none (.t 7)⟩, ⟨some 9, none, .len false (.t 8)⟩, ⟨some 10, none, .bin .lss (.t 6) (.t 9)⟩] none)
 (.cond (.t 10) .skip (.exit 0)))
 (.seq (.block 1 (.seq (.reg [⟨some 13, none, .faddr 0 (.t 2)⟩, ⟨some 14, none, .load none (.t 13)⟩, ⟨some 15, none, .mov (.t 5)⟩, ⟨some 16, none, .iaddr 2 (.t 14) (.t 15)⟩, ⟨some 17, none, .faddr 0 (.t 16)⟩, ⟨some 18, none, .load none (.t 17)⟩, ⟨some 19, none, .mov (.t 1)⟩, ⟨some 20, none, .bin .eql (.t 18) (.t 19)⟩] none)
 (.cond (.t 20) (.seq (.reg [⟨some 21, none, .faddr 0 (.t 2)⟩, ⟨some 22, none, .load none (.t 21)⟩, ⟨some 23, none, .mov (.t 5)⟩, ⟨some 24, none, .iaddr 2 (.t 22) (.t 23)⟩, ⟨some 25, none, .faddr 1 (.t 24)⟩, ⟨some 26, none, .load none (.t 25)⟩, ⟨some 4, none, .mov (.t 26)⟩] none)
 .ret) .skip)))
 (.reg [⟨some 11, none, .mov (.t 5)⟩, ⟨some 12, none, .bin .add (.t 11) (.c (.int .i64 1))⟩, ⟨some 5, none, .mov (.t 12)⟩] none))))))
 (.seq (.reg [⟨some 4, none, .mov (.c (.sl 3 [] (.exact 0)))⟩] none)
 .ret)))
theorem f112 : FnIs Try.prog 112 27 c112 [.tmp 4] := ⟨_, Try.func112, rfl, by kernel_rfl, rfl⟩
def c113 : AC := (.seq (.reg [⟨some 6, none, .mov (.c (.bool false))⟩] none)
 (.seq (.reg [⟨some 7, none, .mov (.t 0)⟩, ⟨some 8, none, .mov (.t 1)⟩, ⟨some 9, none, .call 66 [(.t 7), (.t 8)]⟩, ⟨some 10, none, .un .not (.t 9)⟩, ⟨some 11, none, .mov (.t 10)⟩, ⟨some 12, some (11, true), .mov (.t 2)⟩, ⟨some 13, some (11, true), .bin .eql (.t 12) (.c (.str []))⟩, ⟨some 14, some (11, true), .mov (.t 13)⟩, ⟨some 15, some (14, false), .mov (.t 0)⟩, ⟨some 16, some (14, false), .mov (.t 2)⟩, ⟨some 17, some (14, false), .call 66 [(.t 15), (.t 16)]⟩, ⟨some 18, some (11, true), .pick (.t 14) (.c (.bool true)) (.t 17)⟩, ⟨some 19, none, .pick (.t 11) (.t 18) (.c (.bool false))⟩, ⟨some 6, none, .mov (.t 19)⟩] none)
 .ret))
theorem f113 : FnIs Try.prog 113 20 c113 [.tmp 6] := ⟨_, Try.func113, rfl, by kernel_rfl, rfl⟩
def c114 : AC := (.seq (.reg [⟨some 4, none, .mov (.c (.bool false))⟩] none)
 (.seq (.reg [⟨some 5, none, .mov (.t 0)⟩, ⟨some 6, none, .call 67 [(.t 5)]⟩, ⟨some 7, none, .mov (.t 6)⟩, ⟨some 8, some (7, true), .mov (.t 0)⟩, ⟨some 9, some (7, true), .len false (.t 8)⟩, ⟨some 10, some (7, true), .bin .gtr (.t 9) (.c (.int .i64 0))⟩, ⟨some 11, none, .pick (.t 7) (.t 10) (.c (.bool false))⟩, ⟨some 12, none, .mov (.t 11)⟩, ⟨some 13, some (12, true), .mov (.t 0)⟩, ⟨some 14, some (12, true), .iaddr 3 (.t 13) (.c (.int .i64 0))⟩, ⟨some 15, some (12, true), .faddr 0 (.t 14)⟩, ⟨some 16, some (12, true), .load none (.t 15)⟩, ⟨some 17, some (12, true), .mov (.t 1)⟩, ⟨some 18, some (12, true), .bin .gtr (.t 16) (.t 17)⟩, ⟨some 19, none, .pick (.t 12) (.t 18) (.c (.bool false))⟩, ⟨some 4, none, .mov (.t 19)⟩] none)
 .ret))
theorem f114 : FnIs Try.prog 114 20 c114 [.tmp 4] := ⟨_, Try.func114, rfl, by kernel_rfl, rfl⟩
def c115 : AC := (.seq (.reg [⟨some 4, none, .mov (.c (.sl 3 [] (.exact 0)))⟩] none)
 (.seq (.seq (.reg [⟨some 7, none, .mov (.t 0)⟩, ⟨some 8, none, .call 67 [(.t 7)]⟩, ⟨some 9, none, .un .not (.t 8)⟩] none)
 (.cond (.t 9) (.seq (.reg [⟨some 4, none, .mov (.c (.sl 3 [] (.exact 0)))⟩] none)
 .ret) .skip))
 (.seq (.reg [⟨some 5, none, .mov (.c (.sl 3 [] (.exact 0)))⟩] none)
 (.seq (.seq (.reg [⟨some 6, none, .mov (.c (.int .i64 0))⟩] none)
 (.block 0 (.loop (.seq (.seq (.reg [⟨some 10, none, .mov (.t 6)⟩, ⟨some 11, none, .mov (.t 0)⟩, ⟨some 12, none, .len false (.t 11)⟩, ⟨some 13, none, .bin .lss (.t 10) (.t 12)⟩] none)
 (.cond (.t 13) .skip (.exit 0)))
 (.seq (.block 1 (.seq (.seq (.reg [⟨some 16, none, .mov (.t 0)⟩, ⟨some 17, none, .mov (.t 6)⟩, ⟨some 18, none, .iaddr 3 (.t 16) (.t 17)⟩, ⟨some 19, none, .faddr 0 (.t 18)⟩, ⟨some 20, none, .load none (.t 19)⟩, ⟨some 21, none, .mov (.t 1)⟩, ⟨some 22, none, .bin .leq (.t 20) (.t 21)⟩] none)
 (.cond (.t 22) (.seq (.seq (.reg [⟨some 23, none, .mov (.t 0)⟩, ⟨some 24, none, .mov (.t 6)⟩, ⟨some 25, none, .iaddr 3 (.t 23) (.t 24)⟩, ⟨some 26, none, .faddr 2 (.t 25)⟩, ⟨some 27, none, .load none (.t 26)⟩, ⟨some 28, none, .un .not (.t 27)⟩] none)
 (.cond (.t 28) (.reg [⟨some 29, none, .mov (.t 5)⟩, ⟨some 30, none, .mov (.t 0)⟩, ⟨some 31, none, .mov (.t 6)⟩, ⟨some 32, none, .iaddr 3 (.t 30) (.t 31)⟩, ⟨some 33, none, .load (some 3) (.t 32)⟩, ⟨some 34, none, .buildSl 3 [(.t 33)]⟩, ⟨some 35, none, .app false 3 32 (.t 29) (.t 34)⟩, ⟨some 5, none, .mov (.t 35)⟩] none) .skip))
 (.seq (.reg [⟨some 36, none, .mov (.t 5)⟩, ⟨some 4, none, .mov (.t 36)⟩] none)
 .ret)) .skip))
 (.reg [⟨some 37, none, .mov (.t 5)⟩, ⟨some 38, none, .mov (.t 0)⟩, ⟨some 39, none, .mov (.t 6)⟩, ⟨some 40, none, .iaddr 3 (.t 38) (.t 39)⟩, ⟨some 41, none, .load (some 3) (.t 40)⟩, ⟨some 42, none, .buildSl 3 [(.t 41)]⟩, ⟨some 43, none, .app false 3 32 (.t 37) (.t 42)⟩, ⟨some 5, none, .mov (.t 43)⟩] none)))
 (.reg [⟨some 14, none, .mov (.t 6)⟩, ⟨some 15, none, .bin .add (.t 14) (.c (.int .i64 1))⟩, ⟨some 6, none, .mov (.t 15)⟩] none))))))
 (.seq (.reg [⟨some 44, none, .mov (.t 5)⟩, ⟨some 4, none, .mov (.t 44)⟩] none)
 .ret)))))
theorem f115 : FnIs Try.prog 115 45 c115 [.tmp 4] := ⟨_, Try.func115, rfl, by kernel_rfl, rfl⟩
def c116 : AC := (.seq (.reg [⟨some 2, none, .mov (.c (.bool false))⟩] none)
 (.seq (.seq (.reg [⟨some 3, none, .mov (.c (.int .i64 0))⟩] none)
 (.block 0 (.loop (.seq (.seq (.reg [⟨some 5, none, .mov (.t 3)⟩, ⟨some 6, none, .mov (.t 0)⟩, ⟨some 7, none, .len false (.t 6)⟩, ⟨some 8, none, .bin .lss (.t 5) (.t 7)⟩] none)
 (.cond (.t 8) .skip (.exit 0)))
 (.seq (.block 1 (.seq (.seq (.reg [⟨some 11, none, .mov (.t 0)⟩, ⟨some 12, none, .mov (.t 3)⟩, ⟨some 13, none, .iaddr 3 (.t 11) (.t 12)⟩, ⟨some 14, none, .faddr 0 (.t 13)⟩, ⟨some 15, none, .load none (.t 14)⟩, ⟨some 16, none, .len true (.t 15)⟩, ⟨some 17, none, .bin .gtr (.t 16) (.c (.int .i64 128))⟩, ⟨some 18, none, .mov (.t 17)⟩, ⟨some 19, some (18, false), .mov (.t 0)⟩, ⟨some 20, some (18, false), .mov (.t 3)⟩, ⟨some 21, some (18, false), .iaddr 3 (.t 19) (.t 20)⟩, ⟨some 22, some (18, false), .faddr 1 (.t 21)⟩, ⟨some 23, some (18, false), .load none (.t 22)⟩, ⟨some 24, some (18, false), .len true (.t 23)⟩, ⟨some 25, some (18, false), .bin .gtr (.t 24) (.c (.int .i64 200))⟩, ⟨some 26, none, .pick (.t 18) (.c (.bool true)) (.t 25)⟩, ⟨some 27, none, .mov (.t 26)⟩, ⟨some 28, some (27, false), .mov (.t 0)⟩, ⟨some 29, some (27, false), .mov (.t 3)⟩, ⟨some 30, some (27, false), .iaddr 3 (.t 28) (.t 29)⟩, ⟨some 31, some (27, false), .faddr 2 (.t 30)⟩, ⟨some 32, some (27, false), .load none (.t 31)⟩, ⟨some 33, some (27, false), .mov (.t 32)⟩, ⟨some 34, some (33, true), .mov (.t 0)⟩, ⟨some 35, some (33, true), .mov (.t 3)⟩, ⟨some 36, some (33, true), .iaddr 3 (.t 34) (.t 35)⟩, ⟨some 37, some (33, true), .faddr 1 (.t 36)⟩, ⟨some 38, some (33, true), .load none (.t 37)⟩, ⟨some 39, some (33, true), .bin .neq (.t 38) (.c (.str []))⟩, ⟨some 40, some (27, false), .pick (.t 33) (.t 39) (.c (.bool false))⟩, ⟨some 41, none, .pick (.t 27) (.c (.bool true)) (.t 40)⟩] none)
 (.cond (.t 41) (.seq (.reg [⟨some 2, none, .mov (.c (.bool false))⟩] none)
 .ret) .skip))
 (.seq (.reg [⟨some 4, none, .mov (.c (.int .i64 0))⟩] none)
 (.block 2 (.loop (.seq (.seq (.reg [⟨some 42, none, .mov (.t 4)⟩, ⟨some 43, none, .mov (.t 3)⟩, ⟨some 44, none, .bin .lss (.t 42) (.t 43)⟩] none)
 (.cond (.t 44) .skip (.exit 2)))
 (.seq (.block 3 (.seq (.reg [⟨some 47, none, .mov (.t 0)⟩, ⟨some 48, none, .mov (.t 4)⟩, ⟨some 49, none, .iaddr 3 (.t 47) (.t 48)⟩, ⟨some 50, none, .faddr 0 (.t 49)⟩, ⟨some 51, none, .load none (.t 50)⟩, ⟨some 52, none, .mov (.t 0)⟩, ⟨some 53, none, .mov (.t 3)⟩, ⟨some 54, none, .iaddr 3 (.t 52) (.t 53)⟩, ⟨some 55, none, .faddr 0 (.t 54)⟩, ⟨some 56, none, .load none (.t 55)⟩, ⟨some 57, none, .bin .eql (.t 51) (.t 56)⟩] (some [(4, 9)]))
 (.cond (.t 57) (.seq (.reg [⟨some 2, none, .mov (.c (.bool false))⟩] none)
 .ret) .skip)))
 (.reg [⟨some 45, none, .mov (.t 4)⟩, ⟨some 46, none, .bin .add (.t 45) (.c (.int .i64 1))⟩, ⟨some 4, none, .mov (.t 46)⟩] none))))))))
 (.reg [⟨some 9, none, .mov (.t 3)⟩, ⟨some 10, none, .bin .add (.t 9) (.c (.int .i64 1))⟩, ⟨some 3, none, .mov (.t 10)⟩] none))))))
 (.seq (.reg [⟨some 2, none, .mov (.c (.bool true))⟩] none)
 .ret)))
theorem f116 : FnIs Try.prog 116 58 c116 [.tmp 2] := ⟨_, Try.func116, rfl, by kernel_rfl, rfl⟩
def c117 : AC := (.seq (.reg [⟨some 3, none, .box (.t 1)⟩, ⟨some 4, none, .mov (.c (.sl 3 [] (.exact 0)))⟩, ⟨some 5, none, .mov (.c (.int .i64 0))⟩] none)
 (.seq (.seq (.reg [⟨some 6, none, .mov (.t 0)⟩, ⟨some 7, none, .call 67 [(.t 6)]⟩, ⟨some 8, none, .un .not (.t 7)⟩] none)
 (.cond (.t 8) (.seq (.reg [⟨some 4, none, .mov (.c (.sl 3 [] (.exact 0)))⟩, ⟨some 5, none, .mov (.c (.int .i64 4))⟩] none)
 .ret) .skip))
 (.seq (.seq (.reg [⟨some 9, none, .load (some 3) (.t 3)⟩, ⟨some 10, none, .call 108 [(.t 9)]⟩, ⟨some 11, none, .un .not (.t 10)⟩] none)
 (.cond (.t 11) (.seq (.reg [⟨some 4, none, .mov (.c (.sl 3 [] (.exact 0)))⟩, ⟨some 5, none, .mov (.c (.int .i64 2))⟩] none)
 .ret) .skip))
 (.seq (.seq (.reg [⟨some 12, none, .mov (.t 0)⟩, ⟨some 13, none, .len false (.t 12)⟩, ⟨some 14, none, .bin .gtr (.t 13) (.c (.int .i64 0))⟩, ⟨some 15, none, .mov (.t 14)⟩, ⟨some 16, some (15, true), .faddr 0 (.t 3)⟩, ⟨some 17, some (15, true), .load none (.t 16)⟩, ⟨some 18, some (15, true), .mov (.t 0)⟩, ⟨some 19, some (15, true), .iaddr 3 (.t 18) (.c (.int .i64 0))⟩, ⟨some 20, some (15, true), .faddr 0 (.t 19)⟩, ⟨some 21, some (15, true), .load none (.t 20)⟩, ⟨some 22, some (15, true), .bin .leq (.t 17) (.t 21)⟩, ⟨some 23, none, .pick (.t 15) (.t 22) (.c (.bool false))⟩] (some [(5, 9)]))
 (.cond (.t 23) (.seq (.reg [⟨some 4, none, .mov (.c (.sl 3 [] (.exact 0)))⟩, ⟨some 5, none, .mov (.c (.int .i64 18))⟩] none)
 .ret) .skip))
 (.seq (.reg [⟨some 24, none, .load (some 3) (.t 3)⟩, ⟨some 25, none, .buildSl 3 [(.t 24)]⟩, ⟨some 26, none, .mov (.t 0)⟩, ⟨some 27, none, .app false 3 32 (.t 25) (.t 26)⟩, ⟨some 4, none, .mov (.t 27)⟩, ⟨some 5, none, .mov (.c (.int .i64 0))⟩] none)
 .ret)))))
theorem f117 : FnIs Try.prog 117 28 c117 [.tmp 4, .tmp 5] := ⟨_, Try.func117, rfl, by kernel_rfl, rfl⟩
def c118 : AC := (.seq (.reg [⟨some 6, none, .mov (.c (.sl 2 [] (.exact 0)))⟩] none)
 (.seq (.reg [⟨some 7, none, .mov (.c (.sl 2 [] (.exact 0)))⟩] none)
 (.seq (.reg [⟨some 10, none, .mov (.t 2)⟩, ⟨some 11, none, .len false (.t 10)⟩, ⟨some 12, none, .bin .eql (.t 11) (.c (.int .i64 0))⟩, ⟨some 8, none, .mov (.t 12)⟩] none)
 (.seq (.seq (.reg [⟨some 9, none, .mov (.c (.int .i64 0))⟩] none)
 (.block 0 (.loop (.seq (.seq (.reg [⟨some 13, none, .mov (.t 9)⟩, ⟨some 14, none, .mov (.t 0)⟩, ⟨some 15, none, .len false (.t 14)⟩, ⟨some 16, none, .bin .lss (.t 13) (.t 15)⟩] none)
 (.cond (.t 16) .skip (.exit 0)))
 (.seq (.block 1 (.seq (.seq (.reg [⟨some 19, none, .mov (.t 8)⟩, ⟨some 20, none, .un .not (.t 19)⟩, ⟨some 21, none, .mov (.t 20)⟩, ⟨some 22, some (21, true), .mov (.t 0)⟩, ⟨some 23, some (21, true), .mov (.t 9)⟩, ⟨some 24, some (21, true), .iaddr 2 (.t 22) (.t 23)⟩, ⟨some 25, some (21, true), .faddr 0 (.t 24)⟩, ⟨some 26, some (21, true), .load none (.t 25)⟩, ⟨some 27, some (21, true), .mov (.t 1)⟩, ⟨some 28, some (21, true), .call 66 [(.t 26), (.t 27)]⟩, ⟨some 29, some (21, true), .un .not (.t 28)⟩, ⟨some 30, none, .pick (.t 21) (.t 29) (.c (.bool false))⟩] none)
 (.cond (.t 30) (.seq (.reg [⟨some 31, none, .mov (.t 7)⟩, ⟨some 32, none, .mov (.t 1)⟩, ⟨some 33, none, .mov (.t 2)⟩, ⟨some 34, none, .build [.str [], .sl 3 [] (.exact 0)] [(0, 1, (.t 32)), (1, 1, (.t 33))]⟩, ⟨some 35, none, .buildSl 2 [(.t 34)]⟩, ⟨some 36, none, .app false 2 40 (.t 31) (.t 35)⟩, ⟨some 7, none, .mov (.t 36)⟩] none)
 (.reg [⟨some 8, none, .mov (.c (.bool true))⟩] none)) .skip))
 (.seq (.reg [⟨some 37, none, .mov (.t 0)⟩, ⟨some 38, none, .mov (.t 9)⟩, ⟨some 39, none, .iaddr 2 (.t 37) (.t 38)⟩, ⟨some 40, none, .faddr 0 (.t 39)⟩, ⟨some 41, none, .load none (.t 40)⟩, ⟨some 42, none, .mov (.t 1)⟩, ⟨some 43, none, .bin .neq (.t 41) (.t 42)⟩] none)
 (.cond (.t 43) (.reg [⟨some 44, none, .mov (.t 7)⟩, ⟨some 45, none, .mov (.t 0)⟩, ⟨some 46, none, .mov (.t 9)⟩, ⟨some 47, none, .iaddr 2 (.t 45) (.t 46)⟩, ⟨some 48, none, .load (some 2) (.t 47)⟩, ⟨some 49, none, .buildSl 2 [(.t 48)]⟩, ⟨some 50, none, .app false 2 40 (.t 44) (.t 49)⟩, ⟨some 7, none, .mov (.t 50)⟩] none) .skip))))
 (.reg [⟨some 17, none, .mov (.t 9)⟩, ⟨some 18, none, .bin .add (.t 17) (.c (.int .i64 1))⟩, ⟨some 9, none, .mov (.t 18)⟩] none))))))
 (.seq (.seq (.reg [⟨some 51, none, .mov (.t 8)⟩, ⟨some 52, none, .un .not (.t 51)⟩] none)
 (.cond (.t 52) (.reg [⟨some 53, none, .mov (.t 7)⟩, ⟨some 54, none, .mov (.t 1)⟩, ⟨some 55, none, .mov (.t 2)⟩, ⟨some 56, none, .build [.str [], .sl 3 [] (.exact 0)] [(0, 1, (.t 54)), (1, 1, (.t 55))]⟩, ⟨some 57, none, .buildSl 2 [(.t 56)]⟩, ⟨some 58, none, .app false 2 40 (.t 53) (.t 57)⟩, ⟨some 7, none, .mov (.t 58)⟩] none) .skip))
 (.seq (.reg [⟨some 59, none, .mov (.t 7)⟩, ⟨some 6, none, .mov (.t 59)⟩] none)
 .ret))))))
theorem f118 : FnIs Try.prog 118 60 c118 [.tmp 6] := ⟨_, Try.func118, rfl, by kernel_rfl, rfl⟩
def c119 : AC := (.seq (.reg [⟨some 2, none, .box (.t 0)⟩, ⟨some 3, none, .box (.t 1)⟩, ⟨some 4, none, .mov (.c (.int .i64 0))⟩] none)
 (.seq (.reg [⟨some 8, none, .load none (.t 2)⟩, ⟨some 9, none, .mkfn (.func 141) [] [(.t 3), (.t 2)]⟩, ⟨some 10, none, .call 140 [(.t 8), (.t 9)]⟩, ⟨some 7, none, .mov (.t 10)⟩, ⟨some 11, none, .ext (.t 7) 0⟩, ⟨some 12, none, .ext (.t 7) 1⟩, ⟨some 5, none, .mov (.t 11)⟩, ⟨some 6, none, .mov (.t 12)⟩] none)
 (.seq (.reg [⟨some 13, none, .mov (.t 6)⟩, ⟨some 4, none, .mov (.t 13)⟩] none)
 .ret)))
theorem f119 : FnIs Try.prog 119 14 c119 [.tmp 4] := ⟨_, Try.func119, rfl, by kernel_rfl, rfl⟩
def c120 : AC := (.seq (.reg [⟨some 4, none, .mov (.c (.sl 2 [] (.exact 0)))⟩, ⟨some 5, none, .mov (.c (.int .i64 0))⟩] none)
 (.seq (.reg [⟨some 6, none, .mov (.c (.sl 2 [] (.exact 0)))⟩] none)
 (.seq (.seq (.reg [⟨some 10, none, .mov (.t 0)⟩, ⟨some 11, none, .call 142 [(.t 10)]⟩, ⟨some 7, none, .mov (.t 11)⟩] none)
 (.seq (.reg [⟨some 12, none, .mov (.t 7)⟩, ⟨some 13, none, .bin .neq (.t 12) (.c (.int .i64 0))⟩] none)
 (.cond (.t 13) (.seq (.reg [⟨some 14, none, .mov (.t 6)⟩, ⟨some 15, none, .mov (.t 7)⟩, ⟨some 4, none, .mov (.t 14)⟩, ⟨some 5, none, .mov (.t 15)⟩] none)
 .ret) .skip)))
 (.seq (.reg [⟨some 17, none, .mov (.t 1)⟩, ⟨some 18, none, .callv (.t 17) []⟩, ⟨some 16, none, .mov (.t 18)⟩, ⟨some 19, none, .ext (.t 16) 0⟩, ⟨some 20, none, .ext (.t 16) 1⟩, ⟨some 8, none, .mov (.t 19)⟩, ⟨some 9, none, .mov (.t 20)⟩] none)
 (.seq (.seq (.reg [⟨some 21, none, .mov (.t 9)⟩, ⟨some 22, none, .bin .neq (.t 21) (.c (.int .i64 0))⟩] none)
 (.cond (.t 22) (.seq (.reg [⟨some 23, none, .mov (.t 6)⟩, ⟨some 24, none, .mov (.t 9)⟩, ⟨some 4, none, .mov (.t 23)⟩, ⟨some 5, none, .mov (.t 24)⟩] none)
 .ret) .skip))
 (.seq (.reg [⟨some 25, none, .mov (.t 8)⟩, ⟨some 4, none, .mov (.t 25)⟩, ⟨some 5, none, .mov (.c (.int .i64 0))⟩] none)
 .ret))))))
theorem f120 : FnIs Try.prog 120 26 c120 [.tmp 4, .tmp 5] := ⟨_, Try.func120, rfl, by kernel_rfl, rfl⟩
def c121 : AC := (.seq (.reg [⟨some 4, none, .mov (.c (.sl 2 [] (.exact 0)))⟩, ⟨some 5, none, .mov (.c (.int .i64 0))⟩] none)
 (.seq (.reg [⟨some 10, none, .load none (.t 0)⟩, ⟨some 11, none, .nilck (.t 10)⟩, ⟨some 12, none, .faddr 0 (.t 11)⟩, ⟨some 13, none, .load none (.t 12)⟩, ⟨some 14, none, .load none (.t 1)⟩, ⟨some 15, none, .load none (.t 2)⟩, ⟨some 16, none, .load none (.t 0)⟩, ⟨some 17, none, .nilck (.t 16)⟩, ⟨some 18, none, .faddr 1 (.t 17)⟩, ⟨some 19, none, .load none (.t 18)⟩, ⟨some 20, none, .call 17 [(.t 13), (.t 14), (.t 15), (.t 19), (.c (.int .i64 (-1)))]⟩, ⟨some 9, none, .mov (.t 20)⟩, ⟨some 21, none, .ext (.t 9) 0⟩, ⟨some 22, none, .ext (.t 9) 1⟩, ⟨some 6, none, .mov (.t 21)⟩, ⟨some 7, none, .mov (.t 22)⟩] (some [(0, 4), (3, 4), (0, 5), (3, 5), (4, 5), (0, 6), (3, 6), (4, 6), (5, 6), (0, 9), (3, 9), (4, 9), (5, 9)]))
 (.seq (.seq (.reg [⟨some 23, none, .mov (.t 7)⟩, ⟨some 24, none, .bin .neq (.t 23) (.c (.int .i64 0))⟩, ⟨some 25, none, .mov (.t 24)⟩, ⟨some 26, some (25, false), .load none (.t 3)⟩, ⟨some 27, some (25, false), .bin .eql (.t 26) (.c (.int .i64 0))⟩, ⟨some 28, none, .pick (.t 25) (.c (.bool true)) (.t 27)⟩] none)
 (.cond (.t 28) (.seq (.reg [⟨some 29, none, .mov (.t 7)⟩, ⟨some 4, none, .mov (.c (.sl 2 [] (.exact 0)))⟩, ⟨some 5, none, .mov (.t 29)⟩] none)
 .ret) .skip))
 (.seq (.seq (.reg [⟨some 30, none, .load none (.t 2)⟩, ⟨some 31, none, .bin .eql (.t 30) (.c (.str []))⟩, ⟨some 32, none, .mov (.t 31)⟩, ⟨some 33, some (32, false), .load none (.t 1)⟩, ⟨some 34, some (32, false), .load none (.t 2)⟩, ⟨some 35, some (32, false), .bin .lss (.t 33) (.t 34)⟩, ⟨some 36, none, .pick (.t 32) (.c (.bool true)) (.t 35)⟩] none)
 (.cond (.t 36) (.reg [⟨some 37, none, .load none (.t 0)⟩, ⟨some 38, none, .mov (.t 6)⟩, ⟨some 39, none, .load none (.t 1)⟩, ⟨some 40, none, .load none (.t 2)⟩, ⟨some 41, none, .call 122 [(.t 37), (.t 38), (.t 39), (.t 40)]⟩, ⟨some 6, none, .mov (.t 41)⟩] none) .skip))
 (.seq (.seq (.reg [⟨some 42, none, .load none (.t 3)⟩, ⟨some 43, none, .bin .gtr (.t 42) (.c (.int .i64 0))⟩, ⟨some 44, none, .mov (.t 43)⟩, ⟨some 45, some (44, true), .mov (.t 6)⟩, ⟨some 46, some (44, true), .len false (.t 45)⟩, ⟨some 47, some (44, true), .load none (.t 3)⟩, ⟨some 48, some (44, true), .bin .geq (.t 46) (.t 47)⟩, ⟨some 49, none, .pick (.t 44) (.t 48) (.c (.bool false))⟩] none)
 (.cond (.t 49) (.seq (.reg [⟨some 50, none, .mov (.t 6)⟩, ⟨some 51, none, .load none (.t 3)⟩, ⟨some 52, none, .slc false 2 (.t 50) none (some (.t 51)) none⟩, ⟨some 6, none, .mov (.t 52)⟩] none)
 (.reg [⟨some 53, none, .mov (.t 6)⟩, ⟨some 54, none, .load none (.t 3)⟩, ⟨some 55, none, .bin .sub (.t 54) (.c (.int .i64 1))⟩, ⟨some 56, none, .iaddr 2 (.t 53) (.t 55)⟩, ⟨some 57, none, .faddr 0 (.t 56)⟩, ⟨some 58, none, .load none (.t 57)⟩, ⟨some 59, none, .bin .add (.t 58) (.c (.str [0]))⟩, ⟨none, none, .store 1 (.t 2) (.t 59)⟩] none)) .skip))
 (.seq (.reg [⟨some 61, none, .load none (.t 0)⟩, ⟨some 62, none, .nilck (.t 61)⟩, ⟨some 63, none, .faddr 4 (.t 62)⟩, ⟨some 64, none, .load (some 2) (.t 63)⟩, ⟨some 65, none, .load none (.t 1)⟩, ⟨some 66, none, .load none (.t 2)⟩, ⟨some 67, none, .call 41 [(.t 64), (.t 65), (.t 66)]⟩, ⟨some 60, none, .mov (.t 67)⟩, ⟨some 68, none, .ext (.t 60) 0⟩, ⟨some 69, none, .ext (.t 60) 1⟩, ⟨some 8, none, .alloc [.sl 1 [] (.exact 0), .sl 2 [] (.exact 0)]⟩, ⟨none, none, .store 2 (.t 8) (.t 68)⟩, ⟨some 7, none, .mov (.t 69)⟩] (some [(0, 4), (3, 4), (0, 5), (3, 5), (4, 5), (0, 10), (3, 10), (4, 10), (5, 10), (6, 10)]))
 (.seq (.seq (.reg [⟨some 70, none, .mov (.t 7)⟩, ⟨some 71, none, .bin .neq (.t 70) (.c (.int .i64 0))⟩] none)
 (.cond (.t 71) (.seq (.reg [⟨some 72, none, .mov (.t 7)⟩, ⟨some 4, none, .mov (.c (.sl 2 [] (.exact 0)))⟩, ⟨some 5, none, .mov (.t 72)⟩] none)
 .ret) .skip))
 (.seq (.reg [⟨some 73, none, .load none (.t 0)⟩, ⟨some 74, none, .load (some 2) (.t 8)⟩, ⟨some 75, none, .nilck (.t 73)⟩, ⟨some 76, none, .faddr 4 (.t 75)⟩, ⟨none, none, .store 2 (.t 76) (.t 74)⟩] none)
 (.seq (.reg [⟨some 77, none, .mov (.t 6)⟩, ⟨some 4, none, .mov (.t 77)⟩, ⟨some 5, none, .mov (.c (.int .i64 0))⟩] none)
 .ret)))))))))
theorem f121 : FnIs Try.prog 121 78 c121 [.tmp 4, .tmp 5] := ⟨_, Try.func121, rfl, by kernel_rfl, rfl⟩
def c122 : AC := (.seq (.reg [⟨some 4, none, .box (.t 0)⟩, ⟨some 8, none, .mov (.c (.sl 2 [] (.exact 0)))⟩] none)
 (.seq (.reg [⟨some 9, none, .alloc [.sl 2 [] (.exact 0)]⟩] none)
 (.seq (.reg [⟨some 22, none, .mkfn (.func 143) [] [(.t 4), (.t 9)]⟩, ⟨some 10, none, .mov (.t 22)⟩] none)
 (.seq (.reg [⟨some 24, none, .load none (.t 4)⟩, ⟨some 25, none, .nilck (.t 24)⟩, ⟨some 26, none, .faddr 3 (.t 25)⟩, ⟨some 27, none, .load none (.t 26)⟩, ⟨some 28, none, .mov (.t 2)⟩, ⟨some 29, none, .call 81 [(.t 27), (.t 28)]⟩, ⟨some 23, none, .mov (.t 29)⟩, ⟨some 30, none, .ext (.t 23) 0⟩, ⟨some 31, none, .ext (.t 23) 1⟩, ⟨some 11, none, .mov (.t 30)⟩, ⟨some 12, none, .mov (.t 31)⟩] none)
 (.seq (.reg [⟨some 32, none, .load none (.t 4)⟩, ⟨some 33, none, .nilck (.t 32)⟩, ⟨some 34, none, .faddr 3 (.t 33)⟩, ⟨some 35, none, .load none (.t 34)⟩, ⟨some 36, none, .mov (.t 11)⟩, ⟨some 37, none, .slc false 1 (.t 35) (some (.t 36)) none none⟩, ⟨some 13, none, .mov (.t 37)⟩] none)
 (.seq (.seq (.reg [⟨some 38, none, .mov (.t 3)⟩, ⟨some 39, none, .bin .neq (.t 38) (.c (.str []))⟩] none)
 (.cond (.t 39) (.seq (.reg [⟨some 41, none, .mov (.t 13)⟩, ⟨some 42, none, .mov (.t 3)⟩, ⟨some 43, none, .call 81 [(.t 41), (.t 42)]⟩, ⟨some 40, none, .mov (.t 43)⟩, ⟨some 44, none, .ext (.t 40) 0⟩, ⟨some 45, none, .ext (.t 40) 1⟩, ⟨some 14, none, .mov (.t 44)⟩, ⟨some 15, none, .mov (.t 45)⟩] none)
 (.reg [⟨some 46, none, .mov (.t 13)⟩, ⟨some 47, none, .mov (.t 14)⟩, ⟨some 48, none, .slc false 1 (.t 46) none (some (.t 47)) none⟩, ⟨some 13, none, .mov (.t 48)⟩] none)) .skip))
 (.seq (.seq (.reg [⟨some 49, none, .mov (.t 1)⟩, ⟨some 50, none, .len false (.t 49)⟩, ⟨some 51, none, .mov (.c (.int .i64 0))⟩] none)
 (.block 0 (.loop (.seq (.reg [⟨some 52, none, .bin .lss (.t 51) (.t 50)⟩] none)
 (.seq (.cond (.t 52) .skip (.exit 0))
 (.seq (.block 1 (.seq (.reg [⟨some 53, none, .iaddr 2 (.t 49) (.t 51)⟩, ⟨some 54, none, .load (some 2) (.t 53)⟩, ⟨some 17, none, .alloc [.str [], .str []]⟩, ⟨none, none, .store 2 (.t 17) (.t 54)⟩] none)
 (.seq (.block 2 (.loop (.seq (.seq (.reg [⟨some 55, none, .mov (.t 13)⟩, ⟨some 56, none, .len false (.t 55)⟩, ⟨some 57, none, .bin .gtr (.t 56) (.c (.int .i64 0))⟩, ⟨some 58, none, .mov (.t 57)⟩, ⟨some 59, some (58, true), .mov (.t 13)⟩, ⟨some 60, some (58, true), .iaddr 1 (.t 59) (.c (.int .i64 0))⟩, ⟨some 61, some (58, true), .load none (.t 60)⟩, ⟨some 62, some (58, true), .faddr 0 (.t 17)⟩, ⟨some 63, some (58, true), .load none (.t 62)⟩, ⟨some 64, some (58, true), .bin .lss (.t 61) (.t 63)⟩, ⟨some 65, none, .pick (.t 58) (.t 64) (.c (.bool false))⟩] (some [(6, 8)]))
 (.cond (.t 65) .skip (.exit 2)))
 (.block 3 (.seq (.reg [⟨some 66, none, .mov (.t 10)⟩, ⟨some 67, none, .mov (.t 13)⟩, ⟨some 68, none, .iaddr 1 (.t 67) (.c (.int .i64 0))⟩, ⟨some 69, none, .load none (.t 68)⟩, ⟨some 70, none, .callv (.t 66) [(.t 69)]⟩] none)
 (.reg [⟨some 71, none, .mov (.t 13)⟩, ⟨some 72, none, .slc false 1 (.t 71) (some (.c (.int .i64 1))) none none⟩, ⟨some 13, none, .mov (.t 72)⟩] none))))))
 (.seq (.reg [⟨some 74, none, .load none (.t 4)⟩, ⟨some 75, none, .nilck (.t 74)⟩, ⟨some 76, none, .faddr 2 (.t 75)⟩, ⟨some 77, none, .load none (.t 76)⟩, ⟨some 78, none, .faddr 0 (.t 17)⟩, ⟨some 79, none, .load none (.t 78)⟩, ⟨some 80, none, .mlook (.agg [.str [], .str [], .bool false]) true (.t 77) (.t 79)⟩, ⟨some 73, none, .mov (.t 80)⟩, ⟨some 81, none, .ext (.t 73) 0⟩, ⟨some 82, none, .ext (.t 73) 1⟩, ⟨some 18, none, .alloc [.str [], .str [], .bool false]⟩, ⟨none, none, .store 3 (.t 18) (.t 81)⟩, ⟨some 19, none, .mov (.t 82)⟩] (some [(0, 5), (3, 5), (0, 10), (3, 10), (5, 10), (6, 10)]))
 (.seq (.reg [⟨some 83, none, .mov (.t 19)⟩, ⟨some 84, none, .un .not (.t 83)⟩] none)
 (.cond (.t 84) (.reg [⟨some 85, none, .load none (.t 9)⟩, ⟨some 86, none, .load (some 2) (.t 17)⟩, ⟨some 87, none, .buildSl 2 [(.t 86)]⟩, ⟨some 88, none, .app false 2 32 (.t 85) (.t 87)⟩, ⟨none, none, .store 1 (.t 9) (.t 88)⟩] none) .skip))))))
 (.reg [⟨some 89, none, .bin .add (.t 51) (.c (.int .i64 1))⟩, ⟨some 51, none, .mov (.t 89)⟩] none)))))))
 (.seq (.seq (.reg [⟨some 90, none, .mov (.t 13)⟩, ⟨some 91, none, .len false (.t 90)⟩, ⟨some 92, none, .mov (.c (.int .i64 0))⟩] none)
 (.block 4 (.loop (.seq (.reg [⟨some 93, none, .bin .lss (.t 92) (.t 91)⟩] none)
 (.seq (.cond (.t 93) .skip (.exit 4))
 (.seq (.block 5 (.seq (.reg [⟨some 94, none, .iaddr 1 (.t 90) (.t 92)⟩, ⟨some 95, none, .load none (.t 94)⟩, ⟨some 21, none, .mov (.t 95)⟩] none)
 (.reg [⟨some 96, none, .mov (.t 10)⟩, ⟨some 97, none, .mov (.t 21)⟩, ⟨some 98, none, .callv (.t 96) [(.t 97)]⟩] none)))
 (.reg [⟨some 99, none, .bin .add (.t 92) (.c (.int .i64 1))⟩, ⟨some 92, none, .mov (.t 99)⟩] none)))))))
 (.seq (.reg [⟨some 100, none, .load none (.t 9)⟩, ⟨some 8, none, .mov (.t 100)⟩] none)
 .ret)))))))))
theorem f122 : FnIs Try.prog 122 101 c122 [.tmp 8] := ⟨_, Try.func122, rfl, by kernel_rfl, rfl⟩
def c123 : AC := (.seq (.reg [⟨some 4, none, .mov (.c (.str []))⟩, ⟨some 5, none, .mov (.c (.int .i64 0))⟩] none)
 (.seq (.reg [⟨some 6, none, .mov (.c (.str []))⟩] none)
 (.seq (.seq (.reg [⟨some 10, none, .mov (.t 0)⟩, ⟨some 11, none, .call 142 [(.t 10)]⟩, ⟨some 7, none, .mov (.t 11)⟩] none)
 (.seq (.reg [⟨some 12, none, .mov (.t 7)⟩, ⟨some 13, none, .bin .neq (.t 12) (.c (.int .i64 0))⟩] none)
 (.cond (.t 13) (.seq (.reg [⟨some 14, none, .mov (.t 6)⟩, ⟨some 15, none, .mov (.t 7)⟩, ⟨some 4, none, .mov (.t 14)⟩, ⟨some 5, none, .mov (.t 15)⟩] none)
 .ret) .skip)))
 (.seq (.reg [⟨some 17, none, .mov (.t 1)⟩, ⟨some 18, none, .callv (.t 17) []⟩, ⟨some 16, none, .mov (.t 18)⟩, ⟨some 19, none, .ext (.t 16) 0⟩, ⟨some 20, none, .ext (.t 16) 1⟩, ⟨some 8, none, .mov (.t 19)⟩, ⟨some 9, none, .mov (.t 20)⟩] none)
 (.seq (.seq (.reg [⟨some 21, none, .mov (.t 9)⟩, ⟨some 22, none, .bin .neq (.t 21) (.c (.int .i64 0))⟩] none)
 (.cond (.t 22) (.seq (.reg [⟨some 23, none, .mov (.t 6)⟩, ⟨some 24, none, .mov (.t 9)⟩, ⟨some 4, none, .mov (.t 23)⟩, ⟨some 5, none, .mov (.t 24)⟩] none)
 .ret) .skip))
 (.seq (.reg [⟨some 25, none, .mov (.t 8)⟩, ⟨some 4, none, .mov (.t 25)⟩, ⟨some 5, none, .mov (.c (.int .i64 0))⟩] none)
 .ret))))))
theorem f123 : FnIs Try.prog 123 26 c123 [.tmp 4, .tmp 5] := ⟨_, Try.func123, rfl, by kernel_rfl, rfl⟩
def c124 : AC := (.seq (.reg [⟨some 2, none, .mov (.c (.str []))⟩, ⟨some 3, none, .mov (.c (.int .i64 0))⟩] none)
 (.seq (.seq (.reg [⟨some 11, none, .load none (.t 0)⟩, ⟨some 12, none, .nilck (.t 11)⟩, ⟨some 13, none, .faddr 2 (.t 12)⟩, ⟨some 14, none, .load none (.t 13)⟩, ⟨some 15, none, .load none (.t 1)⟩, ⟨some 16, none, .mlook (.agg [.str [], .str [], .bool false]) true (.t 14) (.t 15)⟩, ⟨some 10, none, .mov (.t 16)⟩, ⟨some 17, none, .ext (.t 10) 0⟩, ⟨some 18, none, .ext (.t 10) 1⟩, ⟨some 4, none, .alloc [.str [], .str [], .bool false]⟩, ⟨none, none, .store 3 (.t 4) (.t 17)⟩, ⟨some 5, none, .mov (.t 18)⟩] (some [(0, 4), (3, 4), (0, 9), (3, 9), (4, 9), (5, 9)]))
 (.seq (.reg [⟨some 19, none, .mov (.t 5)⟩] none)
 (.cond (.t 19) (.seq (.seq (.reg [⟨some 20, none, .faddr 2 (.t 4)⟩, ⟨some 21, none, .load none (.t 20)⟩] none)
 (.cond (.t 21) (.seq (.reg [⟨some 2, none, .mov (.c (.str []))⟩, ⟨some 3, none, .mov (.c (.int .i64 7))⟩] none)
 .ret) .skip))
 (.seq (.reg [⟨some 22, none, .faddr 1 (.t 4)⟩, ⟨some 23, none, .load none (.t 22)⟩, ⟨some 2, none, .mov (.t 23)⟩, ⟨some 3, none, .mov (.c (.int .i64 0))⟩] none)
 .ret)) .skip)))
 (.seq (.reg [⟨some 25, none, .load none (.t 0)⟩, ⟨some 26, none, .nilck (.t 25)⟩, ⟨some 27, none, .faddr 0 (.t 26)⟩, ⟨some 28, none, .load none (.t 27)⟩, ⟨some 29, none, .load none (.t 1)⟩, ⟨some 30, none, .load none (.t 0)⟩, ⟨some 31, none, .nilck (.t 30)⟩, ⟨some 32, none, .faddr 1 (.t 31)⟩, ⟨some 33, none, .load none (.t 32)⟩, ⟨some 34, none, .call 20 [(.t 28), (.t 29), (.t 33)]⟩, ⟨some 24, none, .mov (.t 34)⟩, ⟨some 35, none, .ext (.t 24) 0⟩, ⟨some 36, none, .ext (.t 24) 1⟩, ⟨some 6, none, .mov (.t 35)⟩, ⟨some 7, none, .mov (.t 36)⟩] (some [(0, 4), (3, 4), (0, 5), (3, 5), (4, 5), (0, 8), (3, 8), (4, 8)]))
 (.seq (.seq (.reg [⟨some 37, none, .mov (.t 7)⟩, ⟨some 38, none, .bin .eql (.t 37) (.c (.int .i64 12))⟩] none)
 (.cond (.t 38) (.seq (.reg [⟨some 39, none, .mov (.t 7)⟩, ⟨some 2, none, .mov (.c (.str []))⟩, ⟨some 3, none, .mov (.t 39)⟩] none)
 .ret) .skip))
 (.seq (.reg [⟨some 41, none, .load none (.t 0)⟩, ⟨some 42, none, .nilck (.t 41)⟩, ⟨some 43, none, .faddr 4 (.t 42)⟩, ⟨some 44, none, .load (some 2) (.t 43)⟩, ⟨some 45, none, .load none (.t 1)⟩, ⟨some 46, none, .call 39 [(.t 44), (.t 45)]⟩, ⟨some 40, none, .mov (.t 46)⟩, ⟨some 47, none, .ext (.t 40) 0⟩, ⟨some 48, none, .ext (.t 40) 1⟩, ⟨some 8, none, .alloc [.sl 1 [] (.exact 0), .sl 2 [] (.exact 0)]⟩, ⟨none, none, .store 2 (.t 8) (.t 47)⟩, ⟨some 9, none, .mov (.t 48)⟩] (some [(0, 4), (3, 4), (0, 9), (3, 9), (4, 9), (5, 9)]))
 (.seq (.seq (.reg [⟨some 49, none, .mov (.t 9)⟩, ⟨some 50, none, .bin .neq (.t 49) (.c (.int .i64 0))⟩] none)
 (.cond (.t 50) (.seq (.reg [⟨some 51, none, .mov (.t 9)⟩, ⟨some 2, none, .mov (.c (.str []))⟩, ⟨some 3, none, .mov (.t 51)⟩] none)
 .ret) .skip))
 (.seq (.reg [⟨some 52, none, .load none (.t 0)⟩, ⟨some 53, none, .load (some 2) (.t 8)⟩, ⟨some 54, none, .nilck (.t 52)⟩, ⟨some 55, none, .faddr 4 (.t 54)⟩, ⟨none, none, .store 2 (.t 55) (.t 53)⟩] none)
 (.seq (.reg [⟨some 56, none, .mov (.t 6)⟩, ⟨some 57, none, .mov (.t 7)⟩, ⟨some 2, none, .mov (.t 56)⟩, ⟨some 3, none, .mov (.t 57)⟩] none)
 .ret))))))))
theorem f124 : FnIs Try.prog 124 58 c124 [.tmp 2, .tmp 3] := ⟨_, Try.func124, rfl, by kernel_rfl, rfl⟩
def c125 : AC := (.seq (.reg [⟨some 3, none, .mov (.c (.bool false))⟩] none)
 (.seq (.reg [⟨some 4, none, .load none (.t 1)⟩, ⟨some 5, none, .nilck (.t 4)⟩, ⟨some 6, none, .faddr 0 (.t 5)⟩, ⟨some 7, none, .load none (.t 6)⟩, ⟨some 8, none, .mov (.t 0)⟩, ⟨some 9, none, .mov (.t 0)⟩, ⟨some 10, none, .bin .add (.t 9) (.c (.str [0]))⟩, ⟨some 11, none, .load none (.t 1)⟩, ⟨some 12, none, .nilck (.t 11)⟩, ⟨some 13, none, .faddr 1 (.t 12)⟩, ⟨some 14, none, .load none (.t 13)⟩, ⟨some 15, none, .call 22 [(.t 7), (.t 8), (.t 10), (.t 14)]⟩, ⟨some 3, none, .mov (.t 15)⟩] (some [(0, 7), (3, 7), (0, 10), (3, 10)]))
 .ret))
theorem f125 : FnIs Try.prog 125 16 c125 [.tmp 3] := ⟨_, Try.func125, rfl, by kernel_rfl, rfl⟩
def c126 : AC := (.seq (.reg [⟨some 4, none, .mov (.c (.bool false))⟩] none)
 (.seq (.reg [⟨some 5, none, .mov (.t 0)⟩, ⟨some 6, none, .call 144 [(.t 5)]⟩, ⟨some 7, none, .mov (.t 6)⟩, ⟨some 8, some (7, true), .mov (.t 1)⟩, ⟨some 9, some (7, true), .call 144 [(.t 8)]⟩, ⟨some 10, some (7, true), .un .not (.t 9)⟩, ⟨some 11, none, .pick (.t 7) (.t 10) (.c (.bool false))⟩, ⟨some 12, none, .mov (.t 11)⟩, ⟨some 13, some (12, false), .mov (.t 0)⟩, ⟨some 14, some (12, false), .mov (.t 1)⟩, ⟨some 15, some (12, false), .bin .lss (.t 13) (.t 14)⟩, ⟨some 16, none, .pick (.t 12) (.c (.bool true)) (.t 15)⟩, ⟨some 4, none, .mov (.t 16)⟩] none)
 .ret))
theorem f126 : FnIs Try.prog 126 17 c126 [.tmp 4] := ⟨_, Try.func126, rfl, by kernel_rfl, rfl⟩
def c127 : AC := (.seq (.reg [⟨some 2, none, .mov (.c (.bool false))⟩] none)
 (.seq (.reg [⟨some 3, none, .mov (.t 0)⟩, ⟨some 4, none, .mov (.t 0)⟩, ⟨some 5, none, .bin .neq (.t 3) (.t 4)⟩, ⟨some 2, none, .mov (.t 5)⟩] none)
 .ret))
theorem f127 : FnIs Try.prog 127 6 c127 [.tmp 2] := ⟨_, Try.func127, rfl, by kernel_rfl, rfl⟩
def c129 : AC := (.reg [⟨some 4, none, .mov (.t 0)⟩, ⟨some 5, none, .mov (.t 0)⟩, ⟨some 6, none, .len false (.t 5)⟩, ⟨some 7, none, .mov (.t 1)⟩, ⟨some 8, none, .bin .sub (.t 6) (.t 7)⟩, ⟨some 9, none, .call 145 [(.t 4), (.t 8)]⟩] none)
theorem f129 : FnIs Try.prog 129 10 c129 [] := ⟨_, Try.func129, rfl, by kernel_rfl, rfl⟩
def c130 : AC := (.seq (.reg [⟨some 4, none, .mov (.c (.sl 1 [] (.exact 0)))⟩] none)
 (.seq (.reg [⟨some 8, none, .mov (.t 0)⟩, ⟨some 9, none, .mov (.t 1)⟩, ⟨some 10, none, .call 135 [(.t 8), (.t 9)]⟩, ⟨some 5, none, .mov (.t 10)⟩] none)
 (.seq (.seq (.reg [⟨some 11, none, .mov (.t 5)⟩, ⟨some 12, none, .bin .eql (.t 11) (.c (.int .i64 (-1)))⟩] none)
 (.cond (.t 12) (.seq (.reg [⟨some 13, none, .mov (.t 0)⟩, ⟨some 4, none, .mov (.t 13)⟩] none)
 .ret) .skip))
 (.seq (.seq (.reg [⟨some 14, none, .mov (.t 5)⟩, ⟨some 15, none, .bin .add (.t 14) (.c (.int .i64 1))⟩, ⟨some 6, none, .mov (.t 15)⟩] none)
 (.block 0 (.loop (.seq (.seq (.reg [⟨some 16, none, .mov (.t 6)⟩, ⟨some 17, none, .mov (.t 0)⟩, ⟨some 18, none, .len false (.t 17)⟩, ⟨some 19, none, .bin .lss (.t 16) (.t 18)⟩] none)
 (.cond (.t 19) .skip (.exit 0)))
 (.seq (.block 1 (.seq (.reg [⟨some 22, none, .mov (.t 0)⟩, ⟨some 23, none, .mov (.t 6)⟩, ⟨some 24, none, .iaddr 1 (.t 22) (.t 23)⟩, ⟨some 25, none, .load none (.t 24)⟩, ⟨some 7, none, .mov (.t 25)⟩] none)
 (.seq (.reg [⟨some 26, none, .mov (.t 1)⟩, ⟨some 27, none, .mov (.t 7)⟩, ⟨some 28, none, .callv (.t 26) [(.t 27)]⟩, ⟨some 29, none, .un .not (.t 28)⟩] none)
 (.cond (.t 29) (.seq (.reg [⟨some 30, none, .mov (.t 0)⟩, ⟨some 31, none, .mov (.t 5)⟩, ⟨some 32, none, .mov (.t 7)⟩, ⟨some 33, none, .iaddr 1 (.t 30) (.t 31)⟩, ⟨none, none, .store 1 (.t 33) (.t 32)⟩] none)
 (.reg [⟨some 34, none, .mov (.t 5)⟩, ⟨some 35, none, .bin .add (.t 34) (.c (.int .i64 1))⟩, ⟨some 5, none, .mov (.t 35)⟩] none)) .skip))))
 (.reg [⟨some 20, none, .mov (.t 6)⟩, ⟨some 21, none, .bin .add (.t 20) (.c (.int .i64 1))⟩, ⟨some 6, none, .mov (.t 21)⟩] none))))))
 (.seq (.reg [⟨some 36, none, .mov (.t 0)⟩, ⟨some 37, none, .mov (.t 5)⟩, ⟨some 38, none, .slc false 1 (.t 36) (some (.t 37)) none none⟩, ⟨none, none, .clr 1 [.str []] (.t 38)⟩] none)
 (.seq (.reg [⟨some 39, none, .mov (.t 0)⟩, ⟨some 40, none, .mov (.t 5)⟩, ⟨some 41, none, .slc false 1 (.t 39) none (some (.t 40)) none⟩, ⟨some 4, none, .mov (.t 41)⟩] none)
 .ret))))))
theorem f130 : FnIs Try.prog 130 42 c130 [.tmp 4] := ⟨_, Try.func130, rfl, by kernel_rfl, rfl⟩
def c131 : AC := (.seq (.reg [⟨some 3, none, .mov (.c (.bool false))⟩] none)
 (.seq (.reg [⟨some 4, none, .load none (.t 1)⟩, ⟨some 5, none, .mov (.t 0)⟩, ⟨some 6, none, .call 92 [(.t 4), (.t 5)]⟩, ⟨some 3, none, .mov (.t 6)⟩] none)
 .ret))
theorem f131 : FnIs Try.prog 131 7 c131 [.tmp 3] := ⟨_, Try.func131, rfl, by kernel_rfl, rfl⟩
def c132 : AC := (.seq (.reg [⟨some 2, none, .box (.t 0)⟩, ⟨some 3, none, .mov (.c (.bool false))⟩] none)
 (.seq (.reg [⟨some 4, none, .load (some 2) (.t 2)⟩, ⟨some 5, none, .load none (.t 1)⟩, ⟨some 6, none, .call 133 [(.t 4), (.t 5)]⟩, ⟨some 3, none, .mov (.t 6)⟩] none)
 .ret))
theorem f132 : FnIs Try.prog 132 7 c132 [.tmp 3] := ⟨_, Try.func132, rfl, by kernel_rfl, rfl⟩
def c133 : AC := (.seq (.reg [⟨some 2, none, .box (.t 0)⟩, ⟨some 4, none, .mov (.c (.bool false))⟩] none)
 (.seq (.reg [⟨some 5, none, .mov (.t 1)⟩, ⟨some 6, none, .faddr 0 (.t 2)⟩, ⟨some 7, none, .load none (.t 6)⟩, ⟨some 8, none, .bin .geq (.t 5) (.t 7)⟩, ⟨some 9, none, .mov (.t 8)⟩, ⟨some 10, some (9, true), .faddr 1 (.t 2)⟩, ⟨some 11, some (9, true), .load none (.t 10)⟩, ⟨some 12, some (9, true), .bin .eql (.t 11) (.c (.str []))⟩, ⟨some 13, some (9, true), .mov (.t 12)⟩, ⟨some 14, some (13, false), .mov (.t 1)⟩, ⟨some 15, some (13, false), .faddr 1 (.t 2)⟩, ⟨some 16, some (13, false), .load none (.t 15)⟩, ⟨some 17, some (13, false), .bin .lss (.t 14) (.t 16)⟩, ⟨some 18, some (9, true), .pick (.t 13) (.c (.bool true)) (.t 17)⟩, ⟨some 19, none, .pick (.t 9) (.t 18) (.c (.bool false))⟩, ⟨some 4, none, .mov (.t 19)⟩] none)
 .ret))
theorem f133 : FnIs Try.prog 133 20 c133 [.tmp 4] := ⟨_, Try.func133, rfl, by kernel_rfl, rfl⟩
def c134 : AC := (.seq (.reg [⟨some 4, none, .mov (.c (.int .i64 0))⟩] none)
 (.seq (.seq (.reg [⟨some 6, none, .mov (.t 0)⟩, ⟨some 7, none, .len false (.t 6)⟩, ⟨some 8, none, .mov (.c (.int .i64 0))⟩] none)
 (.block 0 (.loop (.seq (.reg [⟨some 9, none, .bin .lss (.t 8) (.t 7)⟩] none)
 (.seq (.cond (.t 9) .skip (.exit 0))
 (.seq (.block 1 (.seq (.reg [⟨some 10, none, .mov (.t 8)⟩, ⟨some 5, none, .mov (.t 10)⟩] none)
 (.seq (.reg [⟨some 11, none, .mov (.t 1)⟩, ⟨some 12, none, .mov (.t 0)⟩, ⟨some 13, none, .mov (.t 5)⟩, ⟨some 14, none, .iaddr 3 (.t 12) (.t 13)⟩, ⟨some 15, none, .load (some 3) (.t 14)⟩, ⟨some 16, none, .callv (.t 11) [(.t 15)]⟩] none)
 (.cond (.t 16) (.seq (.reg [⟨some 17, none, .mov (.t 5)⟩, ⟨some 4, none, .mov (.t 17)⟩] none)
 .ret) .skip))))
 (.reg [⟨some 18, none, .bin .add (.t 8) (.c (.int .i64 1))⟩, ⟨some 8, none, .mov (.t 18)⟩] none)))))))
 (.seq (.reg [⟨some 4, none, .mov (.c (.int .i64 (-1)))⟩] none)
 .ret)))
theorem f134 : FnIs Try.prog 134 19 c134 [.tmp 4] := ⟨_, Try.func134, rfl, by kernel_rfl, rfl⟩
def c135 : AC := (.seq (.reg [⟨some 4, none, .mov (.c (.int .i64 0))⟩] none)
 (.seq (.seq (.reg [⟨some 6, none, .mov (.t 0)⟩, ⟨some 7, none, .len false (.t 6)⟩, ⟨some 8, none, .mov (.c (.int .i64 0))⟩] none)
 (.block 0 (.loop (.seq (.reg [⟨some 9, none, .bin .lss (.t 8) (.t 7)⟩] none)
 (.seq (.cond (.t 9) .skip (.exit 0))
 (.seq (.block 1 (.seq (.reg [⟨some 10, none, .mov (.t 8)⟩, ⟨some 5, none, .mov (.t 10)⟩] none)
 (.seq (.reg [⟨some 11, none, .mov (.t 1)⟩, ⟨some 12, none, .mov (.t 0)⟩, ⟨some 13, none, .mov (.t 5)⟩, ⟨some 14, none, .iaddr 1 (.t 12) (.t 13)⟩, ⟨some 15, none, .load none (.t 14)⟩, ⟨some 16, none, .callv (.t 11) [(.t 15)]⟩] none)
 (.cond (.t 16) (.seq (.reg [⟨some 17, none, .mov (.t 5)⟩, ⟨some 4, none, .mov (.t 17)⟩] none)
 .ret) .skip))))
 (.reg [⟨some 18, none, .bin .add (.t 8) (.c (.int .i64 1))⟩, ⟨some 8, none, .mov (.t 18)⟩] none)))))))
 (.seq (.reg [⟨some 4, none, .mov (.c (.int .i64 (-1)))⟩] none)
 .ret)))
theorem f135 : FnIs Try.prog 135 19 c135 [.tmp 4] := ⟨_, Try.func135, rfl, by kernel_rfl, rfl⟩
def c136 : AC := (.seq (.reg [⟨some 4, none, .mov (.c (.int .i64 0))⟩] none)
 (.seq (.seq (.reg [⟨some 6, none, .mov (.t 0)⟩, ⟨some 7, none, .len false (.t 6)⟩, ⟨some 8, none, .mov (.c (.int .i64 0))⟩] none)
 (.block 0 (.loop (.seq (.reg [⟨some 9, none, .bin .lss (.t 8) (.t 7)⟩] none)
 (.seq (.cond (.t 9) .skip (.exit 0))
 (.seq (.block 1 (.seq (.reg [⟨some 10, none, .mov (.t 8)⟩, ⟨some 5, none, .mov (.t 10)⟩] none)
 (.seq (.reg [⟨some 11, none, .mov (.t 1)⟩, ⟨some 12, none, .mov (.t 0)⟩, ⟨some 13, none, .mov (.t 5)⟩, ⟨some 14, none, .iaddr 2 (.t 12) (.t 13)⟩, ⟨some 15, none, .load (some 2) (.t 14)⟩, ⟨some 16, none, .callv (.t 11) [(.t 15)]⟩] none)
 (.cond (.t 16) (.seq (.reg [⟨some 17, none, .mov (.t 5)⟩, ⟨some 4, none, .mov (.t 17)⟩] none)
 .ret) .skip))))
 (.reg [⟨some 18, none, .bin .add (.t 8) (.c (.int .i64 1))⟩, ⟨some 8, none, .mov (.t 18)⟩] none)))))))
 (.seq (.reg [⟨some 4, none, .mov (.c (.int .i64 (-1)))⟩] none)
 .ret)))
theorem f136 : FnIs Try.prog 136 19 c136 [.tmp 4] := ⟨_, Try.func136, rfl, by kernel_rfl, rfl⟩
def c137 : AC := (.seq (.reg [⟨some 4, none, .mov (.c (.sl 3 [] (.exact 0)))⟩] none)
 (.seq (.seq (.reg [⟨some 5, none, .mov (.t 1)⟩, ⟨some 6, none, .bin .lss (.t 5) (.c (.int .i64 0))⟩] none)
 (.cond (.t 6) (.reg [⟨some 7, none, .ifc 9 (.c (.str [99, 97, 110, 110, 111, 116, 32, 98, 101, 32, 110, 101, 103, 97, 116, 105, 118, 101]))⟩, ⟨none, none, .pan (.t 7)⟩] none) .skip))
 (.seq (.seq (.reg [⟨some 8, none, .mov (.t 1)⟩, ⟨some 9, none, .mov (.t 0)⟩, ⟨some 10, none, .cap (.t 9)⟩, ⟨some 11, none, .mov (.t 0)⟩, ⟨some 12, none, .len false (.t 11)⟩, ⟨some 13, none, .bin .sub (.t 10) (.t 12)⟩, ⟨some 14, none, .bin .sub (.t 8) (.t 13)⟩, ⟨some 1, none, .mov (.t 14)⟩] none)
 (.seq (.reg [⟨some 15, none, .mov (.t 1)⟩, ⟨some 16, none, .bin .gtr (.t 15) (.c (.int .i64 0))⟩] none)
 (.cond (.t 16) (.reg [⟨some 17, none, .mov (.t 0)⟩, ⟨some 18, none, .mov (.t 0)⟩, ⟨some 19, none, .cap (.t 18)⟩, ⟨some 20, none, .slc false 3 (.t 17) none (some (.t 19)) none⟩, ⟨some 21, none, .mov (.t 1)⟩, ⟨some 22, none, .appz 32 (.agg [.int .i64 0, .str [], .bool false]) 3 (.t 20) (.t 21)⟩, ⟨some 23, none, .mov (.t 0)⟩, ⟨some 24, none, .len false (.t 23)⟩, ⟨some 25, none, .slc false 3 (.t 22) none (some (.t 24)) none⟩, ⟨some 0, none, .mov (.t 25)⟩] none) .skip)))
 (.seq (.reg [⟨some 26, none, .mov (.t 0)⟩, ⟨some 4, none, .mov (.t 26)⟩] none)
 .ret))))
theorem f137 : FnIs Try.prog 137 27 c137 [.tmp 4] := ⟨_, Try.func137, rfl, by kernel_rfl, rfl⟩
def c138 : AC := (.seq (.reg [⟨some 4, none, .mov (.c (.int .i64 0))⟩] none)
 (.seq (.reg [⟨some 8, none, .mov (.t 0)⟩, ⟨some 5, none, .mov (.c (.int .i64 0))⟩, ⟨some 6, none, .mov (.t 8)⟩] none)
 (.seq (.block 0 (.loop (.seq (.seq (.reg [⟨some 9, none, .mov (.t 5)⟩, ⟨some 10, none, .mov (.t 6)⟩, ⟨some 11, none, .bin .lss (.t 9) (.t 10)⟩] none)
 (.cond (.t 11) .skip (.exit 0)))
 (.block 1 (.seq (.reg [⟨some 12, none, .mov (.t 5)⟩, ⟨some 13, none, .mov (.t 6)⟩, ⟨some 14, none, .bin .add (.t 12) (.t 13)⟩, ⟨some 15, none, .conv (.toInt .u64) (.t 14)⟩, ⟨some 16, none, .bin .shr (.t 15) (.c (.int .u64 1))⟩, ⟨some 17, none, .conv (.toInt .i64) (.t 16)⟩, ⟨some 7, none, .mov (.t 17)⟩] none)
 (.seq (.reg [⟨some 18, none, .mov (.t 1)⟩, ⟨some 19, none, .mov (.t 7)⟩, ⟨some 20, none, .callv (.t 18) [(.t 19)]⟩, ⟨some 21, none, .un .not (.t 20)⟩] none)
 (.cond (.t 21) (.reg [⟨some 22, none, .mov (.t 7)⟩, ⟨some 23, none, .bin .add (.t 22) (.c (.int .i64 1))⟩, ⟨some 5, none, .mov (.t 23)⟩] none) (.reg [⟨some 24, none, .mov (.t 7)⟩, ⟨some 6, none, .mov (.t 24)⟩] none))))))))
 (.seq (.reg [⟨some 25, none, .mov (.t 5)⟩, ⟨some 4, none, .mov (.t 25)⟩] none)
 .ret))))
theorem f138 : FnIs Try.prog 138 26 c138 [.tmp 4] := ⟨_, Try.func138, rfl, by kernel_rfl, rfl⟩
def c139 : AC := (.seq (.reg [⟨some 4, none, .mov (.c (.bool false))⟩] none)
 (.seq (.reg [⟨some 5, none, .load none (.t 1)⟩, ⟨some 6, none, .mov (.t 0)⟩, ⟨some 7, none, .iaddr 3 (.t 5) (.t 6)⟩, ⟨some 8, none, .faddr 0 (.t 7)⟩, ⟨some 9, none, .load none (.t 8)⟩, ⟨some 10, none, .load none (.t 2)⟩, ⟨some 11, none, .bin .leq (.t 9) (.t 10)⟩, ⟨some 4, none, .mov (.t 11)⟩] (some [(0, 5), (4, 5)]))
 .ret))
theorem f139 : FnIs Try.prog 139 12 c139 [.tmp 4] := ⟨_, Try.func139, rfl, by kernel_rfl, rfl⟩
def c140 : AC := (.seq (.reg [⟨some 4, none, .mov (.c (.bool false))⟩, ⟨some 5, none, .mov (.c (.int .i64 0))⟩] none)
 (.seq (.reg [⟨some 6, none, .mov (.c (.bool false))⟩] none)
 (.seq (.seq (.reg [⟨some 10, none, .mov (.t 0)⟩, ⟨some 11, none, .call 142 [(.t 10)]⟩, ⟨some 7, none, .mov (.t 11)⟩] none)
 (.seq (.reg [⟨some 12, none, .mov (.t 7)⟩, ⟨some 13, none, .bin .neq (.t 12) (.c (.int .i64 0))⟩] none)
 (.cond (.t 13) (.seq (.reg [⟨some 14, none, .mov (.t 6)⟩, ⟨some 15, none, .mov (.t 7)⟩, ⟨some 4, none, .mov (.t 14)⟩, ⟨some 5, none, .mov (.t 15)⟩] none)
 .ret) .skip)))
 (.seq (.reg [⟨some 17, none, .mov (.t 1)⟩, ⟨some 18, none, .callv (.t 17) []⟩, ⟨some 16, none, .mov (.t 18)⟩, ⟨some 19, none, .ext (.t 16) 0⟩, ⟨some 20, none, .ext (.t 16) 1⟩, ⟨some 8, none, .mov (.t 19)⟩, ⟨some 9, none, .mov (.t 20)⟩] none)
 (.seq (.seq (.reg [⟨some 21, none, .mov (.t 9)⟩, ⟨some 22, none, .bin .neq (.t 21) (.c (.int .i64 0))⟩] none)
 (.cond (.t 22) (.seq (.reg [⟨some 23, none, .mov (.t 6)⟩, ⟨some 24, none, .mov (.t 9)⟩, ⟨some 4, none, .mov (.t 23)⟩, ⟨some 5, none, .mov (.t 24)⟩] none)
 .ret) .skip))
 (.seq (.reg [⟨some 25, none, .mov (.t 8)⟩, ⟨some 4, none, .mov (.t 25)⟩, ⟨some 5, none, .mov (.c (.int .i64 0))⟩] none)
 .ret))))))
theorem f140 : FnIs Try.prog 140 26 c140 [.tmp 4, .tmp 5] := ⟨_, Try.func140, rfl, by kernel_rfl, rfl⟩
def c141 : AC := (.seq (.reg [⟨some 2, none, .mov (.c (.bool false))⟩, ⟨some 3, none, .mov (.c (.int .i64 0))⟩] none)
 (.seq (.seq (.reg [⟨some 6, none, .faddr 0 (.t 0)⟩, ⟨some 7, none, .load none (.t 6)⟩, ⟨some 8, none, .len true (.t 7)⟩, ⟨some 9, none, .bin .gtr (.t 8) (.c (.int .i64 120))⟩, ⟨some 10, none, .mov (.t 9)⟩, ⟨some 11, some (10, false), .faddr 1 (.t 0)⟩, ⟨some 12, some (10, false), .load none (.t 11)⟩, ⟨some 13, some (10, false), .len true (.t 12)⟩, ⟨some 14, some (10, false), .bin .gtr (.t 13) (.c (.int .i64 199))⟩, ⟨some 15, none, .pick (.t 10) (.c (.bool true)) (.t 14)⟩] none)
 (.cond (.t 15) (.seq (.reg [⟨some 2, none, .mov (.c (.bool false))⟩, ⟨some 3, none, .mov (.c (.int .i64 2))⟩] none)
 .ret) .skip))
 (.seq (.seq (.reg [⟨some 17, none, .load none (.t 1)⟩, ⟨some 18, none, .nilck (.t 17)⟩, ⟨some 19, none, .faddr 3 (.t 18)⟩, ⟨some 20, none, .load none (.t 19)⟩, ⟨some 21, none, .faddr 0 (.t 0)⟩, ⟨some 22, none, .load none (.t 21)⟩, ⟨some 23, none, .call 81 [(.t 20), (.t 22)]⟩, ⟨some 16, none, .mov (.t 23)⟩, ⟨some 24, none, .ext (.t 16) 0⟩, ⟨some 25, none, .ext (.t 16) 1⟩, ⟨some 4, none, .mov (.t 24)⟩, ⟨some 5, none, .mov (.t 25)⟩] (some [(0, 5), (3, 5)]))
 (.seq (.reg [⟨some 26, none, .mov (.t 5)⟩, ⟨some 27, none, .un .not (.t 26)⟩] none)
 (.cond (.t 27) (.seq (.seq (.reg [⟨some 28, none, .load none (.t 1)⟩, ⟨some 29, none, .nilck (.t 28)⟩, ⟨some 30, none, .faddr 3 (.t 29)⟩, ⟨some 31, none, .load none (.t 30)⟩, ⟨some 32, none, .len false (.t 31)⟩, ⟨some 33, none, .bin .geq (.t 32) (.c (.int .i64 64))⟩] none)
 (.cond (.t 33) (.seq (.reg [⟨some 2, none, .mov (.c (.bool false))⟩, ⟨some 3, none, .mov (.c (.int .i64 9))⟩] none)
 .ret) .skip))
 (.reg [⟨some 34, none, .load none (.t 1)⟩, ⟨some 35, none, .load none (.t 1)⟩, ⟨some 36, none, .nilck (.t 35)⟩, ⟨some 37, none, .faddr 3 (.t 36)⟩, ⟨some 38, none, .load none (.t 37)⟩, ⟨some 39, none, .mov (.t 4)⟩, ⟨some 40, none, .faddr 0 (.t 0)⟩, ⟨some 41, none, .load none (.t 40)⟩, ⟨some 42, none, .buildSl 1 [(.t 41)]⟩, ⟨some 43, none, .call 82 [(.t 38), (.t 39), (.t 42)]⟩, ⟨some 44, none, .nilck (.t 34)⟩, ⟨some 45, none, .faddr 3 (.t 44)⟩, ⟨none, none, .store 1 (.t 45) (.t 43)⟩] (some [(0, 1), (0, 4), (0, 7), (1, 7), (4, 7), (0, 8), (1, 8), (4, 8), (0, 9)]))) .skip)))
 (.seq (.reg [⟨some 46, none, .load none (.t 1)⟩, ⟨some 47, none, .nilck (.t 46)⟩, ⟨some 48, none, .faddr 2 (.t 47)⟩, ⟨some 49, none, .load none (.t 48)⟩, ⟨some 50, none, .faddr 0 (.t 0)⟩, ⟨some 51, none, .load none (.t 50)⟩, ⟨some 52, none, .load (some 3) (.t 0)⟩, ⟨none, none, .mput (.t 49) (.t 51) (.t 52)⟩] (some [(0, 5), (3, 5), (0, 6), (3, 6), (5, 6)]))
 (.seq (.reg [⟨some 2, none, .mov (.c (.bool true))⟩, ⟨some 3, none, .mov (.c (.int .i64 0))⟩] none)
 .ret)))))
theorem f141 : FnIs Try.prog 141 53 c141 [.tmp 2, .tmp 3] := ⟨_, Try.func141, rfl, by kernel_rfl, rfl⟩
def c142 : AC := (.seq (.reg [⟨some 2, none, .mov (.c (.int .i64 0))⟩] none)
 (.seq (.block 0 (.seq (.reg [⟨some 4, none, .mov (.t 0)⟩, ⟨some 5, none, .call 80 [(.t 4)]⟩, ⟨some 6, none, .un .not (.t 5)⟩, ⟨some 3, none, .mov (.t 6)⟩] none)
 (.cond (.t 3) (.seq (.reg [⟨some 2, none, .mov (.c (.int .i64 1))⟩] none)
 .ret) (.seq (.reg [⟨some 8, none, .mov (.t 0)⟩, ⟨some 9, none, .nilck (.t 8)⟩, ⟨some 10, none, .faddr 6 (.t 9)⟩, ⟨some 11, none, .load none (.t 10)⟩, ⟨some 7, none, .mov (.t 11)⟩] none)
 (.cond (.t 7) (.seq (.reg [⟨some 2, none, .mov (.c (.int .i64 17))⟩] none)
 .ret) .skip)))))
 (.seq (.reg [⟨some 2, none, .mov (.c (.int .i64 0))⟩] none)
 .ret)))
theorem f142 : FnIs Try.prog 142 12 c142 [.tmp 2] := ⟨_, Try.func142, rfl, by kernel_rfl, rfl⟩
def c143 : AC := (.seq (.reg [⟨some 5, none, .load none (.t 1)⟩, ⟨some 6, none, .nilck (.t 5)⟩, ⟨some 7, none, .faddr 2 (.t 6)⟩, ⟨some 8, none, .load none (.t 7)⟩, ⟨some 9, none, .mov (.t 0)⟩, ⟨some 10, none, .mlook (.agg [.str [], .str [], .bool false]) false (.t 8) (.t 9)⟩, ⟨some 4, none, .alloc [.str [], .str [], .bool false]⟩, ⟨none, none, .store 3 (.t 4) (.t 10)⟩] none)
 (.seq (.reg [⟨some 11, none, .faddr 2 (.t 4)⟩, ⟨some 12, none, .load none (.t 11)⟩, ⟨some 13, none, .un .not (.t 12)⟩] none)
 (.cond (.t 13) (.reg [⟨some 14, none, .load none (.t 2)⟩, ⟨some 15, none, .mov (.t 0)⟩, ⟨some 16, none, .faddr 1 (.t 4)⟩, ⟨some 17, none, .load none (.t 16)⟩, ⟨some 18, none, .build [.str [], .str []] [(0, 1, (.t 15)), (1, 1, (.t 17))]⟩, ⟨some 19, none, .buildSl 2 [(.t 18)]⟩, ⟨some 20, none, .app false 2 32 (.t 14) (.t 19)⟩, ⟨none, none, .store 1 (.t 2) (.t 20)⟩] none) .skip)))
theorem f143 : FnIs Try.prog 143 21 c143 [] := ⟨_, Try.func143, rfl, by kernel_rfl, rfl⟩
def c144 : AC := (.seq (.reg [⟨some 2, none, .mov (.c (.bool false))⟩] none)
 (.seq (.reg [⟨some 3, none, .mov (.t 0)⟩, ⟨some 4, none, .mov (.t 0)⟩, ⟨some 5, none, .bin .neq (.t 3) (.t 4)⟩, ⟨some 2, none, .mov (.t 5)⟩] none)
 .ret))
theorem f144 : FnIs Try.prog 144 6 c144 [.tmp 2] := ⟨_, Try.func144, rfl, by kernel_rfl, rfl⟩
def c145 : AC := (.seq (.reg [⟨some 4, none, .mov (.t 0)⟩, ⟨some 5, none, .mov (.t 1)⟩, ⟨some 6, none, .slc false 1 (.t 4) none (some (.t 5)) none⟩, ⟨some 7, none, .call 146 [(.t 6)]⟩] none)
 (.seq (.reg [⟨some 8, none, .mov (.t 0)⟩, ⟨some 9, none, .mov (.t 1)⟩, ⟨some 10, none, .slc false 1 (.t 8) (some (.t 9)) none none⟩, ⟨some 11, none, .call 146 [(.t 10)]⟩] none)
 (.reg [⟨some 12, none, .mov (.t 0)⟩, ⟨some 13, none, .call 146 [(.t 12)]⟩] none)))
theorem f145 : FnIs Try.prog 145 14 c145 [] := ⟨_, Try.func145, rfl, by kernel_rfl, rfl⟩
def c146 : AC := (.seq (.reg [⟨some 4, none, .mov (.t 0)⟩, ⟨some 5, none, .len false (.t 4)⟩, ⟨some 6, none, .bin .sub (.t 5) (.c (.int .i64 1))⟩, ⟨some 2, none, .mov (.c (.int .i64 0))⟩, ⟨some 3, none, .mov (.t 6)⟩] none)
 (.block 0 (.loop (.seq (.seq (.reg [⟨some 7, none, .mov (.t 2)⟩, ⟨some 8, none, .mov (.t 3)⟩, ⟨some 9, none, .bin .lss (.t 7) (.t 8)⟩] none)
 (.cond (.t 9) .skip (.exit 0)))
 (.seq (.block 1 (.reg [⟨some 14, none, .mov (.t 0)⟩, ⟨some 15, none, .mov (.t 2)⟩, ⟨some 16, none, .mov (.t 0)⟩, ⟨some 17, none, .mov (.t 3)⟩, ⟨some 18, none, .mov (.t 0)⟩, ⟨some 19, none, .mov (.t 3)⟩, ⟨some 20, none, .iaddr 1 (.t 18) (.t 19)⟩, ⟨some 21, none, .load none (.t 20)⟩, ⟨some 22, none, .mov (.t 0)⟩, ⟨some 23, none, .mov (.t 2)⟩, ⟨some 24, none, .iaddr 1 (.t 22) (.t 23)⟩, ⟨some 25, none, .load none (.t 24)⟩, ⟨some 26, none, .iaddr 1 (.t 14) (.t 15)⟩, ⟨none, none, .store 1 (.t 26) (.t 21)⟩, ⟨some 27, none, .iaddr 1 (.t 16) (.t 17)⟩, ⟨none, none, .store 1 (.t 27) (.t 25)⟩] (some [(7, 11)])))
 (.reg [⟨some 10, none, .mov (.t 2)⟩, ⟨some 11, none, .bin .add (.t 10) (.c (.int .i64 1))⟩, ⟨some 12, none, .mov (.t 3)⟩, ⟨some 13, none, .bin .sub (.t 12) (.c (.int .i64 1))⟩, ⟨some 2, none, .mov (.t 11)⟩, ⟨some 3, none, .mov (.t 13)⟩] none))))))
theorem f146 : FnIs Try.prog 146 28 c146 [] := ⟨_, Try.func146, rfl, by kernel_rfl, rfl⟩
end Go.Proofs.Ytpehfflehebmbaa.C
end
section
set_option linter.unusedVariables false
set_option linter.unusedSimpArgs false
namespace Go.Av
section
variable {P : Program} {N : Nat} {s : St} {Q : AExit → St → Prop}
theorem Wp.seqReg {items : List AItem} {p : Option (List (Nat × Nat))} {y : AC} {t' : Tm} {h' : H} {log : List Ent} (he : evalOps items s.t s.h [] = ([], t', h', log)) (hp : pairsQ p log.reverse) (h : Wp P N y ⟨t', h'⟩ Q) : Wp P N (.seq (.reg items p) y) s Q :=
  Wp.seq (Wp.reg (WpItems.eval he (WpItems.nil ⟨hp, h⟩)))
theorem Wp.reg1 {items : List AItem} {p : Option (List (Nat × Nat))} {t' : Tm} {h' : H} {log : List Ent} (he : evalOps items s.t s.h [] = ([], t', h', log)) (hp : pairsQ p log.reverse) (h : Q .normal ⟨t', h'⟩) : Wp P N (.reg items p) s Q :=
  Wp.reg (WpItems.eval he (WpItems.nil ⟨hp, h⟩))
theorem Wp.seqItems {items its : List AItem} {p : Option (List (Nat × Nat))} {y : AC} {t' : Tm} {h' : H} {log : List Ent} (he : evalOps items s.t s.h [] = (its, t', h', log)) (h : WpItems P N its t' h' log fun t h l => pairsQ p l ∧ Wp P N y ⟨t, h⟩ Q) : Wp P N (.seq (.reg items p) y) s Q :=
  Wp.seq (Wp.reg (WpItems.eval he h))
theorem Wp.items {items its : List AItem} {p : Option (List (Nat × Nat))} {t' : Tm} {h' : H} {log : List Ent} (he : evalOps items s.t s.h [] = (its, t', h', log)) (h : WpItems P N its t' h' log fun t h l => pairsQ p l ∧ Q .normal ⟨t, h⟩) : Wp P N (.reg items p) s Q :=
  Wp.reg (WpItems.eval he h)
def tm : List (Nat × AV) → Tm
  | [] => fun _ => .any
  | (i, v) :: l => upd (tm l) i v
def AllSub (t : Tm) : List (Nat × AV) → Prop
  | [] => True
  | (i, v) :: l => VSub (t i) v ∧ AllSub t l
theorem tm_le {t : Tm} : ∀ {l : List (Nat × AV)}, AllSub t l → ∀ i, VSub (t i) (tm l i)
  | [], _, i => VSub.any _
  | (k, v) :: l, h, i => by
    simp only [tm, upd]
    split
    · rename_i e; subst e; exact h.1
    · exact tm_le h.2 i
theorem StLe.tm {t : Tm} {h : H} {l : List (Nat × AV)} (hs : AllSub t l) : StLe ⟨t, h⟩ ⟨Av.tm l, h⟩ := StLe.mk' (tm_le hs) h.sub_refl.le (Nat.le_refl _) (Nat.le_refl _)
theorem Wp.loopT {β : Type} (S : β → List (Nat × AV)) (I : β → Prop) (μ : β → Nat) {c : AC} {h : H} {t : Tm} (b0 : β) (h0 : I b0) (hs : AllSub t (S b0))
    (round : ∀ b, I b → Wp P N c ⟨tm (S b), h⟩ (AExit.andThen (fun s' => ∃ b', I b' ∧ μ b' < μ b ∧ StLe s' ⟨tm (S b'), h⟩) Q)) : Wp P N (.loop c) ⟨t, h⟩ Q :=
  Wp.loop (fun b => ⟨tm (S b), h⟩) I μ b0 h0 (StLe.tm hs) round
theorem AllSub.append {t : Tm} : ∀ {l m : List (Nat × AV)}, AllSub t l → AllSub t m → AllSub t (l ++ m)
  | [], _, _, h => h
  | (_, _) :: _, _, h, h' => ⟨h.1, AllSub.append h.2 h'⟩
theorem AllSub.self {t : Tm} : ∀ (L : List Nat), AllSub t (L.map fun i => (i, t i))
  | [] => trivial
  | _ :: L => ⟨VSub.refl _, AllSub.self L⟩
theorem Wp.loopK {β : Type} (L : List Nat) {K : List (Nat × AV)} {c : AC} {h : H} {t : Tm} (hK : (L.map fun i => (i, t i)) = K) (ch : β → List (Nat × AV)) (I : β → Prop) (μ : β → Nat) (b0 : β) (h0 : I b0) (hs : AllSub t (ch b0))
    (round : ∀ b, I b → Wp P N c ⟨tm (K ++ ch b), h⟩ (AExit.andThen (fun s' => ∃ b', I b' ∧ μ b' < μ b ∧ StLe s' ⟨tm (K ++ ch b'), h⟩) Q)) : Wp P N (.loop c) ⟨t, h⟩ Q :=
  Wp.loopT (fun b => K ++ ch b) I μ b0 h0 (AllSub.append (hK ▸ AllSub.self L) hs) round
theorem Wp.loopH {β : Type} (L : List Nat) {K : List (Nat × AV)} {c : AC} {h : H} {t : Tm} (hK : (L.map fun i => (i, t i)) = K) (ch : β → List (Nat × AV)) (hp : β → H) (I : β → Prop) (μ : β → Nat) (b0 : β) (h0 : I b0) (hh : h = hp b0) (hs : AllSub t (ch b0))
    (round : ∀ b, I b → Wp P N c ⟨tm (K ++ ch b), hp b⟩ (AExit.andThen (fun s' => ∃ b', I b' ∧ μ b' < μ b ∧ StLe s' ⟨tm (K ++ ch b'), hp b'⟩) Q)) : Wp P N (.loop c) ⟨t, h⟩ Q :=
  Wp.loop (fun b => ⟨tm (K ++ ch b), hp b⟩) I μ b0 h0 (hh ▸ StLe.tm (AllSub.append (hK ▸ AllSub.self L) hs)) round
theorem VSub.int {k : IntKind} {a b : Int} (h : a = b) : VSub (.int k a) (.int k b) := h ▸ VSub.refl _
theorem VSub.of_eq {x y : AV} (h : x = y) : VSub x y := h ▸ VSub.refl _
def capPure : Cap → Bool
  | .own _ => false
  | _ => true
mutual
def isPure : AV → Bool
  | .sl _ xs c => capPure c && allPure xs
  | .ref cs => allPure cs
  | .agg cs => allPure cs
  | .tup cs => allPure cs
  | .ptr _ _ | .tsl _ _ _ _ _ | .mp _ | .yld _ => false
  | .clo _ a b => allPure a && allPure b
  | .ifc _ x => isPure x
  | .slt _ xs ys => allPure xs && allPure ys
  | _ => true
def allPure : List AV → Bool
  | [] => true
  | x :: xs => isPure x && allPure xs
end
mutual
theorem isPure_ok : ∀ (x : AV), isPure x = true → VPure x
  | .any, _ => fun _ _ _ _ _ _ h => h
  | .int _ _, _ => fun _ _ _ _ _ _ h => h
  | .bool _, _ => fun _ _ _ _ _ _ h => h
  | .str _, _ => fun _ _ _ _ _ _ h => h
  | .sc _, _ => fun _ _ _ _ _ _ h => h
  | .sl sz xs c, hp => by
    simp only [isPure, Bool.and_eq_true] at hp
    intro G G' w v e1 e2 h
    simp only [VRel] at h ⊢
    rcases h with h | ⟨B, off, C, vs, h1, h2, h3, h4, h5, h6⟩
    · exact .inl h
    · refine .inr ⟨B, off, C, vs, h1, h2, h3, allPure_els xs hp.2 G G' w sz vs e1 e2 h4, fun i v hv => ?_, ?_⟩
      · rw [e1, e2]; exact h5 i v hv
      · cases c with
        | own t => simp [capPure] at hp
        | any => trivial
        | exact k => exact h6
  | .ref cs, hp => by
    simp only [isPure] at hp
    intro G G' w v e1 e2 h
    simp only [VRel] at h ⊢
    obtain ⟨B, off, vs, h1, h2, h3⟩ := h
    exact ⟨B, off, vs, h1, allPure_ok cs hp G G' w vs e1 e2 h2, fun i v hv => by rw [e1, e2]; exact h3 i v hv⟩
  | .agg cs, hp => by
    simp only [isPure] at hp
    intro G G' w v e1 e2 h
    simp only [VRel] at h ⊢
    obtain ⟨vs, h1, h2⟩ := h
    exact ⟨vs, h1, allPure_ok cs hp G G' w vs e1 e2 h2⟩
  | .tup cs, hp => by
    simp only [isPure] at hp
    intro G G' w v e1 e2 h
    simp only [VRel] at h ⊢
    obtain ⟨vs, h1, h2⟩ := h
    exact ⟨vs, h1, allPure_ok cs hp G G' w vs e1 e2 h2⟩
  | .ptr _ _, hp => by simp [isPure] at hp
  | .tsl _ _ _ _ _, hp => by simp [isPure] at hp
  | .mp _, hp => by simp [isPure] at hp
  | .yld _, hp => by simp [isPure] at hp
  | .slt sz xs ys, hp => by
    simp only [isPure, Bool.and_eq_true] at hp
    intro G G' w v e1 e2 h
    simp only [VRel] at h ⊢
    obtain ⟨B, off, C, us, vs, h1, h2, h3, h4, h5, h6⟩ := h
    exact ⟨B, off, C, us, vs, h1, h2, h3, allPure_els xs hp.1 G G' w sz us e1 e2 h4, allPure_els ys hp.2 G G' w sz vs e1 e2 h5, fun i v hv => by rw [e1, e2]; exact h6 i v hv⟩
  | .clo f a b, hp => by
    simp only [isPure, Bool.and_eq_true] at hp
    intro G G' w v e1 e2 h
    simp only [VRel] at h ⊢
    obtain ⟨vs, us, h1, h2, h3⟩ := h
    exact ⟨vs, us, h1, allPure_ok a hp.1 G G' w vs e1 e2 h2, allPure_ok b hp.2 G G' w us e1 e2 h3⟩
  | .ifc t x, hp => by
    simp only [isPure] at hp
    intro G G' w v e1 e2 h
    simp only [VRel] at h ⊢
    obtain ⟨u, h1, h2⟩ := h
    exact ⟨u, h1, isPure_ok x hp G G' w u e1 e2 h2⟩
theorem allPure_ok : ∀ (l : List AV), allPure l = true → VPures l
  | [], _ => fun _ _ _ _ _ _ h => by simpa only [VRels] using h
  | x :: xs, hp => by
    simp only [allPure, Bool.and_eq_true] at hp
    intro G G' w vs e1 e2 h
    simp only [VRels] at h ⊢
    obtain ⟨v, us, h1, h2, h3⟩ := h
    exact ⟨v, us, h1, isPure_ok x hp.1 G G' w v e1 e2 h2, allPure_ok xs hp.2 G G' w us e1 e2 h3⟩
theorem allPure_els : ∀ (l : List AV), allPure l = true → ∀ (G G' : Ghost) (w : World) (sz : Nat) (vs : List Value), G'.own = G.own → G'.lim = G.lim → VElems G w sz l vs → VElems G' w sz l vs
  | [], _ => fun _ _ _ _ _ _ _ h => by simpa only [VElems] using h
  | x :: xs, hp => by
    simp only [allPure, Bool.and_eq_true] at hp
    intro G G' w sz vs e1 e2 h
    simp only [VElems] at h ⊢
    obtain ⟨v, us, h1, h2, h3, h4⟩ := h
    exact ⟨v, us, h1, h2, isPure_ok x hp.1 G G' w v e1 e2 h3, allPure_els xs hp.2 G G' w sz us e1 e2 h4⟩
end
theorem allPure_map {α : Type} {f : α → AV} (h : ∀ x, isPure (f x) = true) : ∀ l : List α, allPure (l.map f) = true
  | [] => rfl
  | x :: l => by simp [allPure, h x, allPure_map h l]
def strs (l : List (List UInt8)) : List AV := l.map .str
def ints (l : List Int) : List AV := l.map (.int .i64)
theorem strs_pure (l : List (List UInt8)) : allPure (strs l) = true := allPure_map (fun _ => rfl) l
theorem strs_length (l : List (List UInt8)) : (strs l).length = l.length := by simp [strs]
theorem ints_length (l : List Int) : (ints l).length = l.length := by simp [ints]
theorem bytes_length (l : List UInt8) : (bytesAV l).length = l.length := by simp [bytesAV]
theorem strs_getD (l : List (List UInt8)) (k : Nat) (d : AV) (h : k < l.length) : (strs l).getD k d = .str (l.getD k []) := by
  simp [strs, List.getD, List.getElem?_map, List.getElem?_eq_getElem h]
end
def lit : Bool → Bool
  | true => true
  | false => true
def pk : Bool → AC → AC → AC
  | true, x, _ => x
  | false, _, y => y
theorem Wp.cond_lit {P : Program} {N : Nat} {s : St} {Q : AExit → St → Prop} {c : Opd} {x y : AC} {b : Bool} (hb : ev s.t c = .bool b) (_ : lit b = true) (h : Wp P N (pk b x y) s Q) : Wp P N (.cond c x y) s Q := by
  cases b
  · exact Wp.cond_false hb h
  · exact Wp.cond_true hb h
theorem bx : ((false = true) = False) ∧ (∀ b : Bool, (true == b) = b) ∧ (∀ b : Bool, (false == b) = !b) ∧ ((!true) = false) ∧ ((!false) = true) :=
  ⟨Bool.false_eq_true, Bool.true_beq, Bool.false_beq, Bool.not_true, Bool.not_false⟩
theorem ax : (∀ p : Prop, (p ∧ p) = p) ∧ (∀ p : Prop, (True ∧ p) = p) ∧ (∀ p : Prop, (p ∧ True) = p) ∧ (∀ p : Prop, (True ∨ p) = True) ∧ (∀ p : Prop, (p ∨ True) = True) ∧ (∀ n : Nat, 0 * n = 0) ∧ (∀ n : Nat, 1 * n = n) ∧ (∀ n : Nat, 0 ≤ n)
    ∧ (∀ h : Decidable True, @decide True h = true) ∧ (∀ h : Decidable False, @decide False h = false) ∧ (∀ n : Nat, ((n : Nat) : Int).toNat = n) ∧ (∀ (α : Type) (a b : List α), (a ++ b).length = a.length + b.length)
    ∧ (∀ (α : Type) (p : α → Bool) (x : α) (l : List α), List.filter p (x :: l) = if p x = true then x :: List.filter p l else List.filter p l) ∧ (∀ (α : Type) (p : α → Bool), List.filter p [] = []) ∧ (∀ (α : Type) (a b : α), (a ≠ b) = ¬ (a = b)) ∧ ((¬ True) = False) ∧ ((¬ False) = True) :=
  ⟨and_self, true_and, and_true, true_or, or_true, Nat.zero_mul, Nat.one_mul, Nat.zero_le, fun _ => decide_true _, fun _ => decide_false _, Int.toNat_natCast, fun _ _ _ => List.length_append, fun _ _ _ _ => List.filter_cons, fun _ _ => List.filter_nil, fun _ _ _ => rfl, not_true_eq_false, not_false_eq_true⟩
attribute [go_sem] undef evalOps guardOf aop ev putT upd initT H0 H.only none' isCell cellsOf shaped part bin binInt binStr binShift isShift unop eqB eqP eqN eqA eqCells eqCell mm mfind lookAV putEs delEs eqM slice bound capCut setAt putParts tm
  strs_length ints_length bytes_length List.getElem?_cons_zero List.getElem?_cons_succ List.getD_cons_zero List.getD_cons_succ Option.map_some Option.map_none Option.bind_some Option.bind_none List.all_cons List.all_nil Bool.and_self Bool.true_and Bool.and_true
  List.length_cons List.length_nil List.map_cons List.map_nil List.drop_succ_cons List.drop_zero List.take_succ_cons List.take_zero List.drop_nil List.take_nil Nat.zero_add Nat.add_zero List.append_nil List.nil_append List.cons_append Bool.or_false Bool.false_or Bool.or_true Bool.true_or
end Go.Av
end
section
set_option linter.unusedVariables false
set_option linter.unusedSimpArgs false
namespace Go.Av
section
variable {P : Program} {N : Nat}
variable {s : St} {Q : AExit → St → Prop}
theorem Wp.loopTok {β : Type} (L : List Nat) {K : List (Nat × AV)} {c : AC} {h : H} {t : Tm} (hK : (L.map fun i => (i, t i)) = K) (ch : β → Nat → List (Nat × AV)) (I : β → Prop) (μ : β → Nat) (b0 : β) (tk : Nat) (h0 : I b0) (hh : h.toks = [tk]) (hs : AllSub t (ch b0 tk))
    (round : ∀ b tk m, I b → Wp P N c ⟨tm (K ++ ch b tk), { h with toks := [tk], m := m }⟩ (AExit.andThen (fun s' => ∃ b' tk' m', I b' ∧ μ b' < μ b ∧ StLe s' ⟨tm (K ++ ch b' tk'), { h with toks := [tk'], m := m' }⟩) Q)) : Wp P N (.loop c) ⟨t, h⟩ Q := by
  refine Wp.loopH (β := β × Nat × Nat) L hK (fun j => ch j.1 j.2.1) (fun j => { h with toks := [j.2.1], m := j.2.2 }) (fun j => I j.1) (fun j => μ j.1) (b0, tk, h.m) h0 (by cases h; simp only at hh; subst hh; rfl) hs ?_
  rintro ⟨b, tk, m⟩ hb
  refine Wp.mono (round b tk m hb) ?_
  intro e s' h
  cases e with
  | normal => obtain ⟨b', tk', m', h1, h2, h3⟩ := h; exact ⟨(b', tk', m'), h1, h2, h3⟩
  | exit id => exact h
  | goto l => exact h
  | ret => exact h
  | panic v => exact h
end
section
variable {P : Program} {N : Nat}
def RCalls (P : Program) (f : FuncId) (args : List AV) (objs : Nat → Option Obj) (r : AV) : Prop := ∀ n m, ACalls P f args (.only objs [] n m) r (.only objs [] n m)
theorem WpItems.rcall {dst : Option Nat} {g : Option (Nat × Bool)} {f : FuncId} {l : List Opd} {its : List AItem} {t : Tm} {h : H} {log : List Ent} {K : Tm → H → List Ent → Prop} {vals : List AV} {r : AV} {objs : Nat → Option Obj} (ids : List Nat) (hg : guardOf t g = some true) (hs : VSubs (l.map (ev t)) vals)
    (ho : ∀ id o, objs id = some o → h.objs id = some o) (hi : ∀ id, (objs id).isSome → id ∈ ids) (hc : RCalls P f vals objs r)
    (rest : WpItems P N its (putT t dst r) h (⟨ids, [], []⟩ :: log) K) : WpItems P N (⟨dst, g, .call f l⟩ :: its) t h log K :=
  WpItems.acall hg hs (hc h.n h.m) (touch_see h ho hi) rest
end
theorem filter_self (t : Nat) : List.filter (fun x => decide (x ≠ t)) [t] = [] := by simp
theorem id_ne1 (k : Nat) : (k = k + 1) = False := by simp
theorem id_ne2 (k : Nat) : (k + 1 = k) = False := by simp
attribute [go_sem] id_ne1 id_ne2 filter_self List.mem_singleton List.mem_cons true_or
end Go.Av
end
