/- Parts of a proof: a layer of abstract values over the model, the functions' walks, plain laws. -/
import Derived.Deep.CondSized
import Derived.Defers
import Derived.IntWalk
import Derived.KernelRfl
import Derived.Laws.Append
import Derived.Laws.AppendOwn
import Derived.Laws.BytesArg
import Derived.Laws.ComplexArith
import Derived.Laws.Cover3
import Derived.Laws.Entries
import Derived.Laws.IdiomCopy
import Derived.Laws.IdiomStrings
import Derived.Laws.Pointers
import Derived.Laws.Small
import Derived.Laws.Strings
import Derived.Laws.StructEq
import Derived.MapKept
import Derived.OpenShut
import Derived.Orders
import Derived.OrdersIn
import Derived.ProofKit
import Derived.RangeFuncRecord
import Derived.RangeFuncSeq
import Derived.ReadAgain
import Derived.Recover
import Derived.Scope
import Derived.Shelf.Slices.Cells
import Derived.Shelf.Slices.Clone
import Derived.Shelf.Slices.Delete
import Derived.Shelf.Spec.SlicesInsertGrow
import Derived.SizedLaws
import Derived.Tactics
import Derived.Tactics2
import Derived.Test.YtehhdhadmapplaaGreatProg
import Derived.Test.YtehhdhadmapplaaGreatRows
import Derived.WalkSmall
import Derived.Test.YtehhdhadmapplaaGreatENilC
section
set_option maxRecDepth 100000
namespace Go.Proofs.YtehhdhadmapplaaGreat.C
open Go.Av
def c174 : AC := (.seq (.reg [⟨some 2, none, .mov (.c (.int .i64 0))⟩] none)
 (.seq (.block 0 (.seq (.reg [⟨some 4, none, .mov (.t 0)⟩, ⟨some 5, none, .nilck (.t 4)⟩, ⟨some 6, none, .faddr 2 (.t 5)⟩, ⟨some 7, none, .load none (.t 6)⟩, ⟨some 8, none, .bin .eql (.t 7) (.c (.int .i64 0))⟩, ⟨some 3, none, .mov (.t 8)⟩] none)
 (.cond (.t 3) (.seq (.reg [⟨some 9, none, .mov (.t 0)⟩, ⟨some 10, none, .nilck (.t 9)⟩, ⟨some 11, none, .faddr 3 (.t 10)⟩, ⟨none, none, .store 1 (.t 11) (.c (.bool true))⟩] none)
 (.seq (.reg [⟨some 2, none, .mov (.c (.int .i64 20))⟩] none)
 .ret)) (.seq (.reg [⟨some 13, none, .mov (.t 0)⟩, ⟨some 14, none, .nilck (.t 13)⟩, ⟨some 15, none, .faddr 2 (.t 14)⟩, ⟨some 16, none, .load none (.t 15)⟩, ⟨some 17, none, .bin .gtr (.t 16) (.c (.int .i64 0))⟩, ⟨some 12, none, .mov (.t 17)⟩] none)
 (.cond (.t 12) (.reg [⟨some 18, none, .mov (.t 0)⟩, ⟨some 19, none, .nilck (.t 18)⟩, ⟨some 20, none, .faddr 2 (.t 19)⟩, ⟨some 21, none, .load none (.t 20)⟩, ⟨some 22, none, .bin .sub (.t 21) (.c (.int .i64 1))⟩, ⟨some 23, none, .nilck (.t 18)⟩, ⟨some 24, none, .faddr 2 (.t 23)⟩, ⟨none, none, .store 1 (.t 24) (.t 22)⟩] none) .skip)))))
 (.seq (.reg [⟨some 2, none, .mov (.c (.int .i64 0))⟩] none)
 .ret)))
theorem f174 : FnIs Tryz.prog 174 25 c174 [.tmp 2] := ⟨_, Tryz.func174, rfl, by kernel_rfl, rfl⟩
def c175 : AC := (.seq (.reg [⟨some 2, none, .mov (.c (.int .i64 0))⟩] none)
 (.seq (.block 0 (.seq (.reg [⟨some 4, none, .mov (.t 0)⟩, ⟨some 5, none, .call 162 [(.t 4)]⟩, ⟨some 6, none, .un .not (.t 5)⟩, ⟨some 3, none, .mov (.t 6)⟩] none)
 (.cond (.t 3) (.seq (.reg [⟨some 2, none, .mov (.c (.int .i64 1))⟩] none)
 .ret) (.seq (.reg [⟨some 8, none, .mov (.t 0)⟩, ⟨some 9, none, .nilck (.t 8)⟩, ⟨some 10, none, .faddr 3 (.t 9)⟩, ⟨some 11, none, .load none (.t 10)⟩, ⟨some 7, none, .mov (.t 11)⟩] none)
 (.cond (.t 7) (.seq (.reg [⟨some 2, none, .mov (.c (.int .i64 20))⟩] none)
 .ret) .skip)))))
 (.seq (.reg [⟨some 2, none, .mov (.c (.int .i64 0))⟩] none)
 .ret)))
theorem f175 : FnIs Tryz.prog 175 12 c175 [.tmp 2] := ⟨_, Tryz.func175, rfl, by kernel_rfl, rfl⟩
def c176 : AC := (.seq (.seq (.reg [⟨some 6, none, .mov (.t 0)⟩, ⟨some 7, none, .nilck (.t 6)⟩, ⟨some 8, none, .faddr 1 (.t 7)⟩, ⟨some 9, none, .load none (.t 8)⟩, ⟨some 10, none, .len false (.t 9)⟩, ⟨some 11, none, .mov (.c (.int .i64 0))⟩] none)
 (.block 0 (.loop (.seq (.reg [⟨some 12, none, .bin .lss (.t 11) (.t 10)⟩] none)
 (.seq (.cond (.t 12) .skip (.exit 0))
 (.seq (.block 1 (.seq (.reg [⟨some 13, none, .mov (.t 11)⟩, ⟨some 14, none, .iaddr 129 (.t 9) (.t 11)⟩, ⟨some 15, none, .load (some 129) (.t 14)⟩, ⟨some 5, none, .alloc (List.replicate 128 (.int .u8 0) ++ [.int .i64 0])⟩, ⟨some 4, none, .mov (.t 13)⟩, ⟨none, none, .store 129 (.t 5) (.t 15)⟩] none)
 (.seq (.reg [⟨some 16, none, .mov (.t 1)⟩, ⟨some 17, none, .mov (.t 4)⟩, ⟨some 18, none, .callv (.t 16) [(.t 17)]⟩] none)
 (.cond (.t 18) (.reg [⟨some 19, none, .mov (.t 0)⟩, ⟨some 20, none, .nilck (.t 19)⟩, ⟨some 21, none, .faddr 0 (.t 20)⟩, ⟨some 22, none, .load none (.t 21)⟩, ⟨some 23, none, .faddr 128 (.t 5)⟩, ⟨some 24, none, .load none (.t 23)⟩, ⟨some 25, none, .faddr 0 (.t 5)⟩, ⟨some 26, none, .load (some 128) (.t 25)⟩, ⟨some 27, none, .iaddr 128 (.t 22) (.t 24)⟩, ⟨none, none, .store 128 (.t 27) (.t 26)⟩] (some [(3, 5), (3, 7), (5, 7)])) .skip))))
 (.reg [⟨some 28, none, .bin .add (.t 11) (.c (.int .i64 1))⟩, ⟨some 11, none, .mov (.t 28)⟩] none)))))))
 (.reg [⟨some 29, none, .mov (.t 0)⟩, ⟨some 30, none, .nilck (.t 29)⟩, ⟨some 31, none, .faddr 1 (.t 30)⟩, ⟨none, none, .store 1 (.t 31) (.c (.sl 129 [] (.exact 0)))⟩] none))
theorem f176 : FnIs Tryz.prog 176 32 c176 [] := ⟨_, Tryz.func176, rfl, by kernel_rfl, rfl⟩
def c177 : AC := (.seq (.reg [⟨some 2, none, .mov (.c (.bool false))⟩] none)
 (.seq (.reg [⟨some 2, none, .mov (.c (.bool true))⟩] none)
 .ret))
theorem f177 : FnIs Tryz.prog 177 3 c177 [.tmp 2] := ⟨_, Tryz.func177, rfl, by kernel_rfl, rfl⟩
def c178 : AC := (.seq (.reg [⟨some 4, none, .box (.t 1)⟩, ⟨some 5, none, .box (.t 2)⟩, ⟨some 6, none, .mov (.c (.sl 5 [] (.exact 0)))⟩, ⟨some 7, none, .mov (.c (.int .i64 0))⟩] none)
 (.seq (.seq (.reg [⟨some 12, none, .mov (.t 0)⟩, ⟨some 13, none, .len true (.t 12)⟩, ⟨some 14, none, .bin .gtr (.t 13) (.c (.int .i64 16384))⟩] none)
 (.cond (.t 14) (.seq (.reg [⟨some 6, none, .mov (.c (.sl 5 [] (.exact 0)))⟩, ⟨some 7, none, .mov (.c (.int .i64 5))⟩] none)
 .ret) .skip))
 (.seq (.seq (.reg [⟨some 15, none, .load none (.t 4)⟩, ⟨some 16, none, .bin .lss (.t 15) (.c (.int .i64 0))⟩, ⟨some 17, none, .mov (.t 16)⟩, ⟨some 18, some (17, false), .load none (.t 4)⟩, ⟨some 19, some (17, false), .bin .gtr (.t 18) (.c (.int .i64 2147483647))⟩, ⟨some 20, none, .pick (.t 17) (.c (.bool true)) (.t 19)⟩, ⟨some 21, none, .mov (.t 20)⟩, ⟨some 22, some (21, false), .load none (.t 5)⟩, ⟨some 23, some (21, false), .bin .lss (.t 22) (.c (.int .i64 0))⟩, ⟨some 24, none, .pick (.t 21) (.c (.bool true)) (.t 23)⟩, ⟨some 25, none, .mov (.t 24)⟩, ⟨some 26, some (25, false), .load none (.t 5)⟩, ⟨some 27, some (25, false), .bin .gtr (.t 26) (.c (.int .i64 1152921504606846976))⟩, ⟨some 28, none, .pick (.t 25) (.c (.bool true)) (.t 27)⟩] none)
 (.cond (.t 28) (.seq (.reg [⟨some 6, none, .mov (.c (.sl 5 [] (.exact 0)))⟩, ⟨some 7, none, .mov (.c (.int .i64 2))⟩] none)
 .ret) .skip))
 (.seq (.reg [⟨some 8, none, .alloc [.sl 5 [] (.exact 0)]⟩] none)
 (.seq (.seq (.reg [⟨some 29, none, .mov (.t 0)⟩, ⟨some 30, none, .call 266 [(.t 29)]⟩] none)
 (.block 0 (.rfun (.t 30) [31, 32] (.seq (.reg [⟨some 9, none, .mov (.t 31)⟩] none)
 (.reg [⟨some 10, none, .mov (.t 32)⟩] none))
 (.block 1 (.reg [⟨some 33, none, .load none (.t 8)⟩, ⟨some 34, none, .load none (.t 4)⟩, ⟨some 35, none, .load none (.t 5)⟩, ⟨some 36, none, .mov (.t 9)⟩, ⟨some 37, none, .bin .add (.t 35) (.t 36)⟩, ⟨some 38, none, .mov (.t 9)⟩, ⟨some 39, none, .bin .eql (.t 38) (.c (.int .i64 0))⟩, ⟨some 40, none, .mov (.t 10)⟩, ⟨some 41, none, .build [.int .i64 0, .int .i64 0, .bool false, .bool false, .str []] [(0, 1, (.t 34)), (1, 1, (.t 37)), (2, 1, (.t 39)), (4, 1, (.t 40))]⟩, ⟨some 42, none, .buildSl 5 [(.t 41)]⟩, ⟨some 43, none, .app false 5 40 (.t 33) (.t 42)⟩, ⟨none, none, .store 1 (.t 8) (.t 43)⟩] none)))))
 (.seq (.reg [⟨some 44, none, .load none (.t 8)⟩, ⟨some 45, none, .load none (.t 8)⟩, ⟨some 46, none, .len false (.t 45)⟩, ⟨some 47, none, .bin .sub (.t 46) (.c (.int .i64 1))⟩, ⟨some 48, none, .iaddr 5 (.t 44) (.t 47)⟩, ⟨some 11, none, .mov (.t 48)⟩] none)
 (.seq (.reg [⟨some 49, none, .mov (.t 11)⟩, ⟨some 50, none, .nilck (.t 49)⟩, ⟨some 51, none, .faddr 3 (.t 50)⟩, ⟨none, none, .store 1 (.t 51) (.c (.bool true))⟩] none)
 (.seq (.seq (.reg [⟨some 52, none, .mov (.t 11)⟩, ⟨some 53, none, .nilck (.t 52)⟩, ⟨some 54, none, .faddr 1 (.t 53)⟩, ⟨some 55, none, .load none (.t 54)⟩, ⟨some 56, none, .bin .gtr (.t 55) (.c (.int .i64 1152921504606846976))⟩] none)
 (.cond (.t 56) (.seq (.reg [⟨some 6, none, .mov (.c (.sl 5 [] (.exact 0)))⟩, ⟨some 7, none, .mov (.c (.int .i64 2))⟩] none)
 .ret) .skip))
 (.seq (.reg [⟨some 57, none, .load none (.t 8)⟩, ⟨some 6, none, .mov (.t 57)⟩, ⟨some 7, none, .mov (.c (.int .i64 0))⟩] none)
 .ret)))))))))
theorem f178 : FnIs Tryz.prog 178 58 c178 [.tmp 6, .tmp 7] := ⟨_, Tryz.func178, rfl, by kernel_rfl, rfl⟩
def c179 : AC := (.seq (.reg [⟨some 1, none, .box (.t 0)⟩, ⟨some 2, none, .mov (.c (.sl 1 [] (.exact 0)))⟩, ⟨some 3, none, .mov (.c (.int .i64 0))⟩] none)
 (.seq (.seq (.reg [⟨some 6, none, .load (some 5) (.t 1)⟩, ⟨some 7, none, .call 261 [(.t 6)]⟩, ⟨some 4, none, .mov (.t 7)⟩] none)
 (.seq (.reg [⟨some 8, none, .mov (.t 4)⟩, ⟨some 9, none, .bin .neq (.t 8) (.c (.int .i64 0))⟩] none)
 (.cond (.t 9) (.seq (.reg [⟨some 10, none, .mov (.t 4)⟩, ⟨some 2, none, .mov (.c (.sl 1 [] (.exact 0)))⟩, ⟨some 3, none, .mov (.t 10)⟩] none)
 .ret) .skip)))
 (.seq (.reg [⟨some 11, none, .buildSl 1 [(.c (.int .u8 83))]⟩, ⟨some 12, none, .load (some 5) (.t 1)⟩, ⟨some 13, none, .call 267 [(.t 12)]⟩, ⟨some 14, none, .call 245 [(.t 11), (.t 13)]⟩, ⟨some 5, none, .mov (.t 14)⟩] none)
 (.seq (.reg [⟨some 15, none, .mov (.t 5)⟩, ⟨some 16, none, .faddr 0 (.t 1)⟩, ⟨some 17, none, .load none (.t 16)⟩, ⟨some 18, none, .call 170 [(.t 15), (.t 17)]⟩, ⟨some 19, none, .faddr 1 (.t 1)⟩, ⟨some 20, none, .load none (.t 19)⟩, ⟨some 21, none, .call 169 [(.t 18), (.t 20)]⟩, ⟨some 5, none, .mov (.t 21)⟩] (some [(2, 5), (3, 5)]))
 (.seq (.reg [⟨some 22, none, .mov (.t 5)⟩, ⟨some 23, none, .faddr 4 (.t 1)⟩, ⟨some 24, none, .load none (.t 23)⟩, ⟨some 25, none, .len true (.t 24)⟩, ⟨some 26, none, .call 244 [(.t 22), (.t 25)]⟩, ⟨some 27, none, .faddr 4 (.t 1)⟩, ⟨some 28, none, .load none (.t 27)⟩, ⟨some 29, none, .app true 1 1 (.t 26) (.t 28)⟩, ⟨some 5, none, .mov (.t 29)⟩] (some [(2, 6), (4, 6)]))
 (.seq (.reg [⟨some 30, none, .mov (.t 5)⟩, ⟨some 31, none, .faddr 4 (.t 1)⟩, ⟨some 32, none, .load none (.t 31)⟩, ⟨some 33, none, .len true (.t 32)⟩, ⟨some 34, none, .bin .sub (.c (.int .i64 108)) (.t 33)⟩, ⟨some 35, none, .appz 1 (.int .u8 0) 1 (.t 30) (.t 34)⟩, ⟨some 5, none, .mov (.t 35)⟩] none)
 (.seq (.reg [⟨some 36, none, .mov (.t 5)⟩, ⟨some 37, none, .mov (.t 5)⟩, ⟨some 38, none, .call 171 [(.t 37)]⟩, ⟨some 39, none, .call 170 [(.t 36), (.t 38)]⟩, ⟨some 2, none, .mov (.t 39)⟩, ⟨some 3, none, .mov (.c (.int .i64 0))⟩] none)
 .ret)))))))
theorem f179 : FnIs Tryz.prog 179 40 c179 [.tmp 2, .tmp 3] := ⟨_, Tryz.func179, rfl, by kernel_rfl, rfl⟩
def c180 : AC := (.seq (.reg [⟨some 4, none, .mov (.c (.int .i64 0))⟩] none)
 (.seq (.reg [⟨some 5, none, .mov (.t 0)⟩, ⟨some 6, none, .nilck (.t 5)⟩, ⟨some 7, none, .faddr 1 (.t 6)⟩, ⟨some 8, none, .load none (.t 7)⟩, ⟨some 9, none, .mov (.t 1)⟩, ⟨some 10, none, .mov (.t 0)⟩, ⟨some 11, none, .nilck (.t 10)⟩, ⟨some 12, none, .faddr 2 (.t 11)⟩, ⟨some 13, none, .load none (.t 12)⟩, ⟨some 14, none, .bin .rem (.t 9) (.t 13)⟩, ⟨some 15, none, .bin .add (.t 8) (.t 14)⟩, ⟨some 4, none, .mov (.t 15)⟩] (some [(3, 8)]))
 .ret))
theorem f180 : FnIs Tryz.prog 180 16 c180 [.tmp 4] := ⟨_, Tryz.func180, rfl, by kernel_rfl, rfl⟩
def c185 : AC := (.seq (.reg [⟨some 2, none, .mov (.c (.sl 3 [] (.exact 0)))⟩] none)
 (.seq (.seq (.reg [⟨some 3, none, .mov (.t 0)⟩, ⟨some 4, none, .eqN false (.t 3)⟩] none)
 (.cond (.t 4) (.seq (.reg [⟨some 2, none, .mov (.c (.sl 3 [] (.exact 0)))⟩] none)
 .ret) .skip))
 (.seq (.reg [⟨some 5, none, .buildSl 3 []⟩, ⟨some 6, none, .mov (.t 0)⟩, ⟨some 7, none, .app false 3 32 (.t 5) (.t 6)⟩, ⟨some 2, none, .mov (.t 7)⟩] none)
 .ret)))
theorem f185 : FnIs Tryz.prog 185 8 c185 [.tmp 2] := ⟨_, Tryz.func185, rfl, by kernel_rfl, rfl⟩
def c188 : AC := (.seq (.reg [⟨some 3, none, .mov (.t 0)⟩, ⟨some 4, none, .len false (.t 3)⟩, ⟨some 2, none, .mov (.t 4)⟩] none)
 (.reg [⟨some 5, none, .mov (.t 0)⟩, ⟨some 6, none, .mov (.t 2)⟩, ⟨some 7, none, .mov (.t 2)⟩, ⟨some 8, none, .conv (.toInt .u64) (.t 7)⟩, ⟨some 9, none, .call 147 [(.t 8)]⟩, ⟨some 10, none, .call 270 [(.t 5), (.c (.int .i64 0)), (.t 6), (.t 9)]⟩] none))
theorem f188 : FnIs Tryz.prog 188 11 c188 [] := ⟨_, Tryz.func188, rfl, by kernel_rfl, rfl⟩
def c190 : AC := (.seq (.reg [⟨some 0, none, .mov (.c (.sc (.pointer none)))⟩] none)
 (.seq (.reg [⟨some 1, none, .mkmap⟩, ⟨some 2, none, .build [.sl 1 [] (.exact 0), .sc (.map none), .int .i64 0, .int .i64 0] [(1, 1, (.t 1))]⟩, ⟨some 3, none, .box (.t 2)⟩, ⟨some 0, none, .mov (.t 3)⟩] none)
 .ret))
theorem f190 : FnIs Tryz.prog 190 4 c190 [.tmp 0] := ⟨_, Tryz.func190, rfl, by kernel_rfl, rfl⟩
def c192 : AC := (.seq (.reg [⟨some 9, none, .mov (.t 0)⟩, ⟨some 10, none, .nilck (.t 9)⟩, ⟨some 11, none, .faddr 0 (.t 10)⟩, ⟨some 12, none, .load none (.t 11)⟩, ⟨some 13, none, .mov (.t 1)⟩, ⟨some 14, none, .call 207 [(.t 12), (.t 13)]⟩, ⟨some 8, none, .mov (.t 14)⟩, ⟨some 15, none, .ext (.t 8) 0⟩, ⟨some 16, none, .ext (.t 8) 1⟩, ⟨some 6, none, .mov (.t 15)⟩, ⟨some 7, none, .mov (.t 16)⟩] none)
 (.block 0 (.seq (.reg [⟨some 18, none, .mov (.t 2)⟩, ⟨some 19, none, .len false (.t 18)⟩, ⟨some 20, none, .bin .eql (.t 19) (.c (.int .i64 0))⟩, ⟨some 21, none, .mov (.t 20)⟩, ⟨some 22, some (21, true), .mov (.t 7)⟩, ⟨some 23, none, .pick (.t 21) (.t 22) (.c (.bool false))⟩, ⟨some 17, none, .mov (.t 23)⟩] none)
 (.cond (.t 17) (.seq (.reg [⟨some 24, none, .mov (.t 0)⟩, ⟨some 25, none, .mov (.t 0)⟩, ⟨some 26, none, .nilck (.t 25)⟩, ⟨some 27, none, .faddr 0 (.t 26)⟩, ⟨some 28, none, .load none (.t 27)⟩, ⟨some 29, none, .mov (.t 6)⟩, ⟨some 30, none, .mov (.t 6)⟩, ⟨some 31, none, .bin .add (.t 30) (.c (.int .i64 1))⟩, ⟨some 32, none, .call 159 [(.t 28), (.t 29), (.t 31)]⟩, ⟨some 33, none, .nilck (.t 24)⟩, ⟨some 34, none, .faddr 0 (.t 33)⟩, ⟨none, none, .store 1 (.t 34) (.t 32)⟩] none)
 (.reg [⟨some 35, none, .mov (.t 0)⟩, ⟨some 36, none, .nilck (.t 35)⟩, ⟨some 37, none, .faddr 1 (.t 36)⟩, ⟨some 38, none, .load none (.t 37)⟩, ⟨some 39, none, .mov (.t 1)⟩, ⟨none, none, .mdel (.t 38) (.t 39)⟩] none)) (.seq (.reg [⟨some 41, none, .mov (.t 2)⟩, ⟨some 42, none, .len false (.t 41)⟩, ⟨some 43, none, .bin .gtr (.t 42) (.c (.int .i64 0))⟩, ⟨some 40, none, .mov (.t 43)⟩] none)
 (.cond (.t 40) (.seq (.seq (.reg [⟨some 44, none, .mov (.t 7)⟩, ⟨some 45, none, .un .not (.t 44)⟩] none)
 (.cond (.t 45) (.reg [⟨some 46, none, .mov (.t 0)⟩, ⟨some 47, none, .mov (.t 0)⟩, ⟨some 48, none, .nilck (.t 47)⟩, ⟨some 49, none, .faddr 0 (.t 48)⟩, ⟨some 50, none, .load none (.t 49)⟩, ⟨some 51, none, .mov (.t 6)⟩, ⟨some 52, none, .mov (.t 1)⟩, ⟨some 53, none, .buildSl 1 [(.t 52)]⟩, ⟨some 54, none, .call 154 [(.t 50), (.t 51), (.t 53)]⟩, ⟨some 55, none, .nilck (.t 46)⟩, ⟨some 56, none, .faddr 0 (.t 55)⟩, ⟨none, none, .store 1 (.t 56) (.t 54)⟩] none) .skip))
 (.reg [⟨some 57, none, .mov (.t 0)⟩, ⟨some 58, none, .nilck (.t 57)⟩, ⟨some 59, none, .faddr 1 (.t 58)⟩, ⟨some 60, none, .load none (.t 59)⟩, ⟨some 61, none, .mov (.t 1)⟩, ⟨some 62, none, .mov (.t 2)⟩, ⟨none, none, .mput (.t 60) (.t 61) (.t 62)⟩] none)) .skip))))))
theorem f192 : FnIs Tryz.prog 192 63 c192 [] := ⟨_, Tryz.func192, rfl, by kernel_rfl, rfl⟩
def c194 : AC := (.seq (.reg [⟨some 2, none, .alloc [.int .i64 0, .sl 3 [] (.exact 0)]⟩, ⟨some 3, none, .mov (.c (.int .i64 0))⟩, ⟨some 4, none, .mov (.c (.int .i64 0))⟩] none)
 (.scope (.seq (.reg [⟨some 5, none, .alloc [.int .i64 0, .sl 3 [] (.exact 0)]⟩] none)
 (.seq (.reg [⟨some 6, none, .alloc [.str [], .str [], .bool false]⟩] none)
 (.seq (.reg [⟨some 7, none, .mov (.c (.bool false))⟩] none)
 (.seq (.reg [⟨some 8, none, .mov (.c (.int .i64 10))⟩, ⟨some 9, none, .mov (.c (.int .i64 0))⟩] none)
 (.seq (.seq (.reg [⟨some 10, none, .mov (.t 0)⟩, ⟨some 11, none, .len true (.t 10)⟩, ⟨some 12, none, .bin .lss (.t 11) (.c (.int .i64 9))⟩, ⟨some 13, none, .mov (.t 12)⟩, ⟨some 14, some (13, false), .mov (.t 0)⟩, ⟨some 15, some (13, false), .len true (.t 14)⟩, ⟨some 16, some (13, false), .bin .gtr (.t 15) (.c (.int .i64 16384))⟩, ⟨some 17, none, .pick (.t 13) (.c (.bool true)) (.t 16)⟩] none)
 (.cond (.t 17) (.goto 0) .skip))
 (.seq (.reg [⟨some 18, none, .mov (.t 0)⟩, ⟨some 19, none, .slc true 0 (.t 18) (some (.c (.int .i64 1))) (some (.c (.int .i64 9))) none⟩, ⟨some 20, none, .conv .s2b (.t 19)⟩, ⟨some 21, none, .call 268 [(.t 20)]⟩, ⟨some 22, none, .call 269 [(.t 21)]⟩, ⟨some 23, none, .faddr 0 (.t 5)⟩, ⟨none, none, .store 1 (.t 23) (.t 22)⟩] none)
 (.seq (.block 0 (.seq (.reg [⟨some 25, none, .mov (.t 0)⟩, ⟨some 26, none, .idx (.t 25) (.c (.int .i64 0))⟩, ⟨some 27, none, .bin .eql (.t 26) (.c (.int .u8 77))⟩, ⟨some 28, none, .mov (.t 27)⟩, ⟨some 29, some (28, true), .mov (.t 0)⟩, ⟨some 30, some (28, true), .len true (.t 29)⟩, ⟨some 31, some (28, true), .bin .eql (.t 30) (.c (.int .i64 9))⟩, ⟨some 32, none, .pick (.t 28) (.t 31) (.c (.bool false))⟩, ⟨some 33, none, .mov (.t 32)⟩, ⟨some 34, some (33, true), .faddr 0 (.t 5)⟩, ⟨some 35, some (33, true), .load none (.t 34)⟩, ⟨some 36, some (33, true), .bin .geq (.t 35) (.c (.int .i64 0))⟩, ⟨some 37, none, .pick (.t 33) (.t 36) (.c (.bool false))⟩, ⟨some 38, none, .mov (.t 37)⟩, ⟨some 39, some (38, true), .faddr 0 (.t 5)⟩, ⟨some 40, some (38, true), .load none (.t 39)⟩, ⟨some 41, some (38, true), .bin .leq (.t 40) (.c (.int .i64 1152921504606846976))⟩, ⟨some 42, none, .pick (.t 38) (.t 41) (.c (.bool false))⟩, ⟨some 24, none, .mov (.t 42)⟩] none)
 (.cond (.t 24) (.seq (.reg [⟨some 43, none, .build [.int .i64 0, .sl 3 [] (.exact 0)] []⟩, ⟨some 44, none, .faddr 0 (.t 5)⟩, ⟨some 45, none, .load none (.t 44)⟩, ⟨none, none, .store 2 (.t 2) (.t 43)⟩, ⟨some 3, none, .mov (.t 45)⟩, ⟨some 4, none, .mov (.c (.int .i64 0))⟩] (some [(2, 3)]))
 .ret) (.seq (.reg [⟨some 47, none, .mov (.t 0)⟩, ⟨some 48, none, .idx (.t 47) (.c (.int .i64 0))⟩, ⟨some 49, none, .bin .neq (.t 48) (.c (.int .u8 66))⟩, ⟨some 50, none, .mov (.t 49)⟩, ⟨some 51, some (50, false), .mov (.t 0)⟩, ⟨some 52, some (50, false), .len true (.t 51)⟩, ⟨some 53, some (50, false), .bin .eql (.t 52) (.c (.int .i64 9))⟩, ⟨some 54, none, .pick (.t 50) (.c (.bool true)) (.t 53)⟩, ⟨some 46, none, .mov (.t 54)⟩] none)
 (.cond (.t 46) (.goto 0) .skip)))))
 (.seq (.reg [⟨some 55, none, .mov (.t 0)⟩, ⟨some 56, none, .idx (.t 55) (.c (.int .i64 9))⟩, ⟨some 57, none, .conv (.toInt .i64) (.t 56)⟩, ⟨some 9, none, .mov (.t 57)⟩] none)
 (.seq (.label 2)
 (.seq (.seq (.reg [⟨some 58, none, .mov (.t 9)⟩, ⟨some 59, none, .bin .eql (.t 58) (.c (.int .i64 0))⟩] none)
 (.cond (.t 59) (.goto 1) .skip))
 (.seq (.reg [⟨some 60, none, .mov (.t 9)⟩, ⟨some 61, none, .bin .sub (.t 60) (.c (.int .i64 1))⟩, ⟨some 9, none, .mov (.t 61)⟩] none)
 (.seq (.seq (.reg [⟨some 62, none, .mov (.t 8)⟩, ⟨some 63, none, .mov (.t 0)⟩, ⟨some 64, none, .len true (.t 63)⟩, ⟨some 65, none, .bin .geq (.t 62) (.t 64)⟩, ⟨some 66, none, .mov (.t 65)⟩, ⟨some 67, some (66, false), .mov (.t 0)⟩, ⟨some 68, some (66, false), .mov (.t 8)⟩, ⟨some 69, some (66, false), .idx (.t 67) (.t 68)⟩, ⟨some 70, some (66, false), .bin .gtr (.t 69) (.c (.int .u8 1))⟩, ⟨some 71, none, .pick (.t 66) (.c (.bool true)) (.t 70)⟩] none)
 (.cond (.t 71) (.goto 0) .skip))
 (.seq (.reg [⟨some 72, none, .mov (.t 0)⟩, ⟨some 73, none, .mov (.t 8)⟩, ⟨some 74, none, .idx (.t 72) (.t 73)⟩, ⟨some 75, none, .bin .eql (.t 74) (.c (.int .u8 1))⟩, ⟨some 76, none, .build [.str [], .str [], .bool false] [(2, 1, (.t 75))]⟩, ⟨none, none, .store 3 (.t 6) (.t 76)⟩] none)
 (.seq (.seq (.reg [⟨some 78, none, .mov (.t 0)⟩, ⟨some 79, none, .mov (.t 8)⟩, ⟨some 80, none, .bin .add (.t 79) (.c (.int .i64 1))⟩, ⟨some 81, none, .call 274 [(.t 78), (.t 80)]⟩, ⟨some 77, none, .mov (.t 81)⟩, ⟨some 82, none, .ext (.t 77) 0⟩, ⟨some 83, none, .ext (.t 77) 1⟩, ⟨some 84, none, .ext (.t 77) 2⟩, ⟨some 85, none, .faddr 0 (.t 6)⟩, ⟨none, none, .store 1 (.t 85) (.t 82)⟩, ⟨some 8, none, .mov (.t 83)⟩, ⟨some 7, none, .mov (.t 84)⟩] none)
 (.seq (.reg [⟨some 86, none, .mov (.t 7)⟩, ⟨some 87, none, .un .not (.t 86)⟩] none)
 (.cond (.t 87) (.goto 0) .skip)))
 (.seq (.seq (.reg [⟨some 89, none, .mov (.t 0)⟩, ⟨some 90, none, .mov (.t 8)⟩, ⟨some 91, none, .call 274 [(.t 89), (.t 90)]⟩, ⟨some 88, none, .mov (.t 91)⟩, ⟨some 92, none, .ext (.t 88) 0⟩, ⟨some 93, none, .ext (.t 88) 1⟩, ⟨some 94, none, .ext (.t 88) 2⟩, ⟨some 95, none, .faddr 1 (.t 6)⟩, ⟨none, none, .store 1 (.t 95) (.t 92)⟩, ⟨some 8, none, .mov (.t 93)⟩, ⟨some 7, none, .mov (.t 94)⟩] none)
 (.seq (.reg [⟨some 96, none, .mov (.t 7)⟩, ⟨some 97, none, .un .not (.t 96)⟩] none)
 (.cond (.t 97) (.goto 0) .skip)))
 (.seq (.reg [⟨some 98, none, .faddr 1 (.t 5)⟩, ⟨some 99, none, .load none (.t 98)⟩, ⟨some 100, none, .load (some 3) (.t 6)⟩, ⟨some 101, none, .buildSl 3 [(.t 100)]⟩, ⟨some 102, none, .app false 3 40 (.t 99) (.t 101)⟩, ⟨some 103, none, .faddr 1 (.t 5)⟩, ⟨none, none, .store 1 (.t 103) (.t 102)⟩] none)
 (.seq (.goto 2)
 (.seq (.label 1)
 (.seq (.seq (.reg [⟨some 104, none, .mov (.t 8)⟩, ⟨some 105, none, .mov (.t 0)⟩, ⟨some 106, none, .len true (.t 105)⟩, ⟨some 107, none, .bin .eql (.t 104) (.t 106)⟩, ⟨some 108, none, .mov (.t 107)⟩, ⟨some 109, some (108, true), .load (some 2) (.t 5)⟩, ⟨some 110, some (108, true), .call 275 [(.t 109)]⟩, ⟨some 111, some (108, true), .bin .eql (.t 110) (.c (.int .i64 0))⟩, ⟨some 112, none, .pick (.t 108) (.t 111) (.c (.bool false))⟩] none)
 (.cond (.t 112) (.seq (.reg [⟨some 113, none, .load (some 2) (.t 5)⟩, ⟨none, none, .store 2 (.t 2) (.t 113)⟩, ⟨some 3, none, .mov (.c (.int .i64 0))⟩, ⟨some 4, none, .mov (.c (.int .i64 0))⟩] none)
 .ret) .skip))
 (.seq (.label 0)
 (.seq (.reg [⟨some 114, none, .build [.int .i64 0, .sl 3 [] (.exact 0)] []⟩, ⟨none, none, .store 2 (.t 2) (.t 114)⟩, ⟨some 3, none, .mov (.c (.int .i64 0))⟩, ⟨some 4, none, .mov (.c (.int .i64 4))⟩] none)
 .ret)))))))))))))))))))))))
theorem f194 : FnIs Tryz.prog 194 115 c194 [.cell 2 (some 2), .tmp 3, .tmp 4] := ⟨_, Tryz.func194, rfl, by kernel_rfl, rfl⟩
def c195 : AC := (.seq (.reg [⟨some 6, none, .mov (.c (.str []))⟩, ⟨some 7, none, .mov (.c (.int .i64 0))⟩] none)
 (.seq (.seq (.reg [⟨some 11, none, .mov (.t 0)⟩, ⟨some 12, none, .mov (.t 2)⟩, ⟨some 13, none, .call 276 [(.t 11), (.t 12)]⟩, ⟨some 8, none, .mov (.t 13)⟩] none)
 (.seq (.reg [⟨some 14, none, .mov (.t 8)⟩, ⟨some 15, none, .bin .neq (.t 14) (.c (.int .i64 0))⟩] none)
 (.cond (.t 15) (.seq (.reg [⟨some 16, none, .mov (.t 8)⟩, ⟨some 6, none, .mov (.c (.str []))⟩, ⟨some 7, none, .mov (.t 16)⟩] none)
 .ret) .skip)))
 (.seq (.reg [⟨some 18, none, .mov (.t 0)⟩, ⟨some 19, none, .nilck (.t 18)⟩, ⟨some 20, none, .faddr 1 (.t 19)⟩, ⟨some 21, none, .load none (.t 20)⟩, ⟨some 22, none, .mov (.t 1)⟩, ⟨some 23, none, .mlook (.sl 3 [] (.exact 0)) false (.t 21) (.t 22)⟩, ⟨some 24, none, .mov (.t 2)⟩, ⟨some 25, none, .call 277 [(.t 23), (.t 24)]⟩, ⟨some 17, none, .mov (.t 25)⟩, ⟨some 26, none, .ext (.t 17) 0⟩, ⟨some 27, none, .ext (.t 17) 1⟩, ⟨some 9, none, .mov (.t 26)⟩, ⟨some 10, none, .mov (.t 27)⟩] none)
 (.seq (.seq (.reg [⟨some 28, none, .mov (.t 10)⟩, ⟨some 29, none, .un .not (.t 28)⟩] none)
 (.cond (.t 29) (.seq (.reg [⟨some 6, none, .mov (.c (.str []))⟩, ⟨some 7, none, .mov (.c (.int .i64 7))⟩] none)
 .ret) .skip))
 (.seq (.reg [⟨some 30, none, .mov (.t 9)⟩, ⟨some 6, none, .mov (.t 30)⟩, ⟨some 7, none, .mov (.c (.int .i64 0))⟩] none)
 .ret)))))
theorem f195 : FnIs Tryz.prog 195 31 c195 [.tmp 6, .tmp 7] := ⟨_, Tryz.func195, rfl, by kernel_rfl, rfl⟩
def c196 : AC := (.seq (.reg [⟨some 2, none, .mov (.c (.bool false))⟩] none)
 (.seq (.reg [⟨some 3, none, .mov (.t 0)⟩, ⟨some 4, none, .eqP true (.t 3) (.c (.sc (.pointer none)))⟩, ⟨some 5, none, .mov (.t 4)⟩, ⟨some 6, some (5, true), .mov (.t 0)⟩, ⟨some 7, some (5, true), .nilck (.t 6)⟩, ⟨some 8, some (5, true), .faddr 1 (.t 7)⟩, ⟨some 9, some (5, true), .load none (.t 8)⟩, ⟨some 10, some (5, true), .eqM true (.t 9)⟩, ⟨some 11, none, .pick (.t 5) (.t 10) (.c (.bool false))⟩, ⟨some 2, none, .mov (.t 11)⟩] none)
 .ret))
theorem f196 : FnIs Tryz.prog 196 12 c196 [.tmp 2] := ⟨_, Tryz.func196, rfl, by kernel_rfl, rfl⟩
def c197 : AC := (.seq (.reg [⟨some 2, none, .mov (.c (.int .i64 0))⟩] none)
 (.seq (.block 0 (.seq (.reg [⟨some 4, none, .mov (.t 0)⟩, ⟨some 5, none, .call 126 [(.t 4)]⟩, ⟨some 6, none, .un .not (.t 5)⟩, ⟨some 3, none, .mov (.t 6)⟩] none)
 (.cond (.t 3) (.seq (.reg [⟨some 2, none, .mov (.c (.int .i64 1))⟩] none)
 .ret) (.seq (.reg [⟨some 8, none, .mov (.t 0)⟩, ⟨some 9, none, .nilck (.t 8)⟩, ⟨some 10, none, .faddr 6 (.t 9)⟩, ⟨some 11, none, .load none (.t 10)⟩, ⟨some 7, none, .mov (.t 11)⟩] none)
 (.cond (.t 7) (.seq (.reg [⟨some 2, none, .mov (.c (.int .i64 17))⟩] none)
 .ret) .skip)))))
 (.seq (.reg [⟨some 2, none, .mov (.c (.int .i64 0))⟩] none)
 .ret)))
theorem f197 : FnIs Tryz.prog 197 12 c197 [.tmp 2] := ⟨_, Tryz.func197, rfl, by kernel_rfl, rfl⟩
def c198 : AC := (.seq (.reg [⟨some 2, none, .box (.t 0)⟩, ⟨some 3, none, .mov (.c (.bool false))⟩] none)
 (.seq (.reg [⟨some 4, none, .load none (.t 1)⟩, ⟨some 5, none, .faddr 1 (.t 2)⟩, ⟨some 6, none, .load none (.t 5)⟩, ⟨some 7, none, .call 199 [(.t 4), (.t 6)]⟩, ⟨some 3, none, .mov (.t 7)⟩] none)
 .ret))
theorem f198 : FnIs Tryz.prog 198 8 c198 [.tmp 3] := ⟨_, Tryz.func198, rfl, by kernel_rfl, rfl⟩
def c199 : AC := (.seq (.reg [⟨some 2, none, .box (.t 0)⟩, ⟨some 4, none, .mov (.c (.bool false))⟩] none)
 (.seq (.seq (.reg [⟨some 6, none, .load none (.t 2)⟩, ⟨some 7, none, .call 126 [(.t 6)]⟩, ⟨some 8, none, .un .not (.t 7)⟩] none)
 (.cond (.t 8) (.seq (.reg [⟨some 4, none, .mov (.c (.bool false))⟩] none)
 .ret) .skip))
 (.seq (.reg [⟨some 9, none, .mkfn (.func 278) [] [(.t 2)]⟩, ⟨some 5, none, .mov (.t 9)⟩] none)
 (.seq (.reg [⟨some 10, none, .mov (.t 1)⟩, ⟨some 11, none, .mov (.t 5)⟩, ⟨some 12, none, .call 279 [(.t 10), (.t 11)]⟩, ⟨some 13, none, .mov (.t 12)⟩, ⟨some 14, some (13, false), .load none (.t 2)⟩, ⟨some 15, some (13, false), .nilck (.t 14)⟩, ⟨some 16, some (13, false), .faddr 4 (.t 15)⟩, ⟨some 17, some (13, false), .load (some 2) (.t 16)⟩, ⟨some 18, some (13, false), .mov (.t 1)⟩, ⟨some 19, some (13, false), .call 280 [(.t 17), (.t 18)]⟩, ⟨some 20, none, .pick (.t 13) (.c (.bool true)) (.t 19)⟩, ⟨some 4, none, .mov (.t 20)⟩] none)
 .ret))))
theorem f199 : FnIs Tryz.prog 199 21 c199 [.tmp 4] := ⟨_, Tryz.func199, rfl, by kernel_rfl, rfl⟩
def c200 : AC := (.seq (.reg [⟨some 1, none, .box (.t 0)⟩, ⟨some 2, none, .mov (.c (.bool false))⟩] none)
 (.seq (.seq (.reg [⟨some 4, none, .load none (.t 1)⟩, ⟨some 5, none, .call 126 [(.t 4)]⟩, ⟨some 6, none, .un .not (.t 5)⟩] none)
 (.cond (.t 6) (.seq (.reg [⟨some 2, none, .mov (.c (.bool false))⟩] none)
 .ret) .skip))
 (.seq (.reg [⟨some 7, none, .mkfn (.func 281) [] [(.t 1)]⟩, ⟨some 3, none, .mov (.t 7)⟩] none)
 (.seq (.reg [⟨some 8, none, .load none (.t 1)⟩, ⟨some 9, none, .nilck (.t 8)⟩, ⟨some 10, none, .faddr 3 (.t 9)⟩, ⟨some 11, none, .load none (.t 10)⟩, ⟨some 12, none, .mov (.t 3)⟩, ⟨some 13, none, .call 231 [(.t 11), (.t 12)]⟩, ⟨some 14, none, .mov (.t 13)⟩, ⟨some 15, some (14, false), .load none (.t 1)⟩, ⟨some 16, some (14, false), .nilck (.t 15)⟩, ⟨some 17, some (14, false), .faddr 4 (.t 16)⟩, ⟨some 18, some (14, false), .load (some 2) (.t 17)⟩, ⟨some 19, some (14, false), .load none (.t 1)⟩, ⟨some 20, some (14, false), .nilck (.t 19)⟩, ⟨some 21, some (14, false), .faddr 0 (.t 20)⟩, ⟨some 22, some (14, false), .load none (.t 21)⟩, ⟨some 23, some (14, false), .load none (.t 1)⟩, ⟨some 24, some (14, false), .nilck (.t 23)⟩, ⟨some 25, some (14, false), .faddr 1 (.t 24)⟩, ⟨some 26, some (14, false), .load none (.t 25)⟩, ⟨some 27, some (14, false), .call 283 [(.t 18), (.t 22), (.t 26)]⟩, ⟨some 28, none, .pick (.t 14) (.c (.bool true)) (.t 27)⟩, ⟨some 2, none, .mov (.t 28)⟩] (some [(7, 11), (10, 11), (7, 14), (10, 14), (7, 15), (10, 15), (11, 15), (14, 15), (7, 18), (10, 18), (11, 18), (14, 18)]))
 .ret))))
theorem f200 : FnIs Tryz.prog 200 29 c200 [.tmp 2] := ⟨_, Tryz.func200, rfl, by kernel_rfl, rfl⟩
def c201 : AC := (.seq (.reg [⟨some 4, none, .mov (.c (.bool false))⟩] none)
 (.seq (.reg [⟨some 5, none, .mov (.t 0)⟩, ⟨some 6, none, .mov (.t 1)⟩, ⟨some 7, none, .call 284 [(.t 5), (.t 6)]⟩, ⟨some 8, none, .bin .geq (.t 7) (.c (.int .i64 0))⟩, ⟨some 4, none, .mov (.t 8)⟩] none)
 .ret))
theorem f201 : FnIs Tryz.prog 201 9 c201 [.tmp 4] := ⟨_, Tryz.func201, rfl, by kernel_rfl, rfl⟩
def c202 : AC := (.seq (.reg [⟨some 1, none, .box (.t 0)⟩, ⟨some 2, none, .mov (.c (.str []))⟩, ⟨some 3, none, .mov (.c (.int .i64 0))⟩] none)
 (.seq (.seq (.reg [⟨some 9, none, .load (some 2) (.t 1)⟩, ⟨some 10, none, .call 275 [(.t 9)]⟩, ⟨some 4, none, .mov (.t 10)⟩] none)
 (.seq (.reg [⟨some 11, none, .mov (.t 4)⟩, ⟨some 12, none, .bin .neq (.t 11) (.c (.int .i64 0))⟩] none)
 (.cond (.t 12) (.seq (.reg [⟨some 13, none, .mov (.t 4)⟩, ⟨some 2, none, .mov (.c (.str []))⟩, ⟨some 3, none, .mov (.t 13)⟩] none)
 .ret) .skip)))
 (.seq (.reg [⟨some 14, none, .buildSl 1 [(.c (.int .u8 66))]⟩, ⟨some 15, none, .faddr 0 (.t 1)⟩, ⟨some 16, none, .load none (.t 15)⟩, ⟨some 17, none, .call 169 [(.t 14), (.t 16)]⟩, ⟨some 18, none, .faddr 1 (.t 1)⟩, ⟨some 19, none, .load none (.t 18)⟩, ⟨some 20, none, .len false (.t 19)⟩, ⟨some 21, none, .call 245 [(.t 17), (.t 20)]⟩, ⟨some 5, none, .mov (.t 21)⟩] (some [(0, 2), (0, 5), (2, 5), (3, 5)]))
 (.seq (.seq (.reg [⟨some 22, none, .faddr 1 (.t 1)⟩, ⟨some 23, none, .load none (.t 22)⟩, ⟨some 24, none, .len false (.t 23)⟩, ⟨some 25, none, .mov (.c (.int .i64 0))⟩] none)
 (.block 0 (.loop (.seq (.reg [⟨some 26, none, .bin .lss (.t 25) (.t 24)⟩] none)
 (.seq (.cond (.t 26) .skip (.exit 0))
 (.seq (.block 1 (.seq (.reg [⟨some 27, none, .iaddr 3 (.t 23) (.t 25)⟩, ⟨some 28, none, .load (some 3) (.t 27)⟩, ⟨some 7, none, .alloc [.str [], .str [], .bool false]⟩, ⟨none, none, .store 3 (.t 7) (.t 28)⟩] none)
 (.seq (.reg [⟨some 8, none, .mov (.c (.int .i64 0))⟩] none)
 (.seq (.seq (.reg [⟨some 29, none, .faddr 2 (.t 7)⟩, ⟨some 30, none, .load none (.t 29)⟩] none)
 (.cond (.t 30) (.reg [⟨some 8, none, .mov (.c (.int .i64 1))⟩] none) .skip))
 (.reg [⟨some 31, none, .mov (.t 5)⟩, ⟨some 32, none, .mov (.t 8)⟩, ⟨some 33, none, .call 245 [(.t 31), (.t 32)]⟩, ⟨some 34, none, .faddr 0 (.t 7)⟩, ⟨some 35, none, .load none (.t 34)⟩, ⟨some 36, none, .call 285 [(.t 33), (.t 35)]⟩, ⟨some 37, none, .faddr 1 (.t 7)⟩, ⟨some 38, none, .load none (.t 37)⟩, ⟨some 39, none, .call 285 [(.t 36), (.t 38)]⟩, ⟨some 5, none, .mov (.t 39)⟩] (some [(2, 4), (2, 7), (4, 7), (5, 7)]))))))
 (.reg [⟨some 40, none, .bin .add (.t 25) (.c (.int .i64 1))⟩, ⟨some 25, none, .mov (.t 40)⟩] none)))))))
 (.seq (.reg [⟨some 41, none, .mov (.t 5)⟩, ⟨some 42, none, .conv .b2s (.t 41)⟩, ⟨some 2, none, .mov (.t 42)⟩, ⟨some 3, none, .mov (.c (.int .i64 0))⟩] none)
 .ret)))))
theorem f202 : FnIs Tryz.prog 202 43 c202 [.tmp 2, .tmp 3] := ⟨_, Tryz.func202, rfl, by kernel_rfl, rfl⟩
def c203 : AC := (.seq (.reg [⟨some 2, none, .mov (.c (.bool false))⟩] none)
 (.seq (.reg [⟨some 8, none, .mkmap⟩, ⟨some 3, none, .mov (.t 8)⟩] none)
 (.seq (.seq (.reg [⟨some 9, none, .mov (.t 0)⟩, ⟨some 10, none, .len false (.t 9)⟩, ⟨some 11, none, .mov (.c (.int .i64 0))⟩] none)
 (.block 0 (.loop (.seq (.reg [⟨some 12, none, .bin .lss (.t 11) (.t 10)⟩] none)
 (.seq (.cond (.t 12) .skip (.exit 0))
 (.seq (.block 1 (.seq (.reg [⟨some 13, none, .mov (.t 11)⟩, ⟨some 14, none, .iaddr 3 (.t 9) (.t 11)⟩, ⟨some 15, none, .load (some 3) (.t 14)⟩, ⟨some 5, none, .alloc [.str [], .str [], .bool false]⟩, ⟨some 4, none, .mov (.t 13)⟩, ⟨none, none, .store 3 (.t 5) (.t 15)⟩] none)
 (.seq (.reg [⟨some 17, none, .mov (.t 3)⟩, ⟨some 18, none, .faddr 0 (.t 5)⟩, ⟨some 19, none, .load none (.t 18)⟩, ⟨some 20, none, .mlook (.int .i64 0) true (.t 17) (.t 19)⟩, ⟨some 16, none, .mov (.t 20)⟩, ⟨some 21, none, .ext (.t 16) 0⟩, ⟨some 22, none, .ext (.t 16) 1⟩, ⟨some 6, none, .mov (.t 21)⟩, ⟨some 7, none, .mov (.t 22)⟩] none)
 (.seq (.seq (.reg [⟨some 23, none, .mov (.t 7)⟩, ⟨some 24, none, .mov (.t 23)⟩, ⟨some 25, some (24, false), .faddr 0 (.t 5)⟩, ⟨some 26, some (24, false), .load none (.t 25)⟩, ⟨some 27, some (24, false), .len true (.t 26)⟩, ⟨some 28, some (24, false), .bin .gtr (.t 27) (.c (.int .i64 128))⟩, ⟨some 29, none, .pick (.t 24) (.c (.bool true)) (.t 28)⟩, ⟨some 30, none, .mov (.t 29)⟩, ⟨some 31, some (30, false), .faddr 1 (.t 5)⟩, ⟨some 32, some (30, false), .load none (.t 31)⟩, ⟨some 33, some (30, false), .len true (.t 32)⟩, ⟨some 34, some (30, false), .bin .gtr (.t 33) (.c (.int .i64 200))⟩, ⟨some 35, none, .pick (.t 30) (.c (.bool true)) (.t 34)⟩, ⟨some 36, none, .mov (.t 35)⟩, ⟨some 37, some (36, false), .faddr 2 (.t 5)⟩, ⟨some 38, some (36, false), .load none (.t 37)⟩, ⟨some 39, some (36, false), .mov (.t 38)⟩, ⟨some 40, some (39, true), .faddr 1 (.t 5)⟩, ⟨some 41, some (39, true), .load none (.t 40)⟩, ⟨some 42, some (39, true), .bin .neq (.t 41) (.c (.str []))⟩, ⟨some 43, some (36, false), .pick (.t 39) (.t 42) (.c (.bool false))⟩, ⟨some 44, none, .pick (.t 36) (.c (.bool true)) (.t 43)⟩] none)
 (.cond (.t 44) (.seq (.reg [⟨some 2, none, .mov (.c (.bool false))⟩] none)
 .ret) .skip))
 (.reg [⟨some 45, none, .mov (.t 3)⟩, ⟨some 46, none, .faddr 0 (.t 5)⟩, ⟨some 47, none, .load none (.t 46)⟩, ⟨some 48, none, .mov (.t 4)⟩, ⟨none, none, .mput (.t 45) (.t 47) (.t 48)⟩] none)))))
 (.reg [⟨some 49, none, .bin .add (.t 11) (.c (.int .i64 1))⟩, ⟨some 11, none, .mov (.t 49)⟩] none)))))))
 (.seq (.reg [⟨some 2, none, .mov (.c (.bool true))⟩] none)
 .ret))))
theorem f203 : FnIs Tryz.prog 203 50 c203 [.tmp 2] := ⟨_, Tryz.func203, rfl, by kernel_rfl, rfl⟩
def c204 : AC := (.seq (.reg [⟨some 3, none, .box (.t 1)⟩, ⟨some 4, none, .mov (.c (.sl 3 [] (.exact 0)))⟩, ⟨some 5, none, .mov (.c (.int .i64 0))⟩] none)
 (.seq (.block 0 (.seq (.reg [⟨some 7, none, .mov (.t 0)⟩, ⟨some 8, none, .call 272 [(.t 7)]⟩, ⟨some 9, none, .bin .neq (.t 8) (.c (.int .i64 0))⟩, ⟨some 6, none, .mov (.t 9)⟩] none)
 (.cond (.t 6) (.seq (.reg [⟨some 4, none, .mov (.c (.sl 3 [] (.exact 0)))⟩, ⟨some 5, none, .mov (.c (.int .i64 4))⟩] none)
 .ret) (.seq (.reg [⟨some 11, none, .load (some 3) (.t 3)⟩, ⟨some 12, none, .call 286 [(.t 11)]⟩, ⟨some 13, none, .un .not (.t 12)⟩, ⟨some 10, none, .mov (.t 13)⟩] none)
 (.cond (.t 10) (.seq (.reg [⟨some 4, none, .mov (.c (.sl 3 [] (.exact 0)))⟩, ⟨some 5, none, .mov (.c (.int .i64 2))⟩] none)
 .ret) (.seq (.reg [⟨some 15, none, .mov (.t 0)⟩, ⟨some 16, none, .len false (.t 15)⟩, ⟨some 17, none, .bin .gtr (.t 16) (.c (.int .i64 0))⟩, ⟨some 18, none, .mov (.t 17)⟩, ⟨some 19, some (18, true), .faddr 0 (.t 3)⟩, ⟨some 20, some (18, true), .load none (.t 19)⟩, ⟨some 21, some (18, true), .mov (.t 0)⟩, ⟨some 22, some (18, true), .iaddr 3 (.t 21) (.c (.int .i64 0))⟩, ⟨some 23, some (18, true), .faddr 0 (.t 22)⟩, ⟨some 24, some (18, true), .load none (.t 23)⟩, ⟨some 25, some (18, true), .bin .leq (.t 20) (.t 24)⟩, ⟨some 26, none, .pick (.t 18) (.t 25) (.c (.bool false))⟩, ⟨some 14, none, .mov (.t 26)⟩] (some [(5, 9)]))
 (.cond (.t 14) (.seq (.reg [⟨some 4, none, .mov (.c (.sl 3 [] (.exact 0)))⟩, ⟨some 5, none, .mov (.c (.int .i64 18))⟩] none)
 .ret) .skip)))))))
 (.seq (.reg [⟨some 27, none, .load (some 3) (.t 3)⟩, ⟨some 28, none, .buildSl 3 [(.t 27)]⟩, ⟨some 29, none, .mov (.t 0)⟩, ⟨some 30, none, .buildSl 1 [(.t 28), (.t 29)]⟩, ⟨some 31, none, .call 287 [(.t 30)]⟩, ⟨some 4, none, .mov (.t 31)⟩, ⟨some 5, none, .mov (.c (.int .i64 0))⟩] none)
 .ret)))
theorem f204 : FnIs Tryz.prog 204 32 c204 [.tmp 4, .tmp 5] := ⟨_, Tryz.func204, rfl, by kernel_rfl, rfl⟩
def c205 : AC := (.seq (.reg [⟨some 4, none, .mov (.c (.bool false))⟩, ⟨some 5, none, .mov (.c (.int .i64 0))⟩] none)
 (.seq (.reg [⟨some 6, none, .mov (.c (.bool false))⟩] none)
 (.seq (.seq (.reg [⟨some 10, none, .mov (.t 0)⟩, ⟨some 11, none, .call 197 [(.t 10)]⟩, ⟨some 7, none, .mov (.t 11)⟩] none)
 (.seq (.reg [⟨some 12, none, .mov (.t 7)⟩, ⟨some 13, none, .bin .neq (.t 12) (.c (.int .i64 0))⟩] none)
 (.cond (.t 13) (.seq (.reg [⟨some 14, none, .mov (.t 6)⟩, ⟨some 15, none, .mov (.t 7)⟩, ⟨some 4, none, .mov (.t 14)⟩, ⟨some 5, none, .mov (.t 15)⟩] none)
 .ret) .skip)))
 (.seq (.reg [⟨some 17, none, .mov (.t 1)⟩, ⟨some 18, none, .callv (.t 17) []⟩, ⟨some 16, none, .mov (.t 18)⟩, ⟨some 19, none, .ext (.t 16) 0⟩, ⟨some 20, none, .ext (.t 16) 1⟩, ⟨some 8, none, .mov (.t 19)⟩, ⟨some 9, none, .mov (.t 20)⟩] none)
 (.seq (.seq (.reg [⟨some 21, none, .mov (.t 9)⟩, ⟨some 22, none, .bin .neq (.t 21) (.c (.int .i64 0))⟩] none)
 (.cond (.t 22) (.seq (.reg [⟨some 23, none, .mov (.t 6)⟩, ⟨some 24, none, .mov (.t 9)⟩, ⟨some 4, none, .mov (.t 23)⟩, ⟨some 5, none, .mov (.t 24)⟩] none)
 .ret) .skip))
 (.seq (.reg [⟨some 25, none, .mov (.t 8)⟩, ⟨some 4, none, .mov (.t 25)⟩, ⟨some 5, none, .mov (.c (.int .i64 0))⟩] none)
 .ret))))))
theorem f205 : FnIs Tryz.prog 205 26 c205 [.tmp 4, .tmp 5] := ⟨_, Tryz.func205, rfl, by kernel_rfl, rfl⟩
def c206 : AC := (.seq (.reg [⟨some 2, none, .mov (.c (.bool false))⟩, ⟨some 3, none, .mov (.c (.int .i64 0))⟩] none)
 (.seq (.seq (.reg [⟨some 6, none, .faddr 0 (.t 0)⟩, ⟨some 7, none, .load none (.t 6)⟩, ⟨some 8, none, .len true (.t 7)⟩, ⟨some 9, none, .bin .gtr (.t 8) (.c (.int .i64 120))⟩, ⟨some 10, none, .mov (.t 9)⟩, ⟨some 11, some (10, false), .faddr 1 (.t 0)⟩, ⟨some 12, some (10, false), .load none (.t 11)⟩, ⟨some 13, some (10, false), .len true (.t 12)⟩, ⟨some 14, some (10, false), .bin .gtr (.t 13) (.c (.int .i64 199))⟩, ⟨some 15, none, .pick (.t 10) (.c (.bool true)) (.t 14)⟩] none)
 (.cond (.t 15) (.seq (.reg [⟨some 2, none, .mov (.c (.bool false))⟩, ⟨some 3, none, .mov (.c (.int .i64 2))⟩] none)
 .ret) .skip))
 (.seq (.seq (.reg [⟨some 17, none, .load none (.t 1)⟩, ⟨some 18, none, .nilck (.t 17)⟩, ⟨some 19, none, .faddr 3 (.t 18)⟩, ⟨some 20, none, .load none (.t 19)⟩, ⟨some 21, none, .faddr 0 (.t 0)⟩, ⟨some 22, none, .load none (.t 21)⟩, ⟨some 23, none, .call 207 [(.t 20), (.t 22)]⟩, ⟨some 16, none, .mov (.t 23)⟩, ⟨some 24, none, .ext (.t 16) 0⟩, ⟨some 25, none, .ext (.t 16) 1⟩, ⟨some 4, none, .mov (.t 24)⟩, ⟨some 5, none, .mov (.t 25)⟩] (some [(0, 5), (3, 5)]))
 (.seq (.reg [⟨some 26, none, .mov (.t 5)⟩, ⟨some 27, none, .un .not (.t 26)⟩] none)
 (.cond (.t 27) (.seq (.seq (.reg [⟨some 28, none, .load none (.t 1)⟩, ⟨some 29, none, .nilck (.t 28)⟩, ⟨some 30, none, .faddr 3 (.t 29)⟩, ⟨some 31, none, .load none (.t 30)⟩, ⟨some 32, none, .len false (.t 31)⟩, ⟨some 33, none, .bin .geq (.t 32) (.c (.int .i64 64))⟩] none)
 (.cond (.t 33) (.seq (.reg [⟨some 2, none, .mov (.c (.bool false))⟩, ⟨some 3, none, .mov (.c (.int .i64 9))⟩] none)
 .ret) .skip))
 (.reg [⟨some 34, none, .load none (.t 1)⟩, ⟨some 35, none, .load none (.t 1)⟩, ⟨some 36, none, .nilck (.t 35)⟩, ⟨some 37, none, .faddr 3 (.t 36)⟩, ⟨some 38, none, .load none (.t 37)⟩, ⟨some 39, none, .mov (.t 4)⟩, ⟨some 40, none, .faddr 0 (.t 0)⟩, ⟨some 41, none, .load none (.t 40)⟩, ⟨some 42, none, .buildSl 1 [(.t 41)]⟩, ⟨some 43, none, .call 154 [(.t 38), (.t 39), (.t 42)]⟩, ⟨some 44, none, .nilck (.t 34)⟩, ⟨some 45, none, .faddr 3 (.t 44)⟩, ⟨none, none, .store 1 (.t 45) (.t 43)⟩] (some [(0, 1), (0, 4), (0, 7), (1, 7), (4, 7), (0, 8), (1, 8), (4, 8), (0, 9)]))) .skip)))
 (.seq (.reg [⟨some 46, none, .load none (.t 1)⟩, ⟨some 47, none, .nilck (.t 46)⟩, ⟨some 48, none, .faddr 2 (.t 47)⟩, ⟨some 49, none, .load none (.t 48)⟩, ⟨some 50, none, .faddr 0 (.t 0)⟩, ⟨some 51, none, .load none (.t 50)⟩, ⟨some 52, none, .load (some 3) (.t 0)⟩, ⟨none, none, .mput (.t 49) (.t 51) (.t 52)⟩] (some [(0, 5), (3, 5), (0, 6), (3, 6), (5, 6)]))
 (.seq (.reg [⟨some 2, none, .mov (.c (.bool true))⟩, ⟨some 3, none, .mov (.c (.int .i64 0))⟩] none)
 .ret)))))
theorem f206 : FnIs Tryz.prog 206 53 c206 [.tmp 2, .tmp 3] := ⟨_, Tryz.func206, rfl, by kernel_rfl, rfl⟩
def c207 : AC := (.seq (.reg [⟨some 4, none, .mov (.c (.int .i64 0))⟩, ⟨some 5, none, .mov (.c (.bool false))⟩] none)
 (.seq (.reg [⟨some 10, none, .mov (.t 0)⟩, ⟨some 11, none, .len false (.t 10)⟩, ⟨some 6, none, .mov (.t 11)⟩] none)
 (.seq (.reg [⟨some 12, none, .mov (.t 6)⟩, ⟨some 7, none, .mov (.c (.int .i64 0))⟩, ⟨some 8, none, .mov (.t 12)⟩] none)
 (.seq (.block 0 (.loop (.seq (.seq (.reg [⟨some 13, none, .mov (.t 7)⟩, ⟨some 14, none, .mov (.t 8)⟩, ⟨some 15, none, .bin .lss (.t 13) (.t 14)⟩] none)
 (.cond (.t 15) .skip (.exit 0)))
 (.block 1 (.seq (.reg [⟨some 16, none, .mov (.t 7)⟩, ⟨some 17, none, .mov (.t 8)⟩, ⟨some 18, none, .bin .add (.t 16) (.t 17)⟩, ⟨some 19, none, .conv (.toInt .u64) (.t 18)⟩, ⟨some 20, none, .bin .shr (.t 19) (.c (.int .u64 1))⟩, ⟨some 21, none, .conv (.toInt .i64) (.t 20)⟩, ⟨some 9, none, .mov (.t 21)⟩] none)
 (.seq (.reg [⟨some 22, none, .mov (.t 0)⟩, ⟨some 23, none, .mov (.t 9)⟩, ⟨some 24, none, .iaddr 1 (.t 22) (.t 23)⟩, ⟨some 25, none, .load none (.t 24)⟩, ⟨some 26, none, .mov (.t 1)⟩, ⟨some 27, none, .call 288 [(.t 25), (.t 26)]⟩] none)
 (.cond (.t 27) (.reg [⟨some 28, none, .mov (.t 9)⟩, ⟨some 29, none, .bin .add (.t 28) (.c (.int .i64 1))⟩, ⟨some 7, none, .mov (.t 29)⟩] none) (.reg [⟨some 30, none, .mov (.t 9)⟩, ⟨some 8, none, .mov (.t 30)⟩] none))))))))
 (.seq (.reg [⟨some 31, none, .mov (.t 7)⟩, ⟨some 32, none, .mov (.t 7)⟩, ⟨some 33, none, .mov (.t 6)⟩, ⟨some 34, none, .bin .lss (.t 32) (.t 33)⟩, ⟨some 35, none, .mov (.t 34)⟩, ⟨some 36, some (35, true), .mov (.t 0)⟩, ⟨some 37, some (35, true), .mov (.t 7)⟩, ⟨some 38, some (35, true), .iaddr 1 (.t 36) (.t 37)⟩, ⟨some 39, some (35, true), .load none (.t 38)⟩, ⟨some 40, some (35, true), .mov (.t 1)⟩, ⟨some 41, some (35, true), .bin .eql (.t 39) (.t 40)⟩, ⟨some 42, some (35, true), .mov (.t 41)⟩, ⟨some 43, some (42, false), .mov (.t 0)⟩, ⟨some 44, some (42, false), .mov (.t 7)⟩, ⟨some 45, some (42, false), .iaddr 1 (.t 43) (.t 44)⟩, ⟨some 46, some (42, false), .load none (.t 45)⟩, ⟨some 47, some (42, false), .call 289 [(.t 46)]⟩, ⟨some 48, some (42, false), .mov (.t 47)⟩, ⟨some 49, some (48, true), .mov (.t 1)⟩, ⟨some 50, some (48, true), .call 289 [(.t 49)]⟩, ⟨some 51, some (42, false), .pick (.t 48) (.t 50) (.c (.bool false))⟩, ⟨some 52, some (35, true), .pick (.t 42) (.c (.bool true)) (.t 51)⟩, ⟨some 53, none, .pick (.t 35) (.t 52) (.c (.bool false))⟩, ⟨some 4, none, .mov (.t 31)⟩, ⟨some 5, none, .mov (.t 53)⟩] none)
 .ret)))))
theorem f207 : FnIs Tryz.prog 207 54 c207 [.tmp 4, .tmp 5] := ⟨_, Tryz.func207, rfl, by kernel_rfl, rfl⟩
def c208 : AC := (.seq (.reg [⟨some 2, none, .mov (.c (.sl 1 [] (.exact 0)))⟩] none)
 (.seq (.seq (.reg [⟨some 3, none, .mov (.t 0)⟩, ⟨some 4, none, .eqN false (.t 3)⟩] none)
 (.cond (.t 4) (.seq (.reg [⟨some 2, none, .mov (.c (.sl 1 [] (.exact 0)))⟩] none)
 .ret) .skip))
 (.seq (.reg [⟨some 5, none, .buildSl 1 []⟩, ⟨some 6, none, .mov (.t 0)⟩, ⟨some 7, none, .app false 1 16 (.t 5) (.t 6)⟩, ⟨some 2, none, .mov (.t 7)⟩] none)
 .ret)))
theorem f208 : FnIs Tryz.prog 208 8 c208 [.tmp 2] := ⟨_, Tryz.func208, rfl, by kernel_rfl, rfl⟩
def c215 : AC := (.seq (.reg [⟨some 4, none, .mov (.c (.str []))⟩, ⟨some 5, none, .mov (.c (.int .i64 0))⟩] none)
 (.seq (.reg [⟨some 6, none, .mov (.c (.str []))⟩] none)
 (.seq (.seq (.reg [⟨some 10, none, .mov (.t 0)⟩, ⟨some 11, none, .call 197 [(.t 10)]⟩, ⟨some 7, none, .mov (.t 11)⟩] none)
 (.seq (.reg [⟨some 12, none, .mov (.t 7)⟩, ⟨some 13, none, .bin .neq (.t 12) (.c (.int .i64 0))⟩] none)
 (.cond (.t 13) (.seq (.reg [⟨some 14, none, .mov (.t 6)⟩, ⟨some 15, none, .mov (.t 7)⟩, ⟨some 4, none, .mov (.t 14)⟩, ⟨some 5, none, .mov (.t 15)⟩] none)
 .ret) .skip)))
 (.seq (.reg [⟨some 17, none, .mov (.t 1)⟩, ⟨some 18, none, .callv (.t 17) []⟩, ⟨some 16, none, .mov (.t 18)⟩, ⟨some 19, none, .ext (.t 16) 0⟩, ⟨some 20, none, .ext (.t 16) 1⟩, ⟨some 8, none, .mov (.t 19)⟩, ⟨some 9, none, .mov (.t 20)⟩] none)
 (.seq (.seq (.reg [⟨some 21, none, .mov (.t 9)⟩, ⟨some 22, none, .bin .neq (.t 21) (.c (.int .i64 0))⟩] none)
 (.cond (.t 22) (.seq (.reg [⟨some 23, none, .mov (.t 6)⟩, ⟨some 24, none, .mov (.t 9)⟩, ⟨some 4, none, .mov (.t 23)⟩, ⟨some 5, none, .mov (.t 24)⟩] none)
 .ret) .skip))
 (.seq (.reg [⟨some 25, none, .mov (.t 8)⟩, ⟨some 4, none, .mov (.t 25)⟩, ⟨some 5, none, .mov (.c (.int .i64 0))⟩] none)
 .ret))))))
theorem f215 : FnIs Tryz.prog 215 26 c215 [.tmp 4, .tmp 5] := ⟨_, Tryz.func215, rfl, by kernel_rfl, rfl⟩
def c216 : AC := (.seq (.reg [⟨some 2, none, .mov (.c (.str []))⟩, ⟨some 3, none, .mov (.c (.int .i64 0))⟩] none)
 (.seq (.seq (.reg [⟨some 11, none, .load none (.t 0)⟩, ⟨some 12, none, .nilck (.t 11)⟩, ⟨some 13, none, .faddr 2 (.t 12)⟩, ⟨some 14, none, .load none (.t 13)⟩, ⟨some 15, none, .load none (.t 1)⟩, ⟨some 16, none, .mlook (.agg [.str [], .str [], .bool false]) true (.t 14) (.t 15)⟩, ⟨some 10, none, .mov (.t 16)⟩, ⟨some 17, none, .ext (.t 10) 0⟩, ⟨some 18, none, .ext (.t 10) 1⟩, ⟨some 4, none, .alloc [.str [], .str [], .bool false]⟩, ⟨none, none, .store 3 (.t 4) (.t 17)⟩, ⟨some 5, none, .mov (.t 18)⟩] (some [(0, 4), (3, 4), (0, 9), (3, 9), (4, 9), (5, 9)]))
 (.seq (.reg [⟨some 19, none, .mov (.t 5)⟩] none)
 (.cond (.t 19) (.seq (.seq (.reg [⟨some 20, none, .faddr 2 (.t 4)⟩, ⟨some 21, none, .load none (.t 20)⟩] none)
 (.cond (.t 21) (.seq (.reg [⟨some 2, none, .mov (.c (.str []))⟩, ⟨some 3, none, .mov (.c (.int .i64 7))⟩] none)
 .ret) .skip))
 (.seq (.reg [⟨some 22, none, .faddr 1 (.t 4)⟩, ⟨some 23, none, .load none (.t 22)⟩, ⟨some 2, none, .mov (.t 23)⟩, ⟨some 3, none, .mov (.c (.int .i64 0))⟩] none)
 .ret)) .skip)))
 (.seq (.reg [⟨some 25, none, .load none (.t 0)⟩, ⟨some 26, none, .nilck (.t 25)⟩, ⟨some 27, none, .faddr 0 (.t 26)⟩, ⟨some 28, none, .load none (.t 27)⟩, ⟨some 29, none, .load none (.t 1)⟩, ⟨some 30, none, .load none (.t 0)⟩, ⟨some 31, none, .nilck (.t 30)⟩, ⟨some 32, none, .faddr 1 (.t 31)⟩, ⟨some 33, none, .load none (.t 32)⟩, ⟨some 34, none, .call 195 [(.t 28), (.t 29), (.t 33)]⟩, ⟨some 24, none, .mov (.t 34)⟩, ⟨some 35, none, .ext (.t 24) 0⟩, ⟨some 36, none, .ext (.t 24) 1⟩, ⟨some 6, none, .mov (.t 35)⟩, ⟨some 7, none, .mov (.t 36)⟩] (some [(0, 4), (3, 4), (0, 5), (3, 5), (4, 5), (0, 8), (3, 8), (4, 8)]))
 (.seq (.seq (.reg [⟨some 37, none, .mov (.t 7)⟩, ⟨some 38, none, .bin .eql (.t 37) (.c (.int .i64 12))⟩] none)
 (.cond (.t 38) (.seq (.reg [⟨some 39, none, .mov (.t 7)⟩, ⟨some 2, none, .mov (.c (.str []))⟩, ⟨some 3, none, .mov (.t 39)⟩] none)
 .ret) .skip))
 (.seq (.reg [⟨some 41, none, .load none (.t 0)⟩, ⟨some 42, none, .nilck (.t 41)⟩, ⟨some 43, none, .faddr 4 (.t 42)⟩, ⟨some 44, none, .load (some 2) (.t 43)⟩, ⟨some 45, none, .load none (.t 1)⟩, ⟨some 46, none, .call 217 [(.t 44), (.t 45)]⟩, ⟨some 40, none, .mov (.t 46)⟩, ⟨some 47, none, .ext (.t 40) 0⟩, ⟨some 48, none, .ext (.t 40) 1⟩, ⟨some 8, none, .alloc [.sl 1 [] (.exact 0), .sl 2 [] (.exact 0)]⟩, ⟨none, none, .store 2 (.t 8) (.t 47)⟩, ⟨some 9, none, .mov (.t 48)⟩] (some [(0, 4), (3, 4), (0, 9), (3, 9), (4, 9), (5, 9)]))
 (.seq (.seq (.reg [⟨some 49, none, .mov (.t 9)⟩, ⟨some 50, none, .bin .neq (.t 49) (.c (.int .i64 0))⟩] none)
 (.cond (.t 50) (.seq (.reg [⟨some 51, none, .mov (.t 9)⟩, ⟨some 2, none, .mov (.c (.str []))⟩, ⟨some 3, none, .mov (.t 51)⟩] none)
 .ret) .skip))
 (.seq (.reg [⟨some 52, none, .load none (.t 0)⟩, ⟨some 53, none, .load (some 2) (.t 8)⟩, ⟨some 54, none, .nilck (.t 52)⟩, ⟨some 55, none, .faddr 4 (.t 54)⟩, ⟨none, none, .store 2 (.t 55) (.t 53)⟩] none)
 (.seq (.reg [⟨some 56, none, .mov (.t 6)⟩, ⟨some 57, none, .mov (.t 7)⟩, ⟨some 2, none, .mov (.t 56)⟩, ⟨some 3, none, .mov (.t 57)⟩] none)
 .ret))))))))
theorem f216 : FnIs Tryz.prog 216 58 c216 [.tmp 2, .tmp 3] := ⟨_, Tryz.func216, rfl, by kernel_rfl, rfl⟩
def c217 : AC := (.seq (.reg [⟨some 2, none, .box (.t 0)⟩, ⟨some 4, none, .alloc [.sl 1 [] (.exact 0), .sl 2 [] (.exact 0)]⟩, ⟨some 5, none, .mov (.c (.int .i64 0))⟩] none)
 (.seq (.seq (.reg [⟨some 10, none, .load (some 2) (.t 2)⟩, ⟨some 11, none, .call 293 [(.t 10)]⟩, ⟨some 6, none, .mov (.t 11)⟩] none)
 (.seq (.reg [⟨some 12, none, .mov (.t 6)⟩, ⟨some 13, none, .bin .neq (.t 12) (.c (.int .i64 0))⟩] none)
 (.cond (.t 13) (.seq (.reg [⟨some 14, none, .build [.sl 1 [] (.exact 0), .sl 2 [] (.exact 0)] []⟩, ⟨some 15, none, .mov (.t 6)⟩, ⟨none, none, .store 2 (.t 4) (.t 14)⟩, ⟨some 5, none, .mov (.t 15)⟩] none)
 .ret) .skip)))
 (.seq (.reg [⟨some 16, none, .faddr 0 (.t 2)⟩, ⟨some 17, none, .load none (.t 16)⟩, ⟨some 18, none, .call 208 [(.t 17)]⟩, ⟨some 7, none, .mov (.t 18)⟩] none)
 (.seq (.seq (.reg [⟨some 20, none, .mov (.t 7)⟩, ⟨some 21, none, .mov (.t 1)⟩, ⟨some 22, none, .call 207 [(.t 20), (.t 21)]⟩, ⟨some 19, none, .mov (.t 22)⟩, ⟨some 23, none, .ext (.t 19) 0⟩, ⟨some 24, none, .ext (.t 19) 1⟩, ⟨some 8, none, .mov (.t 23)⟩, ⟨some 9, none, .mov (.t 24)⟩] none)
 (.seq (.reg [⟨some 25, none, .mov (.t 9)⟩, ⟨some 26, none, .un .not (.t 25)⟩] none)
 (.cond (.t 26) (.reg [⟨some 27, none, .mov (.t 7)⟩, ⟨some 28, none, .mov (.t 8)⟩, ⟨some 29, none, .mov (.t 1)⟩, ⟨some 30, none, .buildSl 1 [(.t 29)]⟩, ⟨some 31, none, .call 154 [(.t 27), (.t 28), (.t 30)]⟩, ⟨some 7, none, .mov (.t 31)⟩] none) .skip)))
 (.seq (.reg [⟨some 32, none, .mov (.t 7)⟩, ⟨some 33, none, .faddr 1 (.t 2)⟩, ⟨some 34, none, .load none (.t 33)⟩, ⟨some 35, none, .call 295 [(.t 34)]⟩, ⟨some 36, none, .call 294 [(.t 32), (.t 35)]⟩, ⟨some 37, none, .ext (.t 36) 0⟩, ⟨some 38, none, .ext (.t 36) 1⟩, ⟨none, none, .store 2 (.t 4) (.t 37)⟩, ⟨some 5, none, .mov (.t 38)⟩] none)
 .ret)))))
theorem f217 : FnIs Tryz.prog 217 39 c217 [.cell 4 (some 2), .tmp 5] := ⟨_, Tryz.func217, rfl, by kernel_rfl, rfl⟩
def c218 : AC := (.seq (.reg [⟨some 4, none, .mov (.c (.int .i64 0))⟩] none)
 (.seq (.seq (.reg [⟨some 6, none, .mov (.t 0)⟩, ⟨some 7, none, .len false (.t 6)⟩, ⟨some 8, none, .mov (.c (.int .i64 0))⟩] none)
 (.block 0 (.loop (.seq (.reg [⟨some 9, none, .bin .lss (.t 8) (.t 7)⟩] none)
 (.seq (.cond (.t 9) .skip (.exit 0))
 (.seq (.block 1 (.seq (.reg [⟨some 10, none, .mov (.t 8)⟩, ⟨some 5, none, .mov (.t 10)⟩] none)
 (.seq (.reg [⟨some 11, none, .mov (.t 1)⟩, ⟨some 12, none, .mov (.t 0)⟩, ⟨some 13, none, .mov (.t 5)⟩, ⟨some 14, none, .iaddr 1 (.t 12) (.t 13)⟩, ⟨some 15, none, .load none (.t 14)⟩, ⟨some 16, none, .bin .eql (.t 11) (.t 15)⟩] none)
 (.cond (.t 16) (.seq (.reg [⟨some 17, none, .mov (.t 5)⟩, ⟨some 4, none, .mov (.t 17)⟩] none)
 .ret) .skip))))
 (.reg [⟨some 18, none, .bin .add (.t 8) (.c (.int .i64 1))⟩, ⟨some 8, none, .mov (.t 18)⟩] none)))))))
 (.seq (.reg [⟨some 4, none, .mov (.c (.int .i64 (-1)))⟩] none)
 .ret)))
theorem f218 : FnIs Tryz.prog 218 19 c218 [.tmp 4] := ⟨_, Tryz.func218, rfl, by kernel_rfl, rfl⟩
def c219 : AC := (.seq (.reg [⟨some 4, none, .mov (.c (.int .i64 0))⟩] none)
 (.seq (.seq (.reg [⟨some 6, none, .mov (.t 0)⟩, ⟨some 7, none, .len false (.t 6)⟩, ⟨some 8, none, .mov (.c (.int .i64 0))⟩] none)
 (.block 0 (.loop (.seq (.reg [⟨some 9, none, .bin .lss (.t 8) (.t 7)⟩] none)
 (.seq (.cond (.t 9) .skip (.exit 0))
 (.seq (.block 1 (.seq (.reg [⟨some 10, none, .mov (.t 8)⟩, ⟨some 5, none, .mov (.t 10)⟩] none)
 (.seq (.reg [⟨some 11, none, .mov (.t 1)⟩, ⟨some 12, none, .mov (.t 0)⟩, ⟨some 13, none, .mov (.t 5)⟩, ⟨some 14, none, .iaddr 1 (.t 12) (.t 13)⟩, ⟨some 15, none, .load none (.t 14)⟩, ⟨some 16, none, .callv (.t 11) [(.t 15)]⟩] none)
 (.cond (.t 16) (.seq (.reg [⟨some 17, none, .mov (.t 5)⟩, ⟨some 4, none, .mov (.t 17)⟩] none)
 .ret) .skip))))
 (.reg [⟨some 18, none, .bin .add (.t 8) (.c (.int .i64 1))⟩, ⟨some 8, none, .mov (.t 18)⟩] none)))))))
 (.seq (.reg [⟨some 4, none, .mov (.c (.int .i64 (-1)))⟩] none)
 .ret)))
theorem f219 : FnIs Tryz.prog 219 19 c219 [.tmp 4] := ⟨_, Tryz.func219, rfl, by kernel_rfl, rfl⟩
def c220 : AC := (.seq (.reg [⟨some 2, none, .mov (.c (.bool false))⟩] none)
 (.seq (.reg [⟨some 3, none, .mov (.t 0)⟩, ⟨some 4, none, .eqP true (.t 3) (.c (.sc (.pointer none)))⟩, ⟨some 5, none, .mov (.t 4)⟩, ⟨some 6, some (5, true), .mov (.t 0)⟩, ⟨some 7, some (5, true), .nilck (.t 6)⟩, ⟨some 8, some (5, true), .faddr 0 (.t 7)⟩, ⟨some 9, some (5, true), .load none (.t 8)⟩, ⟨some 10, some (5, true), .bin .gtr (.t 9) (.c (.int .i64 0))⟩, ⟨some 11, none, .pick (.t 5) (.t 10) (.c (.bool false))⟩, ⟨some 2, none, .mov (.t 11)⟩] none)
 .ret))
theorem f220 : FnIs Tryz.prog 220 12 c220 [.tmp 2] := ⟨_, Tryz.func220, rfl, by kernel_rfl, rfl⟩
def c221 : AC := (.seq (.reg [⟨some 4, none, .mov (.c (.bool false))⟩] none)
 (.seq (.reg [⟨some 8, none, .mov (.t 1)⟩, ⟨some 9, none, .call 296 [(.t 8)]⟩, ⟨some 7, none, .mov (.t 9)⟩, ⟨some 10, none, .ext (.t 7) 0⟩, ⟨some 11, none, .ext (.t 7) 1⟩, ⟨some 5, none, .mov (.t 10)⟩, ⟨some 6, none, .mov (.t 11)⟩] none)
 (.seq (.reg [⟨some 12, none, .mov (.t 0)⟩, ⟨some 13, none, .nilck (.t 12)⟩, ⟨some 14, none, .faddr 1 (.t 13)⟩, ⟨some 15, none, .load none (.t 14)⟩, ⟨some 16, none, .mov (.t 5)⟩, ⟨some 17, none, .iaddr 1 (.t 15) (.t 16)⟩, ⟨some 18, none, .load none (.t 17)⟩, ⟨some 19, none, .mov (.t 6)⟩, ⟨some 20, none, .bin .and (.t 18) (.t 19)⟩, ⟨some 21, none, .bin .neq (.t 20) (.c (.int .u64 0))⟩, ⟨some 4, none, .mov (.t 21)⟩] none)
 .ret)))
theorem f221 : FnIs Tryz.prog 221 22 c221 [.tmp 4] := ⟨_, Tryz.func221, rfl, by kernel_rfl, rfl⟩
def c222 : AC := (.seq (.reg [⟨some 11, none, .mov (.t 1)⟩, ⟨some 8, none, .mov (.t 11)⟩] none)
 (.block 0 (.loop (.seq (.seq (.reg [⟨some 12, none, .mov (.t 8)⟩, ⟨some 13, none, .mov (.t 1)⟩, ⟨some 14, none, .mov (.t 2)⟩, ⟨some 15, none, .bin .add (.t 13) (.t 14)⟩, ⟨some 16, none, .bin .lss (.t 12) (.t 15)⟩] none)
 (.cond (.t 16) .skip (.exit 0)))
 (.seq (.block 1 (.seq (.reg [⟨some 20, none, .mov (.t 8)⟩, ⟨some 21, none, .call 296 [(.t 20)]⟩, ⟨some 19, none, .mov (.t 21)⟩, ⟨some 22, none, .ext (.t 19) 0⟩, ⟨some 23, none, .ext (.t 19) 1⟩, ⟨some 9, none, .mov (.t 22)⟩, ⟨some 10, none, .mov (.t 23)⟩] none)
 (.seq (.reg [⟨some 24, none, .mov (.t 3)⟩] none)
 (.cond (.t 24) (.reg [⟨some 25, none, .mov (.t 0)⟩, ⟨some 26, none, .nilck (.t 25)⟩, ⟨some 27, none, .faddr 1 (.t 26)⟩, ⟨some 28, none, .load none (.t 27)⟩, ⟨some 29, none, .mov (.t 9)⟩, ⟨some 30, none, .iaddr 1 (.t 28) (.t 29)⟩, ⟨some 31, none, .load none (.t 30)⟩, ⟨some 32, none, .mov (.t 10)⟩, ⟨some 33, none, .bin .or (.t 31) (.t 32)⟩, ⟨some 34, none, .iaddr 1 (.t 28) (.t 29)⟩, ⟨none, none, .store 1 (.t 34) (.t 33)⟩] none) (.reg [⟨some 35, none, .mov (.t 0)⟩, ⟨some 36, none, .nilck (.t 35)⟩, ⟨some 37, none, .faddr 1 (.t 36)⟩, ⟨some 38, none, .load none (.t 37)⟩, ⟨some 39, none, .mov (.t 9)⟩, ⟨some 40, none, .iaddr 1 (.t 38) (.t 39)⟩, ⟨some 41, none, .load none (.t 40)⟩, ⟨some 42, none, .mov (.t 10)⟩, ⟨some 43, none, .bin .andNot (.t 41) (.t 42)⟩, ⟨some 44, none, .iaddr 1 (.t 38) (.t 39)⟩, ⟨none, none, .store 1 (.t 44) (.t 43)⟩] none)))))
 (.reg [⟨some 17, none, .mov (.t 8)⟩, ⟨some 18, none, .bin .add (.t 17) (.c (.int .i64 1))⟩, ⟨some 8, none, .mov (.t 18)⟩] none))))))
theorem f222 : FnIs Tryz.prog 222 45 c222 [] := ⟨_, Tryz.func222, rfl, by kernel_rfl, rfl⟩
def c223 : AC := (.seq (.reg [⟨some 2, none, .mov (.c (.int .i64 0))⟩] none)
 (.seq (.reg [⟨some 3, none, .mov (.t 0)⟩, ⟨some 4, none, .bin .shr (.t 3) (.c (.int .u64 1))⟩, ⟨some 5, none, .bin .and (.t 4) (.c (.int .u64 6148914691236517205))⟩, ⟨some 6, none, .mov (.t 0)⟩, ⟨some 7, none, .bin .and (.t 6) (.c (.int .u64 6148914691236517205))⟩, ⟨some 8, none, .bin .add (.t 5) (.t 7)⟩, ⟨some 0, none, .mov (.t 8)⟩] none)
 (.seq (.reg [⟨some 9, none, .mov (.t 0)⟩, ⟨some 10, none, .bin .shr (.t 9) (.c (.int .u64 2))⟩, ⟨some 11, none, .bin .and (.t 10) (.c (.int .u64 3689348814741910323))⟩, ⟨some 12, none, .mov (.t 0)⟩, ⟨some 13, none, .bin .and (.t 12) (.c (.int .u64 3689348814741910323))⟩, ⟨some 14, none, .bin .add (.t 11) (.t 13)⟩, ⟨some 0, none, .mov (.t 14)⟩] none)
 (.seq (.reg [⟨some 15, none, .mov (.t 0)⟩, ⟨some 16, none, .bin .shr (.t 15) (.c (.int .u64 4))⟩, ⟨some 17, none, .mov (.t 0)⟩, ⟨some 18, none, .bin .add (.t 16) (.t 17)⟩, ⟨some 19, none, .bin .and (.t 18) (.c (.int .u64 1085102592571150095))⟩, ⟨some 0, none, .mov (.t 19)⟩] none)
 (.seq (.reg [⟨some 20, none, .mov (.t 0)⟩, ⟨some 21, none, .mov (.t 0)⟩, ⟨some 22, none, .bin .shr (.t 21) (.c (.int .u64 8))⟩, ⟨some 23, none, .bin .add (.t 20) (.t 22)⟩, ⟨some 0, none, .mov (.t 23)⟩] none)
 (.seq (.reg [⟨some 24, none, .mov (.t 0)⟩, ⟨some 25, none, .mov (.t 0)⟩, ⟨some 26, none, .bin .shr (.t 25) (.c (.int .u64 16))⟩, ⟨some 27, none, .bin .add (.t 24) (.t 26)⟩, ⟨some 0, none, .mov (.t 27)⟩] none)
 (.seq (.reg [⟨some 28, none, .mov (.t 0)⟩, ⟨some 29, none, .mov (.t 0)⟩, ⟨some 30, none, .bin .shr (.t 29) (.c (.int .u64 32))⟩, ⟨some 31, none, .bin .add (.t 28) (.t 30)⟩, ⟨some 0, none, .mov (.t 31)⟩] none)
 (.seq (.reg [⟨some 32, none, .mov (.t 0)⟩, ⟨some 33, none, .conv (.toInt .i64) (.t 32)⟩, ⟨some 34, none, .bin .and (.t 33) (.c (.int .i64 127))⟩, ⟨some 2, none, .mov (.t 34)⟩] none)
 .ret))))))))
theorem f223 : FnIs Tryz.prog 223 35 c223 [.tmp 2] := ⟨_, Tryz.func223, rfl, by kernel_rfl, rfl⟩
def c224 : AC := (.seq (.reg [⟨some 3, none, .box (.t 1)⟩, ⟨some 4, none, .mov (.c (.sl 1 [] (.exact 0)))⟩, ⟨some 5, none, .mov (.c (.int .i64 0))⟩] none)
 (.seq (.seq (.reg [⟨some 10, none, .mov (.t 0)⟩, ⟨some 11, none, .load none (.t 3)⟩, ⟨some 12, none, .call 173 [(.t 10), (.t 11)]⟩, ⟨some 6, none, .mov (.t 12)⟩] none)
 (.seq (.reg [⟨some 13, none, .mov (.t 6)⟩, ⟨some 14, none, .bin .neq (.t 13) (.c (.int .i64 0))⟩] none)
 (.cond (.t 14) (.seq (.reg [⟨some 15, none, .mov (.t 6)⟩, ⟨some 4, none, .mov (.c (.sl 1 [] (.exact 0)))⟩, ⟨some 5, none, .mov (.t 15)⟩] none)
 .ret) .skip)))
 (.seq (.reg [⟨some 16, none, .mov (.t 0)⟩, ⟨some 17, none, .nilck (.t 16)⟩, ⟨some 18, none, .faddr 0 (.t 17)⟩, ⟨some 19, none, .load none (.t 18)⟩, ⟨some 20, none, .load none (.t 3)⟩, ⟨some 21, none, .iaddr 128 (.t 19) (.t 20)⟩, ⟨some 22, none, .load (some 128) (.t 21)⟩, ⟨some 7, none, .alloc (List.replicate 128 (.int .u8 0))⟩, ⟨none, none, .store 128 (.t 7) (.t 22)⟩] (some [(3, 4), (3, 7), (4, 7), (6, 7)]))
 (.seq (.seq (.reg [⟨some 23, none, .mov (.t 0)⟩, ⟨some 24, none, .nilck (.t 23)⟩, ⟨some 25, none, .faddr 1 (.t 24)⟩, ⟨some 26, none, .load none (.t 25)⟩, ⟨some 27, none, .call 297 [(.t 26)]⟩] none)
 (.block 0 (.rfun (.t 27) [28, 29] (.reg [⟨some 9, none, .alloc (List.replicate 128 (.int .u8 0) ++ [.int .i64 0])⟩, ⟨none, none, .store 129 (.t 9) (.t 29)⟩] none)
 (.block 1 (.seq (.reg [⟨some 30, none, .faddr 128 (.t 9)⟩, ⟨some 31, none, .load none (.t 30)⟩, ⟨some 32, none, .load none (.t 3)⟩, ⟨some 33, none, .bin .eql (.t 31) (.t 32)⟩] none)
 (.cond (.t 33) (.seq (.reg [⟨some 34, none, .faddr 0 (.t 9)⟩, ⟨some 35, none, .load (some 128) (.t 34)⟩, ⟨none, none, .store 128 (.t 7) (.t 35)⟩] none)
 (.exit 0)) .skip))))))
 (.seq (.reg [⟨some 36, none, .raw (.slp 1 128) [(.t 7), (.c (.int .i64 0)), (.c (.int .i64 128))]⟩, ⟨some 4, none, .mov (.t 36)⟩, ⟨some 5, none, .mov (.c (.int .i64 0))⟩] none)
 .ret)))))
theorem f224 : FnIs Tryz.prog 224 37 c224 [.tmp 4, .tmp 5] := ⟨_, Tryz.func224, rfl, by kernel_rfl, rfl⟩
def c227 : AC := (.seq (.reg [⟨some 2, none, .mov (.c (.bool false))⟩] none)
 (.seq (.reg [⟨some 3, none, .mov (.t 0)⟩, ⟨some 4, none, .bin .neq (.t 3) (.c (.int .u8 0))⟩, ⟨some 2, none, .mov (.t 4)⟩] none)
 .ret))
theorem f227 : FnIs Tryz.prog 227 5 c227 [.tmp 2] := ⟨_, Tryz.func227, rfl, by kernel_rfl, rfl⟩
def c229 : AC := (.seq (.reg [⟨some 4, none, .mov (.c (.bool false))⟩] none)
 (.seq (.reg [⟨some 5, none, .mov (.t 0)⟩, ⟨some 6, none, .mov (.t 1)⟩, ⟨some 7, none, .call 298 [(.t 5), (.t 6)]⟩, ⟨some 8, none, .bin .geq (.t 7) (.c (.int .i64 0))⟩, ⟨some 4, none, .mov (.t 8)⟩] none)
 .ret))
theorem f229 : FnIs Tryz.prog 229 9 c229 [.tmp 4] := ⟨_, Tryz.func229, rfl, by kernel_rfl, rfl⟩
def c231 : AC := (.seq (.reg [⟨some 4, none, .mov (.c (.bool false))⟩] none)
 (.seq (.reg [⟨some 5, none, .mov (.t 0)⟩, ⟨some 6, none, .mov (.t 1)⟩, ⟨some 7, none, .call 299 [(.t 5), (.t 6)]⟩, ⟨some 8, none, .bin .geq (.t 7) (.c (.int .i64 0))⟩, ⟨some 4, none, .mov (.t 8)⟩] none)
 .ret))
theorem f231 : FnIs Tryz.prog 231 9 c231 [.tmp 4] := ⟨_, Tryz.func231, rfl, by kernel_rfl, rfl⟩
def c233 : AC := (.seq (.reg [⟨some 8, none, .mov (.t 1)⟩, ⟨some 9, none, .bin .add (.t 8) (.c (.int .i64 1))⟩, ⟨some 6, none, .mov (.t 9)⟩] none)
 (.block 0 (.loop (.seq (.seq (.reg [⟨some 10, none, .mov (.t 6)⟩, ⟨some 11, none, .mov (.t 2)⟩, ⟨some 12, none, .bin .lss (.t 10) (.t 11)⟩] none)
 (.cond (.t 12) .skip (.exit 0)))
 (.seq (.block 1 (.seq (.reg [⟨some 15, none, .mov (.t 6)⟩, ⟨some 7, none, .mov (.t 15)⟩] none)
 (.block 2 (.loop (.seq (.seq (.reg [⟨some 16, none, .mov (.t 7)⟩, ⟨some 17, none, .mov (.t 1)⟩, ⟨some 18, none, .bin .gtr (.t 16) (.t 17)⟩, ⟨some 19, none, .mov (.t 18)⟩, ⟨some 20, some (19, true), .mov (.t 0)⟩, ⟨some 21, some (19, true), .mov (.t 7)⟩, ⟨some 22, some (19, true), .iaddr 1 (.t 20) (.t 21)⟩, ⟨some 23, some (19, true), .load none (.t 22)⟩, ⟨some 24, some (19, true), .mov (.t 0)⟩, ⟨some 25, some (19, true), .mov (.t 7)⟩, ⟨some 26, some (19, true), .bin .sub (.t 25) (.c (.int .i64 1))⟩, ⟨some 27, some (19, true), .iaddr 1 (.t 24) (.t 26)⟩, ⟨some 28, some (19, true), .load none (.t 27)⟩, ⟨some 29, some (19, true), .call 239 [(.t 23), (.t 28)]⟩, ⟨some 30, none, .pick (.t 19) (.t 29) (.c (.bool false))⟩] (some [(7, 12)]))
 (.cond (.t 30) .skip (.exit 2)))
 (.seq (.block 3 (.reg [⟨some 33, none, .mov (.t 0)⟩, ⟨some 34, none, .mov (.t 7)⟩, ⟨some 35, none, .mov (.t 0)⟩, ⟨some 36, none, .mov (.t 7)⟩, ⟨some 37, none, .bin .sub (.t 36) (.c (.int .i64 1))⟩, ⟨some 38, none, .mov (.t 0)⟩, ⟨some 39, none, .mov (.t 7)⟩, ⟨some 40, none, .bin .sub (.t 39) (.c (.int .i64 1))⟩, ⟨some 41, none, .iaddr 1 (.t 38) (.t 40)⟩, ⟨some 42, none, .load none (.t 41)⟩, ⟨some 43, none, .mov (.t 0)⟩, ⟨some 44, none, .mov (.t 7)⟩, ⟨some 45, none, .iaddr 1 (.t 43) (.t 44)⟩, ⟨some 46, none, .load none (.t 45)⟩, ⟨some 47, none, .iaddr 1 (.t 33) (.t 34)⟩, ⟨none, none, .store 1 (.t 47) (.t 42)⟩, ⟨some 48, none, .iaddr 1 (.t 35) (.t 37)⟩, ⟨none, none, .store 1 (.t 48) (.t 46)⟩] (some [(9, 13)])))
 (.reg [⟨some 31, none, .mov (.t 7)⟩, ⟨some 32, none, .bin .sub (.t 31) (.c (.int .i64 1))⟩, ⟨some 7, none, .mov (.t 32)⟩] none)))))))
 (.reg [⟨some 13, none, .mov (.t 6)⟩, ⟨some 14, none, .bin .add (.t 13) (.c (.int .i64 1))⟩, ⟨some 6, none, .mov (.t 14)⟩] none))))))
theorem f233 : FnIs Tryz.prog 233 49 c233 [] := ⟨_, Tryz.func233, rfl, by kernel_rfl, rfl⟩
def c243 : AC := (.seq (.reg [⟨some 2, none, .mov (.c (.int .i64 0))⟩] none)
 (.seq (.seq (.reg [⟨some 3, none, .mov (.t 0)⟩, ⟨some 4, none, .bin .geq (.t 3) (.c (.int .u64 4294967296))⟩] none)
 (.cond (.t 4) (.seq (.reg [⟨some 5, none, .mov (.t 0)⟩, ⟨some 6, none, .bin .shr (.t 5) (.c (.int .u64 32))⟩, ⟨some 0, none, .mov (.t 6)⟩] none)
 (.reg [⟨some 2, none, .mov (.c (.int .i64 32))⟩] none)) .skip))
 (.seq (.seq (.reg [⟨some 7, none, .mov (.t 0)⟩, ⟨some 8, none, .bin .geq (.t 7) (.c (.int .u64 65536))⟩] none)
 (.cond (.t 8) (.seq (.reg [⟨some 9, none, .mov (.t 0)⟩, ⟨some 10, none, .bin .shr (.t 9) (.c (.int .u64 16))⟩, ⟨some 0, none, .mov (.t 10)⟩] none)
 (.reg [⟨some 11, none, .mov (.t 2)⟩, ⟨some 12, none, .bin .add (.t 11) (.c (.int .i64 16))⟩, ⟨some 2, none, .mov (.t 12)⟩] none)) .skip))
 (.seq (.seq (.reg [⟨some 13, none, .mov (.t 0)⟩, ⟨some 14, none, .bin .geq (.t 13) (.c (.int .u64 256))⟩] none)
 (.cond (.t 14) (.seq (.reg [⟨some 15, none, .mov (.t 0)⟩, ⟨some 16, none, .bin .shr (.t 15) (.c (.int .u64 8))⟩, ⟨some 0, none, .mov (.t 16)⟩] none)
 (.reg [⟨some 17, none, .mov (.t 2)⟩, ⟨some 18, none, .bin .add (.t 17) (.c (.int .i64 8))⟩, ⟨some 2, none, .mov (.t 18)⟩] none)) .skip))
 (.seq (.reg [⟨some 19, none, .mov (.t 2)⟩, ⟨some 20, none, .mov (.t 0)⟩, ⟨some 21, none, .conv (.toInt .u8) (.t 20)⟩, ⟨some 22, none, .idx (.c (.str [0, 1, 2, 2, 3, 3, 3, 3, 4, 4, 4, 4, 4, 4, 4, 4, 5, 5, 5, 5, 5, 5, 5, 5, 5, 5, 5, 5, 5, 5, 5, 5, 6, 6, 6, 6, 6, 6, 6, 6, 6, 6, 6, 6, 6, 6, 6, 6, 6, 6, 6, 6, 6, 6, 6, 6, 6, 6, 6, 6, 6, 6, 6, 6, 7, 7, 7, 7, 7, 7, 7, 7, 7, 7, 7, 7, 7, 7, 7, 7, 7, 7, 7, 7, 7, 7, 7, 7, 7, 7, 7, 7, 7, 7, 7, 7, 7, 7, 7, 7, 7, 7, 7, 7, 7, 7, 7, 7, 7, 7, 7, 7, 7, 7, 7, 7, 7, 7, 7, 7, 7, 7, 7, 7, 7, 7, 7, 7, 8, 8, 8, 8, 8, 8, 8, 8, 8, 8, 8, 8, 8, 8, 8, 8, 8, 8, 8, 8, 8, 8, 8, 8, 8, 8, 8, 8, 8, 8, 8, 8, 8, 8, 8, 8, 8, 8, 8, 8, 8, 8, 8, 8, 8, 8, 8, 8, 8, 8, 8, 8, 8, 8, 8, 8, 8, 8, 8, 8, 8, 8, 8, 8, 8, 8, 8, 8, 8, 8, 8, 8, 8, 8, 8, 8, 8, 8, 8, 8, 8, 8, 8, 8, 8, 8, 8, 8, 8, 8, 8, 8, 8, 8, 8, 8, 8, 8, 8, 8, 8, 8, 8, 8, 8, 8, 8, 8, 8, 8, 8, 8, 8, 8, 8, 8, 8, 8, 8, 8, 8, 8, 8, 8, 8, 8, 8, 8])) (.t 21)⟩, ⟨some 23, none, .conv (.toInt .i64) (.t 22)⟩, ⟨some 24, none, .bin .add (.t 19) (.t 23)⟩, ⟨some 2, none, .mov (.t 24)⟩] none)
 .ret)))))
theorem f243 : FnIs Tryz.prog 243 25 c243 [.tmp 2] := ⟨_, Tryz.func243, rfl, by kernel_rfl, rfl⟩
def c244 : AC := (.seq (.reg [⟨some 4, none, .mov (.c (.sl 1 [] (.exact 0)))⟩] none)
 (.seq (.reg [⟨some 5, none, .mov (.t 0)⟩, ⟨some 6, none, .mov (.t 1)⟩, ⟨some 7, none, .conv (.toInt .u16) (.t 6)⟩, ⟨some 8, none, .call 306 [(.t 5), (.t 7), (.c (.int .i64 2))]⟩, ⟨some 4, none, .mov (.t 8)⟩] none)
 .ret))
theorem f244 : FnIs Tryz.prog 244 9 c244 [.tmp 4] := ⟨_, Tryz.func244, rfl, by kernel_rfl, rfl⟩
def c245 : AC := (.seq (.reg [⟨some 4, none, .mov (.c (.sl 1 [] (.exact 0)))⟩] none)
 (.seq (.reg [⟨some 5, none, .mov (.t 0)⟩, ⟨some 6, none, .mov (.t 1)⟩, ⟨some 7, none, .conv (.toInt .u8) (.t 6)⟩, ⟨some 8, none, .call 307 [(.t 5), (.t 7), (.c (.int .i64 1))]⟩, ⟨some 4, none, .mov (.t 8)⟩] none)
 .ret))
theorem f245 : FnIs Tryz.prog 245 9 c245 [.tmp 4] := ⟨_, Tryz.func245, rfl, by kernel_rfl, rfl⟩
def c249 : AC := (.seq (.reg [⟨some 6, none, .mov (.c (.sl 1 [] (.exact 0)))⟩] none)
 (.seq (.reg [⟨some 7, none, .mov (.t 0)⟩, ⟨some 8, none, .call 208 [(.t 7)]⟩, ⟨some 9, none, .mov (.t 1)⟩, ⟨some 10, none, .mov (.t 2)⟩, ⟨some 11, none, .buildSl 1 [(.t 10)]⟩, ⟨some 12, none, .call 154 [(.t 8), (.t 9), (.t 11)]⟩, ⟨some 6, none, .mov (.t 12)⟩] none)
 .ret))
theorem f249 : FnIs Tryz.prog 249 13 c249 [.tmp 6] := ⟨_, Tryz.func249, rfl, by kernel_rfl, rfl⟩
def c256 : AC := (.seq (.reg [⟨some 4, none, .mov (.c (.sl 1 [] (.exact 0)))⟩] none)
 (.seq (.reg [⟨some 5, none, .mov (.t 0)⟩, ⟨some 6, none, .call 208 [(.t 5)]⟩, ⟨some 7, none, .mov (.t 1)⟩, ⟨some 8, none, .mov (.t 1)⟩, ⟨some 9, none, .bin .add (.t 8) (.c (.int .i64 1))⟩, ⟨some 10, none, .call 159 [(.t 6), (.t 7), (.t 9)]⟩, ⟨some 4, none, .mov (.t 10)⟩] none)
 .ret))
theorem f256 : FnIs Tryz.prog 256 11 c256 [.tmp 4] := ⟨_, Tryz.func256, rfl, by kernel_rfl, rfl⟩
def c258 : AC := (.seq (.reg [⟨some 2, none, .alloc [.int .i64 0, .int .i64 0, .int .i64 0, .int .i64 0, .int .i64 0, .int .i64 0]⟩, ⟨some 3, none, .mov (.c (.int .i64 0))⟩] none)
 (.seq (.seq (.reg [⟨some 8, none, .mov (.t 0)⟩, ⟨some 9, none, .len false (.t 8)⟩, ⟨some 10, none, .bin .neq (.t 9) (.c (.int .i64 128))⟩] none)
 (.cond (.t 10) (.seq (.reg [⟨some 11, none, .build [.int .i64 0, .int .i64 0, .int .i64 0, .int .i64 0, .int .i64 0, .int .i64 0] []⟩, ⟨none, none, .store 6 (.t 2) (.t 11)⟩, ⟨some 3, none, .mov (.c (.int .i64 4))⟩] none)
 .ret) .skip))
 (.seq (.reg [⟨some 12, none, .mov (.t 0)⟩, ⟨some 13, none, .slc false 1 (.t 12) (some (.c (.int .i64 4))) none none⟩, ⟨some 14, none, .call 268 [(.t 13)]⟩, ⟨some 4, none, .mov (.t 14)⟩] none)
 (.seq (.reg [⟨some 15, none, .mov (.t 4)⟩, ⟨some 16, none, .call 269 [(.t 15)]⟩, ⟨some 17, none, .mov (.t 4)⟩, ⟨some 18, none, .call 313 [(.t 17)]⟩, ⟨some 19, none, .bin .sub (.t 18) (.c (.int .i64 1))⟩, ⟨some 20, none, .mov (.t 4)⟩, ⟨some 21, none, .call 269 [(.t 20)]⟩, ⟨some 22, none, .mov (.t 4)⟩, ⟨some 23, none, .call 313 [(.t 22)]⟩, ⟨some 24, none, .mov (.t 4)⟩, ⟨some 25, none, .call 269 [(.t 24)]⟩, ⟨some 26, none, .mov (.t 4)⟩, ⟨some 27, none, .call 269 [(.t 26)]⟩, ⟨some 28, none, .build [.int .i64 0, .int .i64 0, .int .i64 0, .int .i64 0, .int .i64 0, .int .i64 0] [(0, 1, (.t 16)), (1, 1, (.t 19)), (2, 1, (.t 21)), (3, 1, (.t 23)), (4, 1, (.t 25)), (5, 1, (.t 27))]⟩, ⟨some 5, none, .alloc [.int .i64 0, .int .i64 0, .int .i64 0, .int .i64 0, .int .i64 0, .int .i64 0]⟩, ⟨none, none, .store 6 (.t 5) (.t 28)⟩] none)
 (.seq (.reg [⟨some 30, none, .load (some 6) (.t 5)⟩, ⟨some 31, none, .call 83 [(.t 30)]⟩, ⟨some 29, none, .mov (.t 31)⟩, ⟨some 32, none, .ext (.t 29) 0⟩, ⟨some 33, none, .ext (.t 29) 1⟩, ⟨some 6, none, .mov (.t 32)⟩, ⟨some 7, none, .mov (.t 33)⟩] none)
 (.seq (.seq (.reg [⟨some 34, none, .mov (.t 7)⟩, ⟨some 35, none, .bin .neq (.t 34) (.c (.int .i64 0))⟩, ⟨some 36, none, .mov (.t 35)⟩, ⟨some 37, some (36, false), .mov (.t 6)⟩, ⟨some 38, some (36, false), .raw (.s2a 128) [(.t 37)]⟩, ⟨some 39, some (36, false), .load (some 128) (.t 38)⟩, ⟨some 40, some (36, false), .mov (.t 0)⟩, ⟨some 41, some (36, false), .raw (.s2a 128) [(.t 40)]⟩, ⟨some 42, some (36, false), .load (some 128) (.t 41)⟩, ⟨some 43, some (36, false), .raw (.eqarr true 128 .int) [(.t 39), (.t 42)]⟩, ⟨some 44, none, .pick (.t 36) (.c (.bool true)) (.t 43)⟩] (some [(5, 8)]))
 (.cond (.t 44) (.seq (.reg [⟨some 45, none, .build [.int .i64 0, .int .i64 0, .int .i64 0, .int .i64 0, .int .i64 0, .int .i64 0] []⟩, ⟨none, none, .store 6 (.t 2) (.t 45)⟩, ⟨some 3, none, .mov (.c (.int .i64 4))⟩] none)
 .ret) .skip))
 (.seq (.reg [⟨some 46, none, .load (some 6) (.t 5)⟩, ⟨none, none, .store 6 (.t 2) (.t 46)⟩, ⟨some 3, none, .mov (.c (.int .i64 0))⟩] none)
 .ret)))))))
theorem f258 : FnIs Tryz.prog 258 47 c258 [.cell 2 (some 6), .tmp 3] := ⟨_, Tryz.func258, rfl, by kernel_rfl, rfl⟩
def c259 : AC := (.seq (.reg [⟨some 4, none, .alloc [.int .i64 0, .int .i64 0, .bool false, .bool false, .str []]⟩, ⟨some 5, none, .mov (.c (.bool false))⟩] none)
 (.seq (.reg [⟨some 10, none, .mov (.t 0)⟩, ⟨some 11, none, .nilck (.t 10)⟩, ⟨some 12, none, .faddr 0 (.t 11)⟩, ⟨some 13, none, .load none (.t 12)⟩, ⟨some 14, none, .mov (.t 1)⟩, ⟨some 15, none, .call 224 [(.t 13), (.t 14)]⟩, ⟨some 9, none, .mov (.t 15)⟩, ⟨some 16, none, .ext (.t 9) 0⟩, ⟨some 17, none, .ext (.t 9) 1⟩, ⟨some 6, none, .mov (.t 16)⟩, ⟨some 7, none, .mov (.t 17)⟩] none)
 (.seq (.seq (.reg [⟨some 18, none, .mov (.t 7)⟩, ⟨some 19, none, .bin .neq (.t 18) (.c (.int .i64 0))⟩] none)
 (.cond (.t 19) (.seq (.reg [⟨some 20, none, .build [.int .i64 0, .int .i64 0, .bool false, .bool false, .str []] []⟩, ⟨none, none, .store 5 (.t 4) (.t 20)⟩, ⟨some 5, none, .mov (.c (.bool false))⟩] none)
 .ret) .skip))
 (.seq (.reg [⟨some 22, none, .mov (.t 6)⟩, ⟨some 23, none, .call 314 [(.t 22)]⟩, ⟨some 21, none, .mov (.t 23)⟩, ⟨some 24, none, .ext (.t 21) 0⟩, ⟨some 25, none, .ext (.t 21) 1⟩, ⟨some 8, none, .alloc [.int .i64 0, .int .i64 0, .bool false, .bool false, .str []]⟩, ⟨none, none, .store 5 (.t 8) (.t 24)⟩, ⟨some 7, none, .mov (.t 25)⟩] none)
 (.seq (.reg [⟨some 26, none, .load (some 5) (.t 8)⟩, ⟨some 27, none, .mov (.t 7)⟩, ⟨some 28, none, .bin .eql (.t 27) (.c (.int .i64 0))⟩, ⟨none, none, .store 5 (.t 4) (.t 26)⟩, ⟨some 5, none, .mov (.t 28)⟩] none)
 .ret)))))
theorem f259 : FnIs Tryz.prog 259 29 c259 [.cell 4 (some 5), .tmp 5] := ⟨_, Tryz.func259, rfl, by kernel_rfl, rfl⟩
def c260 : AC := (.seq (.reg [⟨some 7, none, .load none (.t 1)⟩, ⟨some 8, none, .nilck (.t 7)⟩, ⟨some 9, none, .faddr 2 (.t 8)⟩, ⟨some 10, none, .load none (.t 9)⟩, ⟨some 11, none, .mov (.c (.int .i64 0))⟩] none)
 (.block 0 (.loop (.seq (.reg [⟨some 12, none, .bin .lss (.t 11) (.t 10)⟩] none)
 (.seq (.cond (.t 12) .skip (.exit 0))
 (.seq (.block 1 (.seq (.reg [⟨some 13, none, .mov (.t 11)⟩, ⟨some 4, none, .mov (.t 13)⟩] none)
 (.seq (.reg [⟨some 15, none, .load none (.t 1)⟩, ⟨some 16, none, .load none (.t 1)⟩, ⟨some 17, none, .load none (.t 1)⟩, ⟨some 18, none, .nilck (.t 17)⟩, ⟨some 19, none, .faddr 3 (.t 18)⟩, ⟨some 20, none, .load none (.t 19)⟩, ⟨some 21, none, .mov (.t 4)⟩, ⟨some 22, none, .bin .add (.t 20) (.t 21)⟩, ⟨some 23, none, .call 180 [(.t 16), (.t 22)]⟩, ⟨some 24, none, .call 259 [(.t 15), (.t 23)]⟩, ⟨some 14, none, .mov (.t 24)⟩, ⟨some 25, none, .ext (.t 14) 0⟩, ⟨some 26, none, .ext (.t 14) 1⟩, ⟨some 5, none, .alloc [.int .i64 0, .int .i64 0, .bool false, .bool false, .str []]⟩, ⟨none, none, .store 5 (.t 5) (.t 25)⟩, ⟨some 6, none, .mov (.t 26)⟩] (some [(0, 1), (0, 2), (1, 2), (0, 5), (1, 5), (0, 8), (0, 13), (1, 13), (2, 13), (5, 13), (8, 13), (9, 13)]))
 (.seq (.seq (.reg [⟨some 27, none, .mov (.t 6)⟩, ⟨some 28, none, .un .not (.t 27)⟩, ⟨some 29, none, .mov (.t 28)⟩, ⟨some 30, some (29, false), .faddr 1 (.t 5)⟩, ⟨some 31, some (29, false), .load none (.t 30)⟩, ⟨some 32, some (29, false), .load none (.t 1)⟩, ⟨some 33, some (29, false), .nilck (.t 32)⟩, ⟨some 34, some (29, false), .faddr 3 (.t 33)⟩, ⟨some 35, some (29, false), .load none (.t 34)⟩, ⟨some 36, some (29, false), .mov (.t 4)⟩, ⟨some 37, some (29, false), .bin .add (.t 35) (.t 36)⟩, ⟨some 38, some (29, false), .bin .neq (.t 31) (.t 37)⟩, ⟨some 39, none, .pick (.t 29) (.c (.bool true)) (.t 38)⟩, ⟨some 40, none, .mov (.t 39)⟩, ⟨some 41, some (40, false), .faddr 0 (.t 5)⟩, ⟨some 42, some (40, false), .load none (.t 41)⟩, ⟨some 43, some (40, false), .load none (.t 2)⟩, ⟨some 44, some (40, false), .bin .lss (.t 42) (.t 43)⟩, ⟨some 45, none, .pick (.t 40) (.c (.bool true)) (.t 44)⟩] (some [(4, 5), (4, 8), (15, 16)]))
 (.cond (.t 45) .ret .skip))
 (.seq (.reg [⟨some 46, none, .faddr 0 (.t 5)⟩, ⟨some 47, none, .load none (.t 46)⟩, ⟨none, none, .store 1 (.t 2) (.t 47)⟩] none)
 (.seq (.reg [⟨some 48, none, .mov (.t 0)⟩, ⟨some 49, none, .load (some 5) (.t 5)⟩, ⟨some 50, none, .callv (.t 48) [(.t 49)]⟩, ⟨some 51, none, .un .not (.t 50)⟩] none)
 (.cond (.t 51) .ret .skip)))))))
 (.reg [⟨some 52, none, .bin .add (.t 11) (.c (.int .i64 1))⟩, ⟨some 11, none, .mov (.t 52)⟩] none)))))))
theorem f260 : FnIs Tryz.prog 260 53 c260 [] := ⟨_, Tryz.func260, rfl, by kernel_rfl, rfl⟩
def c261 : AC := (.seq (.reg [⟨some 1, none, .box (.t 0)⟩, ⟨some 2, none, .mov (.c (.int .i64 0))⟩] none)
 (.seq (.seq (.reg [⟨some 3, none, .faddr 0 (.t 1)⟩, ⟨some 4, none, .load none (.t 3)⟩, ⟨some 5, none, .bin .lss (.t 4) (.c (.int .i64 0))⟩, ⟨some 6, none, .mov (.t 5)⟩, ⟨some 7, some (6, false), .faddr 0 (.t 1)⟩, ⟨some 8, some (6, false), .load none (.t 7)⟩, ⟨some 9, some (6, false), .bin .gtr (.t 8) (.c (.int .i64 2147483647))⟩, ⟨some 10, none, .pick (.t 6) (.c (.bool true)) (.t 9)⟩, ⟨some 11, none, .mov (.t 10)⟩, ⟨some 12, some (11, false), .faddr 1 (.t 1)⟩, ⟨some 13, some (11, false), .load none (.t 12)⟩, ⟨some 14, some (11, false), .bin .lss (.t 13) (.c (.int .i64 0))⟩, ⟨some 15, none, .pick (.t 11) (.c (.bool true)) (.t 14)⟩, ⟨some 16, none, .mov (.t 15)⟩, ⟨some 17, some (16, false), .faddr 1 (.t 1)⟩, ⟨some 18, some (16, false), .load none (.t 17)⟩, ⟨some 19, some (16, false), .bin .gtr (.t 18) (.c (.int .i64 1152921504606846976))⟩, ⟨some 20, none, .pick (.t 16) (.c (.bool true)) (.t 19)⟩, ⟨some 21, none, .mov (.t 20)⟩, ⟨some 22, some (21, false), .faddr 4 (.t 1)⟩, ⟨some 23, some (21, false), .load none (.t 22)⟩, ⟨some 24, some (21, false), .len true (.t 23)⟩, ⟨some 25, some (21, false), .bin .gtr (.t 24) (.c (.int .i64 108))⟩, ⟨some 26, none, .pick (.t 21) (.c (.bool true)) (.t 25)⟩] none)
 (.cond (.t 26) (.seq (.reg [⟨some 2, none, .mov (.c (.int .i64 2))⟩] none)
 .ret) .skip))
 (.seq (.reg [⟨some 2, none, .mov (.c (.int .i64 0))⟩] none)
 .ret)))
theorem f261 : FnIs Tryz.prog 261 27 c261 [.tmp 2] := ⟨_, Tryz.func261, rfl, by kernel_rfl, rfl⟩
def c263 : AC := (.seq (.reg [⟨some 6, none, .mov (.c (.bool false))⟩] none)
 (.seq (.reg [⟨some 7, none, .mov (.t 0)⟩, ⟨some 8, none, .mov (.t 1)⟩, ⟨some 9, none, .bin .geq (.t 7) (.t 8)⟩, ⟨some 10, none, .mov (.t 9)⟩, ⟨some 11, some (10, true), .mov (.t 0)⟩, ⟨some 12, some (10, true), .mov (.t 2)⟩, ⟨some 13, some (10, true), .bin .leq (.t 11) (.t 12)⟩, ⟨some 14, none, .pick (.t 10) (.t 13) (.c (.bool false))⟩, ⟨some 6, none, .mov (.t 14)⟩] none)
 .ret))
theorem f263 : FnIs Tryz.prog 263 15 c263 [.tmp 6] := ⟨_, Tryz.func263, rfl, by kernel_rfl, rfl⟩
def c264 : AC := (.seq (.reg [⟨some 6, none, .mov (.c (.sl 1 [] (.exact 0)))⟩] none)
 (.seq (.seq (.reg [⟨some 8, none, .mov (.t 2)⟩, ⟨some 9, none, .bin .sub (.t 8) (.c (.int .i64 1))⟩, ⟨some 7, none, .mov (.t 9)⟩] none)
 (.block 0 (.loop (.seq (.seq (.reg [⟨some 10, none, .mov (.t 7)⟩, ⟨some 11, none, .bin .geq (.t 10) (.c (.int .i64 0))⟩] none)
 (.cond (.t 11) .skip (.exit 0)))
 (.seq (.block 1 (.reg [⟨some 14, none, .mov (.t 0)⟩, ⟨some 15, none, .mov (.t 1)⟩, ⟨some 16, none, .mov (.t 7)⟩, ⟨some 17, none, .bin .mul (.c (.int .i64 8)) (.t 16)⟩, ⟨some 18, none, .bin .shr (.t 15) (.t 17)⟩, ⟨some 19, none, .conv (.toInt .u8) (.t 18)⟩, ⟨some 20, none, .buildSl 1 [(.t 19)]⟩, ⟨some 21, none, .app false 1 1 (.t 14) (.t 20)⟩, ⟨some 0, none, .mov (.t 21)⟩] none))
 (.reg [⟨some 12, none, .mov (.t 7)⟩, ⟨some 13, none, .bin .sub (.t 12) (.c (.int .i64 1))⟩, ⟨some 7, none, .mov (.t 13)⟩] none))))))
 (.seq (.reg [⟨some 22, none, .mov (.t 0)⟩, ⟨some 6, none, .mov (.t 22)⟩] none)
 .ret)))
theorem f264 : FnIs Tryz.prog 264 23 c264 [.tmp 6] := ⟨_, Tryz.func264, rfl, by kernel_rfl, rfl⟩
def c265 : AC := (.seq (.reg [⟨some 6, none, .mov (.c (.sl 1 [] (.exact 0)))⟩] none)
 (.seq (.seq (.reg [⟨some 8, none, .mov (.t 2)⟩, ⟨some 9, none, .bin .sub (.t 8) (.c (.int .i64 1))⟩, ⟨some 7, none, .mov (.t 9)⟩] none)
 (.block 0 (.loop (.seq (.seq (.reg [⟨some 10, none, .mov (.t 7)⟩, ⟨some 11, none, .bin .geq (.t 10) (.c (.int .i64 0))⟩] none)
 (.cond (.t 11) .skip (.exit 0)))
 (.seq (.block 1 (.reg [⟨some 14, none, .mov (.t 0)⟩, ⟨some 15, none, .mov (.t 1)⟩, ⟨some 16, none, .conv (.toInt .u64) (.t 15)⟩, ⟨some 17, none, .mov (.t 7)⟩, ⟨some 18, none, .bin .mul (.c (.int .i64 8)) (.t 17)⟩, ⟨some 19, none, .bin .shr (.t 16) (.t 18)⟩, ⟨some 20, none, .conv (.toInt .u8) (.t 19)⟩, ⟨some 21, none, .buildSl 1 [(.t 20)]⟩, ⟨some 22, none, .app false 1 1 (.t 14) (.t 21)⟩, ⟨some 0, none, .mov (.t 22)⟩] none))
 (.reg [⟨some 12, none, .mov (.t 7)⟩, ⟨some 13, none, .bin .sub (.t 12) (.c (.int .i64 1))⟩, ⟨some 7, none, .mov (.t 13)⟩] none))))))
 (.seq (.reg [⟨some 23, none, .mov (.t 0)⟩, ⟨some 6, none, .mov (.t 23)⟩] none)
 .ret)))
theorem f265 : FnIs Tryz.prog 265 24 c265 [.tmp 6] := ⟨_, Tryz.func265, rfl, by kernel_rfl, rfl⟩
def c266 : AC := (.seq (.reg [⟨some 1, none, .box (.t 0)⟩, ⟨some 2, none, .mov (.c (.sc .nilFunc))⟩] none)
 (.seq (.reg [⟨some 3, none, .mkfn (.func 315) [] [(.t 1)]⟩, ⟨some 2, none, .mov (.t 3)⟩] none)
 .ret))
theorem f266 : FnIs Tryz.prog 266 4 c266 [.tmp 2] := ⟨_, Tryz.func266, rfl, by kernel_rfl, rfl⟩
def c267 : AC := (.seq (.reg [⟨some 1, none, .box (.t 0)⟩, ⟨some 2, none, .mov (.c (.int .i64 0))⟩] none)
 (.seq (.reg [⟨some 3, none, .mov (.c (.int .i64 0))⟩] none)
 (.seq (.seq (.reg [⟨some 4, none, .faddr 2 (.t 1)⟩, ⟨some 5, none, .load none (.t 4)⟩] none)
 (.cond (.t 5) (.reg [⟨some 6, none, .mov (.t 3)⟩, ⟨some 7, none, .bin .or (.t 6) (.c (.int .i64 1))⟩, ⟨some 3, none, .mov (.t 7)⟩] none) .skip))
 (.seq (.seq (.reg [⟨some 8, none, .faddr 3 (.t 1)⟩, ⟨some 9, none, .load none (.t 8)⟩] none)
 (.cond (.t 9) (.reg [⟨some 10, none, .mov (.t 3)⟩, ⟨some 11, none, .bin .or (.t 10) (.c (.int .i64 2))⟩, ⟨some 3, none, .mov (.t 11)⟩] none) .skip))
 (.seq (.reg [⟨some 12, none, .mov (.t 3)⟩, ⟨some 2, none, .mov (.t 12)⟩] none)
 .ret)))))
theorem f267 : FnIs Tryz.prog 267 13 c267 [.tmp 2] := ⟨_, Tryz.func267, rfl, by kernel_rfl, rfl⟩
def c268 : AC := (.seq (.reg [⟨some 2, none, .mov (.c (.sc (.pointer none)))⟩] none)
 (.seq (.reg [⟨some 3, none, .mov (.t 0)⟩, ⟨some 4, none, .call 316 [(.t 3)]⟩, ⟨some 5, none, .build [.bool false, .sl 1 [] (.exact 0), .int .i64 0, .int .i64 0] [(0, 1, (.c (.bool true))), (1, 1, (.t 4))]⟩, ⟨some 6, none, .box (.t 5)⟩, ⟨some 2, none, .mov (.t 6)⟩] none)
 .ret))
theorem f268 : FnIs Tryz.prog 268 7 c268 [.tmp 2] := ⟨_, Tryz.func268, rfl, by kernel_rfl, rfl⟩
def c269 : AC := (.seq (.reg [⟨some 2, none, .mov (.c (.int .i64 0))⟩] none)
 (.seq (.reg [⟨some 3, none, .mov (.t 0)⟩, ⟨some 4, none, .call 317 [(.t 3), (.c (.int .i64 8)), (.c (.clo (.func 318) [] []))]⟩, ⟨some 2, none, .mov (.t 4)⟩] none)
 .ret))
theorem f269 : FnIs Tryz.prog 269 5 c269 [.tmp 2] := ⟨_, Tryz.func269, rfl, by kernel_rfl, rfl⟩
def c270 : AC := (.seq (.reg [⟨some 8, none, .mov (.c (.bool true))⟩] none)
 (.seq (.reg [⟨some 9, none, .mov (.c (.bool true))⟩] none)
 (.block 0 (.loop (.block 1 (.seq (.reg [⟨some 19, none, .mov (.t 2)⟩, ⟨some 20, none, .mov (.t 1)⟩, ⟨some 21, none, .bin .sub (.t 19) (.t 20)⟩, ⟨some 10, none, .mov (.t 21)⟩] none)
 (.seq (.seq (.reg [⟨some 22, none, .mov (.t 10)⟩, ⟨some 23, none, .bin .leq (.t 22) (.c (.int .i64 12))⟩] none)
 (.cond (.t 23) (.seq (.reg [⟨some 24, none, .mov (.t 0)⟩, ⟨some 25, none, .mov (.t 1)⟩, ⟨some 26, none, .mov (.t 2)⟩, ⟨some 27, none, .call 319 [(.t 24), (.t 25), (.t 26)]⟩] none)
 .ret) .skip))
 (.seq (.seq (.reg [⟨some 28, none, .mov (.t 3)⟩, ⟨some 29, none, .bin .eql (.t 28) (.c (.int .i64 0))⟩] none)
 (.cond (.t 29) (.seq (.reg [⟨some 30, none, .mov (.t 0)⟩, ⟨some 31, none, .mov (.t 1)⟩, ⟨some 32, none, .mov (.t 2)⟩, ⟨some 33, none, .call 320 [(.t 30), (.t 31), (.t 32)]⟩] none)
 .ret) .skip))
 (.seq (.seq (.reg [⟨some 34, none, .mov (.t 8)⟩, ⟨some 35, none, .un .not (.t 34)⟩] none)
 (.cond (.t 35) (.seq (.reg [⟨some 36, none, .mov (.t 0)⟩, ⟨some 37, none, .mov (.t 1)⟩, ⟨some 38, none, .mov (.t 2)⟩, ⟨some 39, none, .call 321 [(.t 36), (.t 37), (.t 38)]⟩] none)
 (.reg [⟨some 40, none, .mov (.t 3)⟩, ⟨some 41, none, .bin .sub (.t 40) (.c (.int .i64 1))⟩, ⟨some 3, none, .mov (.t 41)⟩] none)) .skip))
 (.seq (.reg [⟨some 43, none, .mov (.t 0)⟩, ⟨some 44, none, .mov (.t 1)⟩, ⟨some 45, none, .mov (.t 2)⟩, ⟨some 46, none, .call 322 [(.t 43), (.t 44), (.t 45)]⟩, ⟨some 42, none, .mov (.t 46)⟩, ⟨some 47, none, .ext (.t 42) 0⟩, ⟨some 48, none, .ext (.t 42) 1⟩, ⟨some 11, none, .mov (.t 47)⟩, ⟨some 12, none, .mov (.t 48)⟩] none)
 (.seq (.seq (.reg [⟨some 49, none, .mov (.t 12)⟩, ⟨some 50, none, .bin .eql (.t 49) (.c (.int .i64 2))⟩] none)
 (.cond (.t 50) (.seq (.reg [⟨some 51, none, .mov (.t 0)⟩, ⟨some 52, none, .mov (.t 1)⟩, ⟨some 53, none, .mov (.t 2)⟩, ⟨some 54, none, .call 323 [(.t 51), (.t 52), (.t 53)]⟩] none)
 (.seq (.reg [⟨some 55, none, .mov (.t 2)⟩, ⟨some 56, none, .bin .sub (.t 55) (.c (.int .i64 1))⟩, ⟨some 57, none, .mov (.t 11)⟩, ⟨some 58, none, .mov (.t 1)⟩, ⟨some 59, none, .bin .sub (.t 57) (.t 58)⟩, ⟨some 60, none, .bin .sub (.t 56) (.t 59)⟩, ⟨some 11, none, .mov (.t 60)⟩] none)
 (.reg [⟨some 12, none, .mov (.c (.int .i64 1))⟩] none))) .skip))
 (.seq (.seq (.reg [⟨some 61, none, .mov (.t 8)⟩, ⟨some 62, none, .mov (.t 61)⟩, ⟨some 63, some (62, true), .mov (.t 9)⟩, ⟨some 64, none, .pick (.t 62) (.t 63) (.c (.bool false))⟩, ⟨some 65, none, .mov (.t 64)⟩, ⟨some 66, some (65, true), .mov (.t 12)⟩, ⟨some 67, some (65, true), .bin .eql (.t 66) (.c (.int .i64 1))⟩, ⟨some 68, none, .pick (.t 65) (.t 67) (.c (.bool false))⟩] none)
 (.cond (.t 68) (.seq (.reg [⟨some 69, none, .mov (.t 0)⟩, ⟨some 70, none, .mov (.t 1)⟩, ⟨some 71, none, .mov (.t 2)⟩, ⟨some 72, none, .call 324 [(.t 69), (.t 70), (.t 71)]⟩] none)
 (.cond (.t 72) .ret .skip)) .skip))
 (.seq (.seq (.reg [⟨some 73, none, .mov (.t 1)⟩, ⟨some 74, none, .bin .gtr (.t 73) (.c (.int .i64 0))⟩, ⟨some 75, none, .mov (.t 74)⟩, ⟨some 76, some (75, true), .mov (.t 0)⟩, ⟨some 77, some (75, true), .mov (.t 1)⟩, ⟨some 78, some (75, true), .bin .sub (.t 77) (.c (.int .i64 1))⟩, ⟨some 79, some (75, true), .iaddr 1 (.t 76) (.t 78)⟩, ⟨some 80, some (75, true), .load none (.t 79)⟩, ⟨some 81, some (75, true), .mov (.t 0)⟩, ⟨some 82, some (75, true), .mov (.t 11)⟩, ⟨some 83, some (75, true), .iaddr 1 (.t 81) (.t 82)⟩, ⟨some 84, some (75, true), .load none (.t 83)⟩, ⟨some 85, some (75, true), .call 288 [(.t 80), (.t 84)]⟩, ⟨some 86, some (75, true), .un .not (.t 85)⟩, ⟨some 87, none, .pick (.t 75) (.t 86) (.c (.bool false))⟩] (some [(7, 11)]))
 (.cond (.t 87) (.seq (.reg [⟨some 88, none, .mov (.t 0)⟩, ⟨some 89, none, .mov (.t 1)⟩, ⟨some 90, none, .mov (.t 2)⟩, ⟨some 91, none, .mov (.t 11)⟩, ⟨some 92, none, .call 325 [(.t 88), (.t 89), (.t 90), (.t 91)]⟩, ⟨some 13, none, .mov (.t 92)⟩] none)
 (.seq (.reg [⟨some 93, none, .mov (.t 13)⟩, ⟨some 1, none, .mov (.t 93)⟩] none)
 (.exit 1))) .skip))
 (.seq (.reg [⟨some 95, none, .mov (.t 0)⟩, ⟨some 96, none, .mov (.t 1)⟩, ⟨some 97, none, .mov (.t 2)⟩, ⟨some 98, none, .mov (.t 11)⟩, ⟨some 99, none, .call 326 [(.t 95), (.t 96), (.t 97), (.t 98)]⟩, ⟨some 94, none, .mov (.t 99)⟩, ⟨some 100, none, .ext (.t 94) 0⟩, ⟨some 101, none, .ext (.t 94) 1⟩, ⟨some 14, none, .mov (.t 100)⟩, ⟨some 15, none, .mov (.t 101)⟩] none)
 (.seq (.reg [⟨some 102, none, .mov (.t 15)⟩, ⟨some 9, none, .mov (.t 102)⟩] none)
 (.seq (.reg [⟨some 103, none, .mov (.t 14)⟩, ⟨some 104, none, .mov (.t 1)⟩, ⟨some 105, none, .bin .sub (.t 103) (.t 104)⟩, ⟨some 106, none, .mov (.t 2)⟩, ⟨some 107, none, .mov (.t 14)⟩, ⟨some 108, none, .bin .sub (.t 106) (.t 107)⟩, ⟨some 16, none, .mov (.t 105)⟩, ⟨some 17, none, .mov (.t 108)⟩] none)
 (.seq (.reg [⟨some 109, none, .mov (.t 10)⟩, ⟨some 110, none, .bin .quo (.t 109) (.c (.int .i64 8))⟩, ⟨some 18, none, .mov (.t 110)⟩] none)
 (.seq (.reg [⟨some 111, none, .mov (.t 16)⟩, ⟨some 112, none, .mov (.t 17)⟩, ⟨some 113, none, .bin .lss (.t 111) (.t 112)⟩] none)
 (.cond (.t 113) (.seq (.reg [⟨some 114, none, .mov (.t 16)⟩, ⟨some 115, none, .mov (.t 18)⟩, ⟨some 116, none, .bin .geq (.t 114) (.t 115)⟩, ⟨some 8, none, .mov (.t 116)⟩] none)
 (.seq (.reg [⟨some 117, none, .mov (.t 0)⟩, ⟨some 118, none, .mov (.t 1)⟩, ⟨some 119, none, .mov (.t 14)⟩, ⟨some 120, none, .mov (.t 3)⟩, ⟨some 121, none, .call 270 [(.t 117), (.t 118), (.t 119), (.t 120)]⟩] none)
 (.reg [⟨some 122, none, .mov (.t 14)⟩, ⟨some 123, none, .bin .add (.t 122) (.c (.int .i64 1))⟩, ⟨some 1, none, .mov (.t 123)⟩] none))) (.seq (.reg [⟨some 124, none, .mov (.t 17)⟩, ⟨some 125, none, .mov (.t 18)⟩, ⟨some 126, none, .bin .geq (.t 124) (.t 125)⟩, ⟨some 8, none, .mov (.t 126)⟩] none)
 (.seq (.reg [⟨some 127, none, .mov (.t 0)⟩, ⟨some 128, none, .mov (.t 14)⟩, ⟨some 129, none, .bin .add (.t 128) (.c (.int .i64 1))⟩, ⟨some 130, none, .mov (.t 2)⟩, ⟨some 131, none, .mov (.t 3)⟩, ⟨some 132, none, .call 270 [(.t 127), (.t 129), (.t 130), (.t 131)]⟩] none)
 (.reg [⟨some 133, none, .mov (.t 14)⟩, ⟨some 2, none, .mov (.t 133)⟩] none))))))))))))))))))))))
theorem f270 : FnIs Tryz.prog 270 134 c270 [] := ⟨_, Tryz.func270, rfl, by kernel_rfl, rfl⟩
def c272 : AC := (.seq (.reg [⟨some 2, none, .mov (.c (.int .i64 0))⟩] none)
 (.seq (.seq (.reg [⟨some 5, none, .mov (.t 0)⟩, ⟨some 6, none, .len false (.t 5)⟩, ⟨some 7, none, .mov (.c (.int .i64 0))⟩] none)
 (.block 0 (.loop (.seq (.reg [⟨some 8, none, .bin .lss (.t 7) (.t 6)⟩] none)
 (.seq (.cond (.t 8) .skip (.exit 0))
 (.seq (.block 1 (.seq (.reg [⟨some 9, none, .mov (.t 7)⟩, ⟨some 10, none, .iaddr 3 (.t 5) (.t 7)⟩, ⟨some 11, none, .load (some 3) (.t 10)⟩, ⟨some 4, none, .alloc [.int .i64 0, .str [], .bool false]⟩, ⟨some 3, none, .mov (.t 9)⟩, ⟨none, none, .store 3 (.t 4) (.t 11)⟩] none)
 (.seq (.reg [⟨some 12, none, .load (some 3) (.t 4)⟩, ⟨some 13, none, .call 286 [(.t 12)]⟩, ⟨some 14, none, .un .not (.t 13)⟩, ⟨some 15, none, .mov (.t 14)⟩, ⟨some 16, some (15, false), .mov (.t 3)⟩, ⟨some 17, some (15, false), .bin .gtr (.t 16) (.c (.int .i64 0))⟩, ⟨some 18, some (15, false), .mov (.t 17)⟩, ⟨some 19, some (18, true), .faddr 0 (.t 4)⟩, ⟨some 20, some (18, true), .load none (.t 19)⟩, ⟨some 21, some (18, true), .mov (.t 0)⟩, ⟨some 22, some (18, true), .mov (.t 3)⟩, ⟨some 23, some (18, true), .bin .sub (.t 22) (.c (.int .i64 1))⟩, ⟨some 24, some (18, true), .iaddr 3 (.t 21) (.t 23)⟩, ⟨some 25, some (18, true), .faddr 0 (.t 24)⟩, ⟨some 26, some (18, true), .load none (.t 25)⟩, ⟨some 27, some (18, true), .bin .geq (.t 20) (.t 26)⟩, ⟨some 28, some (15, false), .pick (.t 18) (.t 27) (.c (.bool false))⟩, ⟨some 29, none, .pick (.t 15) (.c (.bool true)) (.t 28)⟩] (some [(8, 14)]))
 (.cond (.t 29) (.seq (.reg [⟨some 2, none, .mov (.c (.int .i64 4))⟩] none)
 .ret) .skip))))
 (.reg [⟨some 30, none, .bin .add (.t 7) (.c (.int .i64 1))⟩, ⟨some 7, none, .mov (.t 30)⟩] none)))))))
 (.seq (.reg [⟨some 2, none, .mov (.c (.int .i64 0))⟩] none)
 .ret)))
theorem f272 : FnIs Tryz.prog 272 31 c272 [.tmp 2] := ⟨_, Tryz.func272, rfl, by kernel_rfl, rfl⟩
def c274 : AC := (.seq (.reg [⟨some 4, none, .mov (.c (.str []))⟩, ⟨some 5, none, .mov (.c (.int .i64 0))⟩, ⟨some 6, none, .mov (.c (.bool false))⟩] none)
 (.seq (.seq (.reg [⟨some 8, none, .mov (.t 1)⟩, ⟨some 9, none, .mov (.t 0)⟩, ⟨some 10, none, .len true (.t 9)⟩, ⟨some 11, none, .bin .geq (.t 8) (.t 10)⟩] none)
 (.cond (.t 11) (.seq (.reg [⟨some 12, none, .mov (.t 1)⟩, ⟨some 4, none, .mov (.c (.str []))⟩, ⟨some 5, none, .mov (.t 12)⟩, ⟨some 6, none, .mov (.c (.bool false))⟩] none)
 .ret) .skip))
 (.seq (.reg [⟨some 13, none, .mov (.t 1)⟩, ⟨some 14, none, .bin .add (.t 13) (.c (.int .i64 1))⟩, ⟨some 15, none, .mov (.t 0)⟩, ⟨some 16, none, .mov (.t 1)⟩, ⟨some 17, none, .idx (.t 15) (.t 16)⟩, ⟨some 18, none, .conv (.toInt .i64) (.t 17)⟩, ⟨some 19, none, .bin .add (.t 14) (.t 18)⟩, ⟨some 7, none, .mov (.t 19)⟩] none)
 (.seq (.seq (.reg [⟨some 20, none, .mov (.t 7)⟩, ⟨some 21, none, .mov (.t 0)⟩, ⟨some 22, none, .len true (.t 21)⟩, ⟨some 23, none, .bin .gtr (.t 20) (.t 22)⟩] none)
 (.cond (.t 23) (.seq (.reg [⟨some 24, none, .mov (.t 1)⟩, ⟨some 4, none, .mov (.c (.str []))⟩, ⟨some 5, none, .mov (.t 24)⟩, ⟨some 6, none, .mov (.c (.bool false))⟩] none)
 .ret) .skip))
 (.seq (.reg [⟨some 25, none, .mov (.t 0)⟩, ⟨some 26, none, .mov (.t 1)⟩, ⟨some 27, none, .bin .add (.t 26) (.c (.int .i64 1))⟩, ⟨some 28, none, .mov (.t 7)⟩, ⟨some 29, none, .slc true 0 (.t 25) (some (.t 27)) (some (.t 28)) none⟩, ⟨some 30, none, .mov (.t 7)⟩, ⟨some 4, none, .mov (.t 29)⟩, ⟨some 5, none, .mov (.t 30)⟩, ⟨some 6, none, .mov (.c (.bool true))⟩] none)
 .ret)))))
theorem f274 : FnIs Tryz.prog 274 31 c274 [.tmp 4, .tmp 5, .tmp 6] := ⟨_, Tryz.func274, rfl, by kernel_rfl, rfl⟩
def c275 : AC := (.seq (.reg [⟨some 1, none, .box (.t 0)⟩, ⟨some 2, none, .mov (.c (.int .i64 0))⟩] none)
 (.seq (.seq (.reg [⟨some 6, none, .faddr 0 (.t 1)⟩, ⟨some 7, none, .load none (.t 6)⟩, ⟨some 8, none, .bin .lss (.t 7) (.c (.int .i64 1))⟩, ⟨some 9, none, .mov (.t 8)⟩, ⟨some 10, some (9, false), .faddr 0 (.t 1)⟩, ⟨some 11, some (9, false), .load none (.t 10)⟩, ⟨some 12, some (9, false), .bin .gtr (.t 11) (.c (.int .i64 1152921504606846976))⟩, ⟨some 13, none, .pick (.t 9) (.c (.bool true)) (.t 12)⟩, ⟨some 14, none, .mov (.t 13)⟩, ⟨some 15, some (14, false), .faddr 1 (.t 1)⟩, ⟨some 16, some (14, false), .load none (.t 15)⟩, ⟨some 17, some (14, false), .len false (.t 16)⟩, ⟨some 18, some (14, false), .bin .gtr (.t 17) (.c (.int .i64 64))⟩, ⟨some 19, none, .pick (.t 14) (.c (.bool true)) (.t 18)⟩] none)
 (.cond (.t 19) (.seq (.reg [⟨some 2, none, .mov (.c (.int .i64 2))⟩] none)
 .ret) .skip))
 (.seq (.seq (.reg [⟨some 20, none, .faddr 1 (.t 1)⟩, ⟨some 21, none, .load none (.t 20)⟩, ⟨some 22, none, .len false (.t 21)⟩, ⟨some 23, none, .mov (.c (.int .i64 0))⟩] none)
 (.block 0 (.loop (.seq (.reg [⟨some 24, none, .bin .lss (.t 23) (.t 22)⟩] none)
 (.seq (.cond (.t 24) .skip (.exit 0))
 (.seq (.block 1 (.seq (.reg [⟨some 25, none, .mov (.t 23)⟩, ⟨some 26, none, .iaddr 3 (.t 21) (.t 23)⟩, ⟨some 27, none, .load (some 3) (.t 26)⟩, ⟨some 4, none, .alloc [.str [], .str [], .bool false]⟩, ⟨some 3, none, .mov (.t 25)⟩, ⟨none, none, .store 3 (.t 4) (.t 27)⟩] none)
 (.seq (.reg [⟨some 28, none, .mkfn (.func 328) [] [(.t 4)]⟩, ⟨some 5, none, .mov (.t 28)⟩] none)
 (.seq (.reg [⟨some 29, none, .load (some 3) (.t 4)⟩, ⟨some 30, none, .call 329 [(.t 29)]⟩, ⟨some 31, none, .un .not (.t 30)⟩, ⟨some 32, none, .mov (.t 31)⟩, ⟨some 33, some (32, false), .faddr 1 (.t 1)⟩, ⟨some 34, some (32, false), .load none (.t 33)⟩, ⟨some 35, some (32, false), .mov (.t 3)⟩, ⟨some 36, some (32, false), .slc false 3 (.t 34) none (some (.t 35)) none⟩, ⟨some 37, some (32, false), .mov (.t 5)⟩, ⟨some 38, some (32, false), .call 279 [(.t 36), (.t 37)]⟩, ⟨some 39, none, .pick (.t 32) (.c (.bool true)) (.t 38)⟩] none)
 (.cond (.t 39) (.seq (.reg [⟨some 2, none, .mov (.c (.int .i64 2))⟩] none)
 .ret) .skip)))))
 (.reg [⟨some 40, none, .bin .add (.t 23) (.c (.int .i64 1))⟩, ⟨some 23, none, .mov (.t 40)⟩] none)))))))
 (.seq (.seq (.reg [⟨some 41, none, .load (some 2) (.t 1)⟩, ⟨some 42, none, .call 330 [(.t 41)]⟩, ⟨some 43, none, .bin .gtr (.t 42) (.c (.int .i64 16384))⟩] none)
 (.cond (.t 43) (.seq (.reg [⟨some 2, none, .mov (.c (.int .i64 5))⟩] none)
 .ret) .skip))
 (.seq (.reg [⟨some 2, none, .mov (.c (.int .i64 0))⟩] none)
 .ret)))))
theorem f275 : FnIs Tryz.prog 275 44 c275 [.tmp 2] := ⟨_, Tryz.func275, rfl, by kernel_rfl, rfl⟩
def c276 : AC := (.seq (.reg [⟨some 4, none, .mov (.c (.int .i64 0))⟩] none)
 (.seq (.block 0 (.seq (.reg [⟨some 6, none, .mov (.t 0)⟩, ⟨some 7, none, .call 196 [(.t 6)]⟩, ⟨some 8, none, .un .not (.t 7)⟩, ⟨some 5, none, .mov (.t 8)⟩] none)
 (.cond (.t 5) (.seq (.reg [⟨some 4, none, .mov (.c (.int .i64 1))⟩] none)
 .ret) (.seq (.reg [⟨some 10, none, .mov (.t 1)⟩, ⟨some 11, none, .mov (.t 0)⟩, ⟨some 12, none, .nilck (.t 11)⟩, ⟨some 13, none, .faddr 3 (.t 12)⟩, ⟨some 14, none, .load none (.t 13)⟩, ⟨some 15, none, .bin .lss (.t 10) (.t 14)⟩, ⟨some 9, none, .mov (.t 15)⟩] none)
 (.cond (.t 9) (.seq (.reg [⟨some 4, none, .mov (.c (.int .i64 12))⟩] none)
 .ret) (.seq (.reg [⟨some 17, none, .mov (.t 1)⟩, ⟨some 18, none, .mov (.t 0)⟩, ⟨some 19, none, .nilck (.t 18)⟩, ⟨some 20, none, .faddr 2 (.t 19)⟩, ⟨some 21, none, .load none (.t 20)⟩, ⟨some 22, none, .bin .gtr (.t 17) (.t 21)⟩, ⟨some 16, none, .mov (.t 22)⟩] none)
 (.cond (.t 16) (.seq (.reg [⟨some 4, none, .mov (.c (.int .i64 13))⟩] none)
 .ret) .skip)))))))
 (.seq (.reg [⟨some 4, none, .mov (.c (.int .i64 0))⟩] none)
 .ret)))
theorem f276 : FnIs Tryz.prog 276 23 c276 [.tmp 4] := ⟨_, Tryz.func276, rfl, by kernel_rfl, rfl⟩
def c277 : AC := (.seq (.reg [⟨some 4, none, .mov (.c (.str []))⟩, ⟨some 5, none, .mov (.c (.bool false))⟩] none)
 (.seq (.seq (.reg [⟨some 7, none, .mov (.t 0)⟩, ⟨some 8, none, .call 272 [(.t 7)]⟩, ⟨some 9, none, .bin .neq (.t 8) (.c (.int .i64 0))⟩] none)
 (.cond (.t 9) (.seq (.reg [⟨some 4, none, .mov (.c (.str []))⟩, ⟨some 5, none, .mov (.c (.bool false))⟩] none)
 .ret) .skip))
 (.seq (.reg [⟨some 10, none, .mov (.t 0)⟩, ⟨some 11, none, .mov (.t 1)⟩, ⟨some 12, none, .call 290 [(.t 10), (.t 11)]⟩, ⟨some 6, none, .mov (.t 12)⟩] none)
 (.seq (.seq (.reg [⟨some 13, none, .mov (.t 6)⟩, ⟨some 14, none, .mov (.t 0)⟩, ⟨some 15, none, .len false (.t 14)⟩, ⟨some 16, none, .bin .eql (.t 13) (.t 15)⟩] none)
 (.cond (.t 16) (.seq (.reg [⟨some 4, none, .mov (.c (.str []))⟩, ⟨some 5, none, .mov (.c (.bool false))⟩] none)
 .ret) .skip))
 (.seq (.reg [⟨some 17, none, .mov (.t 0)⟩, ⟨some 18, none, .mov (.t 6)⟩, ⟨some 19, none, .iaddr 3 (.t 17) (.t 18)⟩, ⟨some 20, none, .faddr 1 (.t 19)⟩, ⟨some 21, none, .load none (.t 20)⟩, ⟨some 22, none, .mov (.t 0)⟩, ⟨some 23, none, .mov (.t 6)⟩, ⟨some 24, none, .iaddr 3 (.t 22) (.t 23)⟩, ⟨some 25, none, .faddr 2 (.t 24)⟩, ⟨some 26, none, .load none (.t 25)⟩, ⟨some 27, none, .un .not (.t 26)⟩, ⟨some 4, none, .mov (.t 21)⟩, ⟨some 5, none, .mov (.t 27)⟩] (some [(4, 9)]))
 .ret)))))
theorem f277 : FnIs Tryz.prog 277 28 c277 [.tmp 4, .tmp 5] := ⟨_, Tryz.func277, rfl, by kernel_rfl, rfl⟩
def c278 : AC := (.seq (.reg [⟨some 2, none, .box (.t 0)⟩, ⟨some 3, none, .mov (.c (.bool false))⟩] none)
 (.seq (.reg [⟨some 7, none, .load none (.t 1)⟩, ⟨some 8, none, .nilck (.t 7)⟩, ⟨some 9, none, .faddr 2 (.t 8)⟩, ⟨some 10, none, .load none (.t 9)⟩, ⟨some 11, none, .faddr 0 (.t 2)⟩, ⟨some 12, none, .load none (.t 11)⟩, ⟨some 13, none, .mlook (.agg [.str [], .str [], .bool false]) true (.t 10) (.t 12)⟩, ⟨some 6, none, .mov (.t 13)⟩, ⟨some 14, none, .ext (.t 6) 0⟩, ⟨some 15, none, .ext (.t 6) 1⟩, ⟨some 4, none, .alloc [.str [], .str [], .bool false]⟩, ⟨none, none, .store 3 (.t 4) (.t 14)⟩, ⟨some 5, none, .mov (.t 15)⟩] (some [(0, 5), (3, 5), (0, 10), (3, 10), (5, 10), (6, 10)]))
 (.seq (.reg [⟨some 16, none, .mov (.t 5)⟩, ⟨some 3, none, .mov (.t 16)⟩] none)
 .ret)))
theorem f278 : FnIs Tryz.prog 278 17 c278 [.tmp 3] := ⟨_, Tryz.func278, rfl, by kernel_rfl, rfl⟩
def c279 : AC := (.seq (.reg [⟨some 4, none, .mov (.c (.bool false))⟩] none)
 (.seq (.reg [⟨some 5, none, .mov (.t 0)⟩, ⟨some 6, none, .mov (.t 1)⟩, ⟨some 7, none, .call 331 [(.t 5), (.t 6)]⟩, ⟨some 8, none, .bin .geq (.t 7) (.c (.int .i64 0))⟩, ⟨some 4, none, .mov (.t 8)⟩] none)
 .ret))
theorem f279 : FnIs Tryz.prog 279 9 c279 [.tmp 4] := ⟨_, Tryz.func279, rfl, by kernel_rfl, rfl⟩
def c281 : AC := (.seq (.reg [⟨some 3, none, .mov (.c (.bool false))⟩] none)
 (.seq (.reg [⟨some 4, none, .load none (.t 1)⟩, ⟨some 5, none, .nilck (.t 4)⟩, ⟨some 6, none, .faddr 0 (.t 5)⟩, ⟨some 7, none, .load none (.t 6)⟩, ⟨some 8, none, .mov (.t 0)⟩, ⟨some 9, none, .mov (.t 0)⟩, ⟨some 10, none, .bin .add (.t 9) (.c (.str [0]))⟩, ⟨some 11, none, .load none (.t 1)⟩, ⟨some 12, none, .nilck (.t 11)⟩, ⟨some 13, none, .faddr 1 (.t 12)⟩, ⟨some 14, none, .load none (.t 13)⟩, ⟨some 15, none, .call 282 [(.t 7), (.t 8), (.t 10), (.t 14)]⟩, ⟨some 3, none, .mov (.t 15)⟩] (some [(0, 7), (3, 7), (0, 10), (3, 10)]))
 .ret))
theorem f281 : FnIs Tryz.prog 281 16 c281 [.tmp 3] := ⟨_, Tryz.func281, rfl, by kernel_rfl, rfl⟩
def c282 : AC := (.seq (.reg [⟨some 4, none, .box (.t 0)⟩, ⟨some 7, none, .box (.t 3)⟩, ⟨some 8, none, .alloc [.bool false]⟩] none)
 (.seq (.seq (.reg [⟨some 10, none, .load none (.t 4)⟩, ⟨some 11, none, .call 196 [(.t 10)]⟩, ⟨some 12, none, .un .not (.t 11)⟩] none)
 (.cond (.t 12) (.seq (.reg [⟨none, none, .store 1 (.t 8) (.c (.bool false))⟩] none)
 .ret) .skip))
 (.seq (.seq (.reg [⟨some 13, none, .load none (.t 4)⟩, ⟨some 14, none, .mov (.t 1)⟩, ⟨some 15, none, .mov (.t 2)⟩, ⟨some 16, none, .call 334 [(.t 13), (.t 14), (.t 15)]⟩] none)
 (.block 0 (.rfun (.t 16) [17] (.reg [⟨some 9, none, .mov (.t 17)⟩] none)
 (.block 1 (.seq (.reg [⟨some 18, none, .load none (.t 4)⟩, ⟨some 19, none, .nilck (.t 18)⟩, ⟨some 20, none, .faddr 1 (.t 19)⟩, ⟨some 21, none, .load none (.t 20)⟩, ⟨some 22, none, .mov (.t 9)⟩, ⟨some 23, none, .mlook (.sl 3 [] (.exact 0)) false (.t 21) (.t 22)⟩, ⟨some 24, none, .load none (.t 7)⟩, ⟨some 25, none, .call 335 [(.t 23), (.t 24)]⟩] (some [(0, 6), (3, 6), (5, 6)]))
 (.cond (.t 25) (.seq (.reg [⟨none, none, .store 1 (.t 8) (.c (.bool true))⟩] none)
 .ret) .skip))))))
 (.seq (.reg [⟨none, none, .store 1 (.t 8) (.c (.bool false))⟩] none)
 .ret))))
theorem f282 : FnIs Tryz.prog 282 26 c282 [.cell 8 none] := ⟨_, Tryz.func282, rfl, by kernel_rfl, rfl⟩
def c283 : AC := (.seq (.reg [⟨some 3, none, .box (.t 0)⟩, ⟨some 4, none, .box (.t 1)⟩, ⟨some 5, none, .box (.t 2)⟩, ⟨some 6, none, .mov (.c (.bool false))⟩] none)
 (.seq (.seq (.reg [⟨some 7, none, .load (some 2) (.t 3)⟩, ⟨some 8, none, .call 293 [(.t 7)]⟩, ⟨some 9, none, .bin .neq (.t 8) (.c (.int .i64 0))⟩] none)
 (.cond (.t 9) (.seq (.reg [⟨some 6, none, .mov (.c (.bool false))⟩] none)
 .ret) .skip))
 (.seq (.reg [⟨some 10, none, .faddr 0 (.t 3)⟩, ⟨some 11, none, .load none (.t 10)⟩, ⟨some 12, none, .mkfn (.func 336) [] [(.t 4), (.t 5)]⟩, ⟨some 13, none, .call 231 [(.t 11), (.t 12)]⟩, ⟨some 14, none, .mov (.t 13)⟩, ⟨some 15, some (14, false), .faddr 1 (.t 3)⟩, ⟨some 16, some (14, false), .load none (.t 15)⟩, ⟨some 17, some (14, false), .mkfn (.func 338) [] [(.t 4), (.t 5)]⟩, ⟨some 18, some (14, false), .call 337 [(.t 16), (.t 17)]⟩, ⟨some 19, none, .pick (.t 14) (.c (.bool true)) (.t 18)⟩, ⟨some 6, none, .mov (.t 19)⟩] none)
 .ret)))
theorem f283 : FnIs Tryz.prog 283 20 c283 [.tmp 6] := ⟨_, Tryz.func283, rfl, by kernel_rfl, rfl⟩
def c284 : AC := (.seq (.reg [⟨some 4, none, .mov (.c (.int .i64 0))⟩] none)
 (.seq (.seq (.reg [⟨some 6, none, .mov (.t 0)⟩, ⟨some 7, none, .len false (.t 6)⟩, ⟨some 8, none, .mov (.c (.int .i64 0))⟩] none)
 (.block 0 (.loop (.seq (.reg [⟨some 9, none, .bin .lss (.t 8) (.t 7)⟩] none)
 (.seq (.cond (.t 9) .skip (.exit 0))
 (.seq (.block 1 (.seq (.reg [⟨some 10, none, .mov (.t 8)⟩, ⟨some 5, none, .mov (.t 10)⟩] none)
 (.seq (.reg [⟨some 11, none, .mov (.t 1)⟩, ⟨some 12, none, .mov (.t 0)⟩, ⟨some 13, none, .mov (.t 5)⟩, ⟨some 14, none, .iaddr 2 (.t 12) (.t 13)⟩, ⟨some 15, none, .load (some 2) (.t 14)⟩, ⟨some 16, none, .callv (.t 11) [(.t 15)]⟩] none)
 (.cond (.t 16) (.seq (.reg [⟨some 17, none, .mov (.t 5)⟩, ⟨some 4, none, .mov (.t 17)⟩] none)
 .ret) .skip))))
 (.reg [⟨some 18, none, .bin .add (.t 8) (.c (.int .i64 1))⟩, ⟨some 8, none, .mov (.t 18)⟩] none)))))))
 (.seq (.reg [⟨some 4, none, .mov (.c (.int .i64 (-1)))⟩] none)
 .ret)))
theorem f284 : FnIs Tryz.prog 284 19 c284 [.tmp 4] := ⟨_, Tryz.func284, rfl, by kernel_rfl, rfl⟩
def c285 : AC := (.seq (.reg [⟨some 4, none, .mov (.c (.sl 1 [] (.exact 0)))⟩] none)
 (.seq (.reg [⟨some 5, none, .mov (.t 0)⟩, ⟨some 6, none, .mov (.t 1)⟩, ⟨some 7, none, .len true (.t 6)⟩, ⟨some 8, none, .call 245 [(.t 5), (.t 7)]⟩, ⟨some 9, none, .mov (.t 1)⟩, ⟨some 10, none, .app true 1 1 (.t 8) (.t 9)⟩, ⟨some 4, none, .mov (.t 10)⟩] none)
 .ret))
theorem f285 : FnIs Tryz.prog 285 11 c285 [.tmp 4] := ⟨_, Tryz.func285, rfl, by kernel_rfl, rfl⟩
def c286 : AC := (.seq (.reg [⟨some 1, none, .box (.t 0)⟩, ⟨some 2, none, .mov (.c (.bool false))⟩] none)
 (.seq (.reg [⟨some 3, none, .faddr 0 (.t 1)⟩, ⟨some 4, none, .load none (.t 3)⟩, ⟨some 5, none, .bin .geq (.t 4) (.c (.int .i64 1))⟩, ⟨some 6, none, .mov (.t 5)⟩, ⟨some 7, some (6, true), .faddr 0 (.t 1)⟩, ⟨some 8, some (6, true), .load none (.t 7)⟩, ⟨some 9, some (6, true), .bin .leq (.t 8) (.c (.int .i64 1152921504606846976))⟩, ⟨some 10, none, .pick (.t 6) (.t 9) (.c (.bool false))⟩, ⟨some 11, none, .mov (.t 10)⟩, ⟨some 12, some (11, true), .faddr 1 (.t 1)⟩, ⟨some 13, some (11, true), .load none (.t 12)⟩, ⟨some 14, some (11, true), .len true (.t 13)⟩, ⟨some 15, some (11, true), .bin .leq (.t 14) (.c (.int .i64 200))⟩, ⟨some 16, none, .pick (.t 11) (.t 15) (.c (.bool false))⟩, ⟨some 17, none, .mov (.t 16)⟩, ⟨some 18, some (17, true), .faddr 2 (.t 1)⟩, ⟨some 19, some (17, true), .load none (.t 18)⟩, ⟨some 20, some (17, true), .un .not (.t 19)⟩, ⟨some 21, some (17, true), .mov (.t 20)⟩, ⟨some 22, some (21, false), .faddr 1 (.t 1)⟩, ⟨some 23, some (21, false), .load none (.t 22)⟩, ⟨some 24, some (21, false), .bin .eql (.t 23) (.c (.str []))⟩, ⟨some 25, some (17, true), .pick (.t 21) (.c (.bool true)) (.t 24)⟩, ⟨some 26, none, .pick (.t 17) (.t 25) (.c (.bool false))⟩, ⟨some 2, none, .mov (.t 26)⟩] none)
 .ret))
theorem f286 : FnIs Tryz.prog 286 27 c286 [.tmp 2] := ⟨_, Tryz.func286, rfl, by kernel_rfl, rfl⟩
def c287 : AC := (.seq (.reg [⟨some 2, none, .mov (.c (.sl 3 [] (.exact 0)))⟩] none)
 (.seq (.reg [⟨some 3, none, .mov (.c (.int .i64 0))⟩] none)
 (.seq (.seq (.reg [⟨some 9, none, .mov (.t 0)⟩, ⟨some 10, none, .len false (.t 9)⟩, ⟨some 11, none, .mov (.c (.int .i64 0))⟩] none)
 (.block 0 (.loop (.seq (.reg [⟨some 12, none, .bin .lss (.t 11) (.t 10)⟩] none)
 (.seq (.cond (.t 12) .skip (.exit 0))
 (.seq (.block 1 (.seq (.reg [⟨some 13, none, .iaddr 1 (.t 9) (.t 11)⟩, ⟨some 14, none, .load none (.t 13)⟩, ⟨some 5, none, .mov (.t 14)⟩] none)
 (.seq (.reg [⟨some 15, none, .mov (.t 3)⟩, ⟨some 16, none, .mov (.t 5)⟩, ⟨some 17, none, .len false (.t 16)⟩, ⟨some 18, none, .bin .add (.t 15) (.t 17)⟩, ⟨some 3, none, .mov (.t 18)⟩] none)
 (.seq (.reg [⟨some 19, none, .mov (.t 3)⟩, ⟨some 20, none, .bin .lss (.t 19) (.c (.int .i64 0))⟩] none)
 (.cond (.t 20) (.reg [⟨some 21, none, .ifc 9 (.c (.str [108, 101, 110, 32, 111, 117, 116, 32, 111, 102, 32, 114, 97, 110, 103, 101]))⟩, ⟨none, none, .pan (.t 21)⟩] none) .skip)))))
 (.reg [⟨some 22, none, .bin .add (.t 11) (.c (.int .i64 1))⟩, ⟨some 11, none, .mov (.t 22)⟩] none)))))))
 (.seq (.reg [⟨some 23, none, .mov (.t 3)⟩, ⟨some 24, none, .call 339 [(.c (.sl 3 [] (.exact 0))), (.t 23)]⟩, ⟨some 6, none, .mov (.t 24)⟩] none)
 (.seq (.seq (.reg [⟨some 25, none, .mov (.t 0)⟩, ⟨some 26, none, .len false (.t 25)⟩, ⟨some 27, none, .mov (.c (.int .i64 0))⟩] none)
 (.block 2 (.loop (.seq (.reg [⟨some 28, none, .bin .lss (.t 27) (.t 26)⟩] none)
 (.seq (.cond (.t 28) .skip (.exit 2))
 (.seq (.block 3 (.seq (.reg [⟨some 29, none, .iaddr 1 (.t 25) (.t 27)⟩, ⟨some 30, none, .load none (.t 29)⟩, ⟨some 8, none, .mov (.t 30)⟩] none)
 (.reg [⟨some 31, none, .mov (.t 6)⟩, ⟨some 32, none, .mov (.t 8)⟩, ⟨some 33, none, .app false 3 32 (.t 31) (.t 32)⟩, ⟨some 6, none, .mov (.t 33)⟩] none)))
 (.reg [⟨some 34, none, .bin .add (.t 27) (.c (.int .i64 1))⟩, ⟨some 27, none, .mov (.t 34)⟩] none)))))))
 (.seq (.reg [⟨some 35, none, .mov (.t 6)⟩, ⟨some 2, none, .mov (.t 35)⟩] none)
 .ret))))))
theorem f287 : FnIs Tryz.prog 287 36 c287 [.tmp 2] := ⟨_, Tryz.func287, rfl, by kernel_rfl, rfl⟩
def c290 : AC := (.seq (.reg [⟨some 2, none, .box (.t 0)⟩, ⟨some 3, none, .box (.t 1)⟩, ⟨some 4, none, .mov (.c (.int .i64 0))⟩] none)
 (.seq (.reg [⟨some 5, none, .load none (.t 2)⟩, ⟨some 6, none, .len false (.t 5)⟩, ⟨some 7, none, .mkfn (.func 340) [] [(.t 2), (.t 3)]⟩, ⟨some 8, none, .call 143 [(.t 6), (.t 7)]⟩, ⟨some 4, none, .mov (.t 8)⟩] none)
 .ret))
theorem f290 : FnIs Tryz.prog 290 9 c290 [.tmp 4] := ⟨_, Tryz.func290, rfl, by kernel_rfl, rfl⟩
def c293 : AC := (.seq (.reg [⟨some 1, none, .box (.t 0)⟩, ⟨some 2, none, .mov (.c (.int .i64 0))⟩] none)
 (.seq (.seq (.reg [⟨some 7, none, .faddr 0 (.t 1)⟩, ⟨some 8, none, .load none (.t 7)⟩, ⟨some 9, none, .len false (.t 8)⟩, ⟨some 10, none, .bin .gtr (.t 9) (.c (.int .i64 64))⟩, ⟨some 11, none, .mov (.t 10)⟩, ⟨some 12, some (11, false), .faddr 1 (.t 1)⟩, ⟨some 13, some (11, false), .load none (.t 12)⟩, ⟨some 14, some (11, false), .len false (.t 13)⟩, ⟨some 15, some (11, false), .bin .gtr (.t 14) (.c (.int .i64 64))⟩, ⟨some 16, none, .pick (.t 11) (.c (.bool true)) (.t 15)⟩] none)
 (.cond (.t 16) (.seq (.reg [⟨some 2, none, .mov (.c (.int .i64 4))⟩] none)
 .ret) .skip))
 (.seq (.seq (.reg [⟨some 17, none, .faddr 1 (.t 1)⟩, ⟨some 18, none, .load none (.t 17)⟩, ⟨some 19, none, .len false (.t 18)⟩, ⟨some 20, none, .mov (.c (.int .i64 0))⟩] none)
 (.block 0 (.loop (.seq (.reg [⟨some 21, none, .bin .lss (.t 20) (.t 19)⟩] none)
 (.seq (.cond (.t 21) .skip (.exit 0))
 (.seq (.block 1 (.seq (.reg [⟨some 22, none, .mov (.t 20)⟩, ⟨some 23, none, .iaddr 2 (.t 18) (.t 20)⟩, ⟨some 24, none, .load (some 2) (.t 23)⟩, ⟨some 4, none, .alloc [.str [], .str []]⟩, ⟨some 3, none, .mov (.t 22)⟩, ⟨none, none, .store 2 (.t 4) (.t 24)⟩] none)
 (.seq (.reg [⟨some 25, none, .load (some 2) (.t 4)⟩, ⟨some 26, none, .call 349 [(.t 25)]⟩, ⟨some 27, none, .un .not (.t 26)⟩, ⟨some 28, none, .mov (.t 27)⟩, ⟨some 29, some (28, false), .mov (.t 3)⟩, ⟨some 30, some (28, false), .bin .gtr (.t 29) (.c (.int .i64 0))⟩, ⟨some 31, some (28, false), .mov (.t 30)⟩, ⟨some 32, some (31, true), .faddr 1 (.t 1)⟩, ⟨some 33, some (31, true), .load none (.t 32)⟩, ⟨some 34, some (31, true), .mov (.t 3)⟩, ⟨some 35, some (31, true), .bin .sub (.t 34) (.c (.int .i64 1))⟩, ⟨some 36, some (31, true), .iaddr 2 (.t 33) (.t 35)⟩, ⟨some 37, some (31, true), .load (some 2) (.t 36)⟩, ⟨some 38, some (31, true), .load (some 2) (.t 4)⟩, ⟨some 39, some (31, true), .call 350 [(.t 37), (.t 38)]⟩, ⟨some 40, some (31, true), .un .not (.t 39)⟩, ⟨some 41, some (28, false), .pick (.t 31) (.t 40) (.c (.bool false))⟩, ⟨some 42, none, .pick (.t 28) (.c (.bool true)) (.t 41)⟩] (some [(8, 13), (12, 13)]))
 (.cond (.t 42) (.seq (.reg [⟨some 2, none, .mov (.c (.int .i64 4))⟩] none)
 .ret) .skip))))
 (.reg [⟨some 43, none, .bin .add (.t 20) (.c (.int .i64 1))⟩, ⟨some 20, none, .mov (.t 43)⟩] none)))))))
 (.seq (.seq (.reg [⟨some 44, none, .faddr 0 (.t 1)⟩, ⟨some 45, none, .load none (.t 44)⟩, ⟨some 46, none, .len false (.t 45)⟩, ⟨some 47, none, .mov (.c (.int .i64 0))⟩] none)
 (.block 2 (.loop (.seq (.reg [⟨some 48, none, .bin .lss (.t 47) (.t 46)⟩] none)
 (.seq (.cond (.t 48) .skip (.exit 2))
 (.seq (.block 3 (.seq (.reg [⟨some 49, none, .mov (.t 47)⟩, ⟨some 50, none, .iaddr 1 (.t 45) (.t 47)⟩, ⟨some 51, none, .load none (.t 50)⟩, ⟨some 5, none, .mov (.t 49)⟩, ⟨some 6, none, .mov (.t 51)⟩] none)
 (.seq (.reg [⟨some 52, none, .mov (.t 5)⟩, ⟨some 53, none, .bin .gtr (.t 52) (.c (.int .i64 0))⟩, ⟨some 54, none, .mov (.t 53)⟩, ⟨some 55, some (54, true), .faddr 0 (.t 1)⟩, ⟨some 56, some (54, true), .load none (.t 55)⟩, ⟨some 57, some (54, true), .mov (.t 5)⟩, ⟨some 58, some (54, true), .bin .sub (.t 57) (.c (.int .i64 1))⟩, ⟨some 59, some (54, true), .iaddr 1 (.t 56) (.t 58)⟩, ⟨some 60, some (54, true), .load none (.t 59)⟩, ⟨some 61, some (54, true), .mov (.t 6)⟩, ⟨some 62, some (54, true), .bin .geq (.t 60) (.t 61)⟩, ⟨some 63, none, .pick (.t 54) (.t 62) (.c (.bool false))⟩, ⟨some 64, none, .mov (.t 63)⟩, ⟨some 65, some (64, false), .faddr 1 (.t 1)⟩, ⟨some 66, some (64, false), .load none (.t 65)⟩, ⟨some 67, some (64, false), .mov (.t 6)⟩, ⟨some 68, some (64, false), .call 351 [(.t 66), (.t 67)]⟩, ⟨some 69, none, .pick (.t 64) (.c (.bool true)) (.t 68)⟩] none)
 (.cond (.t 69) (.seq (.reg [⟨some 2, none, .mov (.c (.int .i64 4))⟩] none)
 .ret) .skip))))
 (.reg [⟨some 70, none, .bin .add (.t 47) (.c (.int .i64 1))⟩, ⟨some 47, none, .mov (.t 70)⟩] none)))))))
 (.seq (.reg [⟨some 2, none, .mov (.c (.int .i64 0))⟩] none)
 .ret)))))
theorem f293 : FnIs Tryz.prog 293 71 c293 [.tmp 2] := ⟨_, Tryz.func293, rfl, by kernel_rfl, rfl⟩
def c294 : AC := (.seq (.reg [⟨some 3, none, .box (.t 1)⟩, ⟨some 4, none, .alloc [.sl 1 [] (.exact 0), .sl 2 [] (.exact 0)]⟩, ⟨some 5, none, .mov (.c (.int .i64 0))⟩] none)
 (.seq (.reg [⟨some 6, none, .mov (.t 0)⟩, ⟨some 7, none, .mkfn (.func 353) [] [(.t 3)]⟩, ⟨some 8, none, .call 352 [(.t 6), (.t 7)]⟩, ⟨some 0, none, .mov (.t 8)⟩] none)
 (.seq (.seq (.reg [⟨some 9, none, .mov (.t 0)⟩, ⟨some 10, none, .len false (.t 9)⟩, ⟨some 11, none, .bin .gtr (.t 10) (.c (.int .i64 64))⟩, ⟨some 12, none, .mov (.t 11)⟩, ⟨some 13, some (12, false), .load none (.t 3)⟩, ⟨some 14, some (12, false), .len false (.t 13)⟩, ⟨some 15, some (12, false), .bin .gtr (.t 14) (.c (.int .i64 64))⟩, ⟨some 16, none, .pick (.t 12) (.c (.bool true)) (.t 15)⟩] none)
 (.cond (.t 16) (.seq (.reg [⟨some 17, none, .build [.sl 1 [] (.exact 0), .sl 2 [] (.exact 0)] []⟩, ⟨none, none, .store 2 (.t 4) (.t 17)⟩, ⟨some 5, none, .mov (.c (.int .i64 9))⟩] none)
 .ret) .skip))
 (.seq (.reg [⟨some 18, none, .mov (.t 0)⟩, ⟨some 19, none, .load none (.t 3)⟩, ⟨some 20, none, .build [.sl 1 [] (.exact 0), .sl 2 [] (.exact 0)] [(0, 1, (.t 18)), (1, 1, (.t 19))]⟩, ⟨none, none, .store 2 (.t 4) (.t 20)⟩, ⟨some 5, none, .mov (.c (.int .i64 0))⟩] none)
 .ret))))
theorem f294 : FnIs Tryz.prog 294 21 c294 [.cell 4 (some 2), .tmp 5] := ⟨_, Tryz.func294, rfl, by kernel_rfl, rfl⟩
def c295 : AC := (.seq (.reg [⟨some 2, none, .mov (.c (.sl 2 [] (.exact 0)))⟩] none)
 (.seq (.seq (.reg [⟨some 3, none, .mov (.t 0)⟩, ⟨some 4, none, .eqN false (.t 3)⟩] none)
 (.cond (.t 4) (.seq (.reg [⟨some 2, none, .mov (.c (.sl 2 [] (.exact 0)))⟩] none)
 .ret) .skip))
 (.seq (.reg [⟨some 5, none, .buildSl 2 []⟩, ⟨some 6, none, .mov (.t 0)⟩, ⟨some 7, none, .app false 2 32 (.t 5) (.t 6)⟩, ⟨some 2, none, .mov (.t 7)⟩] none)
 .ret)))
theorem f295 : FnIs Tryz.prog 295 8 c295 [.tmp 2] := ⟨_, Tryz.func295, rfl, by kernel_rfl, rfl⟩
def c296 : AC := (.seq (.reg [⟨some 2, none, .mov (.c (.int .i64 0))⟩, ⟨some 3, none, .mov (.c (.int .u64 0))⟩] none)
 (.seq (.reg [⟨some 4, none, .mov (.t 0)⟩, ⟨some 5, none, .bin .quo (.t 4) (.c (.int .i64 64))⟩, ⟨some 6, none, .mov (.t 0)⟩, ⟨some 7, none, .bin .rem (.t 6) (.c (.int .i64 64))⟩, ⟨some 8, none, .bin .shl (.c (.int .u64 1)) (.t 7)⟩, ⟨some 2, none, .mov (.t 5)⟩, ⟨some 3, none, .mov (.t 8)⟩] (some []))
 .ret))
theorem f296 : FnIs Tryz.prog 296 9 c296 [.tmp 2, .tmp 3] := ⟨_, Tryz.func296, rfl, by kernel_rfl, rfl⟩
def c297 : AC := (.seq (.reg [⟨some 1, none, .box (.t 0)⟩, ⟨some 2, none, .mov (.c (.sc .nilFunc))⟩] none)
 (.seq (.reg [⟨some 3, none, .mkfn (.func 354) [] [(.t 1)]⟩, ⟨some 2, none, .mov (.t 3)⟩] none)
 .ret))
theorem f297 : FnIs Tryz.prog 297 4 c297 [.tmp 2] := ⟨_, Tryz.func297, rfl, by kernel_rfl, rfl⟩
def c298 : AC := (.seq (.reg [⟨some 4, none, .mov (.c (.int .i64 0))⟩] none)
 (.seq (.seq (.reg [⟨some 6, none, .mov (.t 0)⟩, ⟨some 7, none, .len false (.t 6)⟩, ⟨some 8, none, .mov (.c (.int .i64 0))⟩] none)
 (.block 0 (.loop (.seq (.reg [⟨some 9, none, .bin .lss (.t 8) (.t 7)⟩] none)
 (.seq (.cond (.t 9) .skip (.exit 0))
 (.seq (.block 1 (.seq (.reg [⟨some 10, none, .mov (.t 8)⟩, ⟨some 5, none, .mov (.t 10)⟩] none)
 (.seq (.reg [⟨some 11, none, .mov (.t 1)⟩, ⟨some 12, none, .mov (.t 0)⟩, ⟨some 13, none, .mov (.t 5)⟩, ⟨some 14, none, .iaddr 1 (.t 12) (.t 13)⟩, ⟨some 15, none, .load none (.t 14)⟩, ⟨some 16, none, .callv (.t 11) [(.t 15)]⟩] none)
 (.cond (.t 16) (.seq (.reg [⟨some 17, none, .mov (.t 5)⟩, ⟨some 4, none, .mov (.t 17)⟩] none)
 .ret) .skip))))
 (.reg [⟨some 18, none, .bin .add (.t 8) (.c (.int .i64 1))⟩, ⟨some 8, none, .mov (.t 18)⟩] none)))))))
 (.seq (.reg [⟨some 4, none, .mov (.c (.int .i64 (-1)))⟩] none)
 .ret)))
theorem f298 : FnIs Tryz.prog 298 19 c298 [.tmp 4] := ⟨_, Tryz.func298, rfl, by kernel_rfl, rfl⟩
def c299 : AC := (.seq (.reg [⟨some 4, none, .mov (.c (.int .i64 0))⟩] none)
 (.seq (.seq (.reg [⟨some 6, none, .mov (.t 0)⟩, ⟨some 7, none, .len false (.t 6)⟩, ⟨some 8, none, .mov (.c (.int .i64 0))⟩] none)
 (.block 0 (.loop (.seq (.reg [⟨some 9, none, .bin .lss (.t 8) (.t 7)⟩] none)
 (.seq (.cond (.t 9) .skip (.exit 0))
 (.seq (.block 1 (.seq (.reg [⟨some 10, none, .mov (.t 8)⟩, ⟨some 5, none, .mov (.t 10)⟩] none)
 (.seq (.reg [⟨some 11, none, .mov (.t 1)⟩, ⟨some 12, none, .mov (.t 0)⟩, ⟨some 13, none, .mov (.t 5)⟩, ⟨some 14, none, .iaddr 1 (.t 12) (.t 13)⟩, ⟨some 15, none, .load none (.t 14)⟩, ⟨some 16, none, .callv (.t 11) [(.t 15)]⟩] none)
 (.cond (.t 16) (.seq (.reg [⟨some 17, none, .mov (.t 5)⟩, ⟨some 4, none, .mov (.t 17)⟩] none)
 .ret) .skip))))
 (.reg [⟨some 18, none, .bin .add (.t 8) (.c (.int .i64 1))⟩, ⟨some 8, none, .mov (.t 18)⟩] none)))))))
 (.seq (.reg [⟨some 4, none, .mov (.c (.int .i64 (-1)))⟩] none)
 .ret)))
theorem f299 : FnIs Tryz.prog 299 19 c299 [.tmp 4] := ⟨_, Tryz.func299, rfl, by kernel_rfl, rfl⟩
def c306 : AC := (.seq (.reg [⟨some 6, none, .mov (.c (.sl 1 [] (.exact 0)))⟩] none)
 (.seq (.seq (.reg [⟨some 8, none, .mov (.t 2)⟩, ⟨some 9, none, .bin .sub (.t 8) (.c (.int .i64 1))⟩, ⟨some 7, none, .mov (.t 9)⟩] none)
 (.block 0 (.loop (.seq (.seq (.reg [⟨some 10, none, .mov (.t 7)⟩, ⟨some 11, none, .bin .geq (.t 10) (.c (.int .i64 0))⟩] none)
 (.cond (.t 11) .skip (.exit 0)))
 (.seq (.block 1 (.reg [⟨some 14, none, .mov (.t 0)⟩, ⟨some 15, none, .mov (.t 1)⟩, ⟨some 16, none, .conv (.toInt .u64) (.t 15)⟩, ⟨some 17, none, .mov (.t 7)⟩, ⟨some 18, none, .bin .mul (.c (.int .i64 8)) (.t 17)⟩, ⟨some 19, none, .bin .shr (.t 16) (.t 18)⟩, ⟨some 20, none, .conv (.toInt .u8) (.t 19)⟩, ⟨some 21, none, .buildSl 1 [(.t 20)]⟩, ⟨some 22, none, .app false 1 1 (.t 14) (.t 21)⟩, ⟨some 0, none, .mov (.t 22)⟩] none))
 (.reg [⟨some 12, none, .mov (.t 7)⟩, ⟨some 13, none, .bin .sub (.t 12) (.c (.int .i64 1))⟩, ⟨some 7, none, .mov (.t 13)⟩] none))))))
 (.seq (.reg [⟨some 23, none, .mov (.t 0)⟩, ⟨some 6, none, .mov (.t 23)⟩] none)
 .ret)))
theorem f306 : FnIs Tryz.prog 306 24 c306 [.tmp 6] := ⟨_, Tryz.func306, rfl, by kernel_rfl, rfl⟩
def c307 : AC := (.seq (.reg [⟨some 6, none, .mov (.c (.sl 1 [] (.exact 0)))⟩] none)
 (.seq (.seq (.reg [⟨some 8, none, .mov (.t 2)⟩, ⟨some 9, none, .bin .sub (.t 8) (.c (.int .i64 1))⟩, ⟨some 7, none, .mov (.t 9)⟩] none)
 (.block 0 (.loop (.seq (.seq (.reg [⟨some 10, none, .mov (.t 7)⟩, ⟨some 11, none, .bin .geq (.t 10) (.c (.int .i64 0))⟩] none)
 (.cond (.t 11) .skip (.exit 0)))
 (.seq (.block 1 (.reg [⟨some 14, none, .mov (.t 0)⟩, ⟨some 15, none, .mov (.t 1)⟩, ⟨some 16, none, .conv (.toInt .u64) (.t 15)⟩, ⟨some 17, none, .mov (.t 7)⟩, ⟨some 18, none, .bin .mul (.c (.int .i64 8)) (.t 17)⟩, ⟨some 19, none, .bin .shr (.t 16) (.t 18)⟩, ⟨some 20, none, .conv (.toInt .u8) (.t 19)⟩, ⟨some 21, none, .buildSl 1 [(.t 20)]⟩, ⟨some 22, none, .app false 1 1 (.t 14) (.t 21)⟩, ⟨some 0, none, .mov (.t 22)⟩] none))
 (.reg [⟨some 12, none, .mov (.t 7)⟩, ⟨some 13, none, .bin .sub (.t 12) (.c (.int .i64 1))⟩, ⟨some 7, none, .mov (.t 13)⟩] none))))))
 (.seq (.reg [⟨some 23, none, .mov (.t 0)⟩, ⟨some 6, none, .mov (.t 23)⟩] none)
 .ret)))
theorem f307 : FnIs Tryz.prog 307 24 c307 [.tmp 6] := ⟨_, Tryz.func307, rfl, by kernel_rfl, rfl⟩
def c313 : AC := (.seq (.reg [⟨some 2, none, .mov (.c (.int .i64 0))⟩] none)
 (.seq (.reg [⟨some 3, none, .mov (.t 0)⟩, ⟨some 4, none, .call 317 [(.t 3), (.c (.int .i64 4)), (.c (.clo (.func 360) [] []))]⟩, ⟨some 2, none, .mov (.t 4)⟩] none)
 .ret))
theorem f313 : FnIs Tryz.prog 313 5 c313 [.tmp 2] := ⟨_, Tryz.func313, rfl, by kernel_rfl, rfl⟩
def c314 : AC := (.seq (.reg [⟨some 2, none, .alloc [.int .i64 0, .int .i64 0, .bool false, .bool false, .str []]⟩, ⟨some 3, none, .mov (.c (.int .i64 0))⟩] none)
 (.seq (.seq (.reg [⟨some 12, none, .mov (.t 0)⟩, ⟨some 13, none, .len false (.t 12)⟩, ⟨some 14, none, .bin .neq (.t 13) (.c (.int .i64 128))⟩, ⟨some 15, none, .mov (.t 14)⟩, ⟨some 16, some (15, false), .mov (.t 0)⟩, ⟨some 17, some (15, false), .iaddr 1 (.t 16) (.c (.int .i64 0))⟩, ⟨some 18, some (15, false), .load none (.t 17)⟩, ⟨some 19, some (15, false), .bin .neq (.t 18) (.c (.int .u8 83))⟩, ⟨some 20, none, .pick (.t 15) (.c (.bool true)) (.t 19)⟩] none)
 (.cond (.t 20) (.seq (.reg [⟨some 21, none, .build [.int .i64 0, .int .i64 0, .bool false, .bool false, .str []] []⟩, ⟨none, none, .store 5 (.t 2) (.t 21)⟩, ⟨some 3, none, .mov (.c (.int .i64 4))⟩] none)
 .ret) .skip))
 (.seq (.reg [⟨some 22, none, .mov (.t 0)⟩, ⟨some 23, none, .slc false 1 (.t 22) (some (.c (.int .i64 1))) none none⟩, ⟨some 24, none, .call 268 [(.t 23)]⟩, ⟨some 4, none, .mov (.t 24)⟩] none)
 (.seq (.reg [⟨some 25, none, .mov (.t 4)⟩, ⟨some 26, none, .call 361 [(.t 25)]⟩, ⟨some 5, none, .mov (.t 26)⟩] none)
 (.seq (.reg [⟨some 27, none, .mov (.t 4)⟩, ⟨some 28, none, .call 313 [(.t 27)]⟩, ⟨some 29, none, .mov (.t 4)⟩, ⟨some 30, none, .call 269 [(.t 29)]⟩, ⟨some 31, none, .mov (.t 5)⟩, ⟨some 32, none, .bin .and (.t 31) (.c (.int .i64 1))⟩, ⟨some 33, none, .bin .neq (.t 32) (.c (.int .i64 0))⟩, ⟨some 34, none, .mov (.t 5)⟩, ⟨some 35, none, .bin .and (.t 34) (.c (.int .i64 2))⟩, ⟨some 36, none, .bin .neq (.t 35) (.c (.int .i64 0))⟩, ⟨some 37, none, .build [.int .i64 0, .int .i64 0, .bool false, .bool false, .str []] [(0, 1, (.t 28)), (1, 1, (.t 30)), (2, 1, (.t 33)), (3, 1, (.t 36))]⟩, ⟨some 6, none, .alloc [.int .i64 0, .int .i64 0, .bool false, .bool false, .str []]⟩, ⟨none, none, .store 5 (.t 6) (.t 37)⟩] none)
 (.seq (.reg [⟨some 38, none, .mov (.t 4)⟩, ⟨some 39, none, .call 362 [(.t 38)]⟩, ⟨some 7, none, .mov (.t 39)⟩] none)
 (.seq (.seq (.reg [⟨some 40, none, .mov (.t 7)⟩, ⟨some 41, none, .bin .gtr (.t 40) (.c (.int .i64 108))⟩, ⟨some 42, none, .mov (.t 41)⟩, ⟨some 43, some (42, false), .mov (.t 5)⟩, ⟨some 44, some (42, false), .bin .gtr (.t 43) (.c (.int .i64 3))⟩, ⟨some 45, none, .pick (.t 42) (.c (.bool true)) (.t 44)⟩] none)
 (.cond (.t 45) (.seq (.reg [⟨some 46, none, .build [.int .i64 0, .int .i64 0, .bool false, .bool false, .str []] []⟩, ⟨none, none, .store 5 (.t 2) (.t 46)⟩, ⟨some 3, none, .mov (.c (.int .i64 4))⟩] none)
 .ret) .skip))
 (.seq (.reg [⟨some 47, none, .mov (.t 4)⟩, ⟨some 48, none, .call 363 [(.t 47)]⟩, ⟨some 49, none, .bin .add (.c (.int .i64 1)) (.t 48)⟩, ⟨some 8, none, .mov (.t 49)⟩] none)
 (.seq (.reg [⟨some 50, none, .mov (.t 0)⟩, ⟨some 51, none, .mov (.t 8)⟩, ⟨some 52, none, .mov (.t 8)⟩, ⟨some 53, none, .mov (.t 7)⟩, ⟨some 54, none, .bin .add (.t 52) (.t 53)⟩, ⟨some 55, none, .slc false 1 (.t 50) (some (.t 51)) (some (.t 54)) none⟩, ⟨some 56, none, .conv .b2s (.t 55)⟩, ⟨some 57, none, .faddr 4 (.t 6)⟩, ⟨none, none, .store 1 (.t 57) (.t 56)⟩] none)
 (.seq (.seq (.reg [⟨some 58, none, .mov (.t 0)⟩, ⟨some 59, none, .mov (.t 8)⟩, ⟨some 60, none, .mov (.t 7)⟩, ⟨some 61, none, .bin .add (.t 59) (.t 60)⟩, ⟨some 62, none, .mov (.t 8)⟩, ⟨some 63, none, .bin .add (.t 62) (.c (.int .i64 108))⟩, ⟨some 64, none, .slc false 1 (.t 58) (some (.t 61)) (some (.t 63)) none⟩, ⟨some 65, none, .len false (.t 64)⟩, ⟨some 66, none, .mov (.c (.int .i64 0))⟩] none)
 (.block 0 (.loop (.seq (.reg [⟨some 67, none, .bin .lss (.t 66) (.t 65)⟩] none)
 (.seq (.cond (.t 67) .skip (.exit 0))
 (.seq (.block 1 (.seq (.reg [⟨some 68, none, .iaddr 1 (.t 64) (.t 66)⟩, ⟨some 69, none, .load none (.t 68)⟩, ⟨some 10, none, .mov (.t 69)⟩] none)
 (.seq (.reg [⟨some 70, none, .mov (.t 10)⟩, ⟨some 71, none, .bin .neq (.t 70) (.c (.int .u8 0))⟩] none)
 (.cond (.t 71) (.seq (.reg [⟨some 72, none, .build [.int .i64 0, .int .i64 0, .bool false, .bool false, .str []] []⟩, ⟨none, none, .store 5 (.t 2) (.t 72)⟩, ⟨some 3, none, .mov (.c (.int .i64 4))⟩] none)
 .ret) .skip))))
 (.reg [⟨some 73, none, .bin .add (.t 66) (.c (.int .i64 1))⟩, ⟨some 66, none, .mov (.t 73)⟩] none)))))))
 (.seq (.reg [⟨some 74, none, .mov (.t 0)⟩, ⟨some 75, none, .mov (.t 8)⟩, ⟨some 76, none, .bin .add (.t 75) (.c (.int .i64 108))⟩, ⟨some 77, none, .slc false 1 (.t 74) (some (.t 76)) none none⟩, ⟨some 78, none, .call 268 [(.t 77)]⟩, ⟨some 11, none, .mov (.t 78)⟩] none)
 (.seq (.seq (.reg [⟨some 79, none, .load (some 5) (.t 6)⟩, ⟨some 80, none, .call 261 [(.t 79)]⟩, ⟨some 81, none, .bin .neq (.t 80) (.c (.int .i64 0))⟩, ⟨some 82, none, .mov (.t 81)⟩, ⟨some 83, some (82, false), .mov (.t 11)⟩, ⟨some 84, some (82, false), .call 313 [(.t 83)]⟩, ⟨some 85, some (82, false), .mov (.t 0)⟩, ⟨some 86, some (82, false), .mov (.t 8)⟩, ⟨some 87, some (82, false), .bin .add (.t 86) (.c (.int .i64 108))⟩, ⟨some 88, some (82, false), .slc false 1 (.t 85) none (some (.t 87)) none⟩, ⟨some 89, some (82, false), .call 171 [(.t 88)]⟩, ⟨some 90, some (82, false), .bin .neq (.t 84) (.t 89)⟩, ⟨some 91, none, .pick (.t 82) (.c (.bool true)) (.t 90)⟩] (some []))
 (.cond (.t 91) (.seq (.reg [⟨some 92, none, .build [.int .i64 0, .int .i64 0, .bool false, .bool false, .str []] []⟩, ⟨none, none, .store 5 (.t 2) (.t 92)⟩, ⟨some 3, none, .mov (.c (.int .i64 4))⟩] none)
 .ret) .skip))
 (.seq (.reg [⟨some 93, none, .load (some 5) (.t 6)⟩, ⟨none, none, .store 5 (.t 2) (.t 93)⟩, ⟨some 3, none, .mov (.c (.int .i64 0))⟩] none)
 .ret)))))))))))))
theorem f314 : FnIs Tryz.prog 314 94 c314 [.cell 2 (some 5), .tmp 3] := ⟨_, Tryz.func314, rfl, by kernel_rfl, rfl⟩
def c315 : AC := (.seq (.reg [⟨some 3, none, .mov (.c (.int .i64 0))⟩] none)
 (.block 0 (.loop (.seq (.block 1 (.seq (.seq (.reg [⟨some 6, none, .load none (.t 1)⟩, ⟨some 7, none, .len true (.t 6)⟩, ⟨some 8, none, .bin .leq (.t 7) (.c (.int .i64 108))⟩] none)
 (.cond (.t 8) (.seq (.reg [⟨some 9, none, .mov (.t 0)⟩, ⟨some 10, none, .mov (.t 3)⟩, ⟨some 11, none, .load none (.t 1)⟩, ⟨some 12, none, .callv (.t 9) [(.t 10), (.t 11)]⟩] none)
 .ret) .skip))
 (.seq (.seq (.reg [⟨some 13, none, .mov (.t 0)⟩, ⟨some 14, none, .mov (.t 3)⟩, ⟨some 15, none, .load none (.t 1)⟩, ⟨some 16, none, .slc true 0 (.t 15) none (some (.c (.int .i64 108))) none⟩, ⟨some 17, none, .callv (.t 13) [(.t 14), (.t 16)]⟩, ⟨some 18, none, .un .not (.t 17)⟩] none)
 (.cond (.t 18) .ret .skip))
 (.reg [⟨some 19, none, .load none (.t 1)⟩, ⟨some 20, none, .slc true 0 (.t 19) (some (.c (.int .i64 108))) none none⟩, ⟨none, none, .store 1 (.t 1) (.t 20)⟩] none))))
 (.reg [⟨some 4, none, .mov (.t 3)⟩, ⟨some 5, none, .bin .add (.t 4) (.c (.int .i64 1))⟩, ⟨some 3, none, .mov (.t 5)⟩] none)))))
theorem f315 : FnIs Tryz.prog 315 21 c315 [] := ⟨_, Tryz.func315, rfl, by kernel_rfl, rfl⟩
def c316 : AC := (.seq (.reg [⟨some 2, none, .mov (.c (.sl 1 [] (.exact 0)))⟩] none)
 (.seq (.seq (.reg [⟨some 3, none, .mov (.t 0)⟩, ⟨some 4, none, .eqN false (.t 3)⟩] none)
 (.cond (.t 4) (.seq (.reg [⟨some 2, none, .mov (.c (.sl 1 [] (.exact 0)))⟩] none)
 .ret) .skip))
 (.seq (.reg [⟨some 5, none, .buildSl 1 []⟩, ⟨some 6, none, .mov (.t 0)⟩, ⟨some 7, none, .app false 1 1 (.t 5) (.t 6)⟩, ⟨some 2, none, .mov (.t 7)⟩] none)
 .ret)))
theorem f316 : FnIs Tryz.prog 316 8 c316 [.tmp 2] := ⟨_, Tryz.func316, rfl, by kernel_rfl, rfl⟩
def c317 : AC := (.seq (.reg [⟨some 6, none, .mov (.c (.int .i64 0))⟩] none)
 (.seq (.seq (.reg [⟨some 9, none, .mov (.t 0)⟩, ⟨some 10, none, .call 364 [(.t 9)]⟩, ⟨some 11, none, .un .not (.t 10)⟩] none)
 (.cond (.t 11) (.seq (.reg [⟨some 6, none, .mov (.c (.int .i64 0))⟩] none)
 .ret) .skip))
 (.seq (.reg [⟨some 13, none, .mov (.t 0)⟩, ⟨some 14, none, .mov (.t 0)⟩, ⟨some 15, none, .nilck (.t 14)⟩, ⟨some 16, none, .faddr 2 (.t 15)⟩, ⟨some 17, none, .load none (.t 16)⟩, ⟨some 18, none, .mov (.t 1)⟩, ⟨some 19, none, .call 365 [(.t 13), (.t 17), (.t 18)]⟩, ⟨some 12, none, .mov (.t 19)⟩, ⟨some 20, none, .ext (.t 12) 0⟩, ⟨some 21, none, .ext (.t 12) 1⟩, ⟨some 7, none, .mov (.t 20)⟩, ⟨some 8, none, .mov (.t 21)⟩] none)
 (.seq (.seq (.reg [⟨some 22, none, .mov (.t 8)⟩, ⟨some 23, none, .un .not (.t 22)⟩] none)
 (.cond (.t 23) (.seq (.reg [⟨some 24, none, .mov (.t 0)⟩, ⟨some 25, none, .nilck (.t 24)⟩, ⟨some 26, none, .faddr 3 (.t 25)⟩, ⟨none, none, .store 1 (.t 26) (.c (.int .i64 3))⟩] none)
 (.seq (.reg [⟨some 6, none, .mov (.c (.int .i64 0))⟩] none)
 .ret)) .skip))
 (.seq (.reg [⟨some 27, none, .mov (.t 0)⟩, ⟨some 28, none, .nilck (.t 27)⟩, ⟨some 29, none, .faddr 2 (.t 28)⟩, ⟨some 30, none, .load none (.t 29)⟩, ⟨some 31, none, .mov (.t 1)⟩, ⟨some 32, none, .bin .add (.t 30) (.t 31)⟩, ⟨some 33, none, .nilck (.t 27)⟩, ⟨some 34, none, .faddr 2 (.t 33)⟩, ⟨none, none, .store 1 (.t 34) (.t 32)⟩] none)
 (.seq (.reg [⟨some 35, none, .mov (.t 2)⟩, ⟨some 36, none, .mov (.t 7)⟩, ⟨some 37, none, .callv (.t 35) [(.t 36)]⟩, ⟨some 6, none, .mov (.t 37)⟩] none)
 .ret))))))
theorem f317 : FnIs Tryz.prog 317 38 c317 [.tmp 6] := ⟨_, Tryz.func317, rfl, by kernel_rfl, rfl⟩
def c318 : AC := (.seq (.reg [⟨some 2, none, .mov (.c (.int .i64 0))⟩] none)
 (.seq (.reg [⟨some 3, none, .mov (.t 0)⟩, ⟨some 4, none, .conv (.toInt .i64) (.t 3)⟩, ⟨some 2, none, .mov (.t 4)⟩] none)
 .ret))
theorem f318 : FnIs Tryz.prog 318 5 c318 [.tmp 2] := ⟨_, Tryz.func318, rfl, by kernel_rfl, rfl⟩
def c319 : AC := (.seq (.reg [⟨some 8, none, .mov (.t 1)⟩, ⟨some 9, none, .bin .add (.t 8) (.c (.int .i64 1))⟩, ⟨some 6, none, .mov (.t 9)⟩] none)
 (.block 0 (.loop (.seq (.seq (.reg [⟨some 10, none, .mov (.t 6)⟩, ⟨some 11, none, .mov (.t 2)⟩, ⟨some 12, none, .bin .lss (.t 10) (.t 11)⟩] none)
 (.cond (.t 12) .skip (.exit 0)))
 (.seq (.block 1 (.seq (.reg [⟨some 15, none, .mov (.t 6)⟩, ⟨some 7, none, .mov (.t 15)⟩] none)
 (.block 2 (.loop (.seq (.seq (.reg [⟨some 16, none, .mov (.t 7)⟩, ⟨some 17, none, .mov (.t 1)⟩, ⟨some 18, none, .bin .gtr (.t 16) (.t 17)⟩, ⟨some 19, none, .mov (.t 18)⟩, ⟨some 20, some (19, true), .mov (.t 0)⟩, ⟨some 21, some (19, true), .mov (.t 7)⟩, ⟨some 22, some (19, true), .iaddr 1 (.t 20) (.t 21)⟩, ⟨some 23, some (19, true), .load none (.t 22)⟩, ⟨some 24, some (19, true), .mov (.t 0)⟩, ⟨some 25, some (19, true), .mov (.t 7)⟩, ⟨some 26, some (19, true), .bin .sub (.t 25) (.c (.int .i64 1))⟩, ⟨some 27, some (19, true), .iaddr 1 (.t 24) (.t 26)⟩, ⟨some 28, some (19, true), .load none (.t 27)⟩, ⟨some 29, some (19, true), .call 288 [(.t 23), (.t 28)]⟩, ⟨some 30, none, .pick (.t 19) (.t 29) (.c (.bool false))⟩] (some [(7, 12)]))
 (.cond (.t 30) .skip (.exit 2)))
 (.seq (.block 3 (.reg [⟨some 33, none, .mov (.t 0)⟩, ⟨some 34, none, .mov (.t 7)⟩, ⟨some 35, none, .mov (.t 0)⟩, ⟨some 36, none, .mov (.t 7)⟩, ⟨some 37, none, .bin .sub (.t 36) (.c (.int .i64 1))⟩, ⟨some 38, none, .mov (.t 0)⟩, ⟨some 39, none, .mov (.t 7)⟩, ⟨some 40, none, .bin .sub (.t 39) (.c (.int .i64 1))⟩, ⟨some 41, none, .iaddr 1 (.t 38) (.t 40)⟩, ⟨some 42, none, .load none (.t 41)⟩, ⟨some 43, none, .mov (.t 0)⟩, ⟨some 44, none, .mov (.t 7)⟩, ⟨some 45, none, .iaddr 1 (.t 43) (.t 44)⟩, ⟨some 46, none, .load none (.t 45)⟩, ⟨some 47, none, .iaddr 1 (.t 33) (.t 34)⟩, ⟨none, none, .store 1 (.t 47) (.t 42)⟩, ⟨some 48, none, .iaddr 1 (.t 35) (.t 37)⟩, ⟨none, none, .store 1 (.t 48) (.t 46)⟩] (some [(9, 13)])))
 (.reg [⟨some 31, none, .mov (.t 7)⟩, ⟨some 32, none, .bin .sub (.t 31) (.c (.int .i64 1))⟩, ⟨some 7, none, .mov (.t 32)⟩] none)))))))
 (.reg [⟨some 13, none, .mov (.t 6)⟩, ⟨some 14, none, .bin .add (.t 13) (.c (.int .i64 1))⟩, ⟨some 6, none, .mov (.t 14)⟩] none))))))
theorem f319 : FnIs Tryz.prog 319 49 c319 [] := ⟨_, Tryz.func319, rfl, by kernel_rfl, rfl⟩
def c329 : AC := (.seq (.reg [⟨some 1, none, .box (.t 0)⟩, ⟨some 2, none, .mov (.c (.bool false))⟩] none)
 (.seq (.reg [⟨some 3, none, .faddr 0 (.t 1)⟩, ⟨some 4, none, .load none (.t 3)⟩, ⟨some 5, none, .len true (.t 4)⟩, ⟨some 6, none, .bin .leq (.t 5) (.c (.int .i64 120))⟩, ⟨some 7, none, .mov (.t 6)⟩, ⟨some 8, some (7, true), .faddr 1 (.t 1)⟩, ⟨some 9, some (7, true), .load none (.t 8)⟩, ⟨some 10, some (7, true), .len true (.t 9)⟩, ⟨some 11, some (7, true), .bin .leq (.t 10) (.c (.int .i64 199))⟩, ⟨some 12, none, .pick (.t 7) (.t 11) (.c (.bool false))⟩, ⟨some 13, none, .mov (.t 12)⟩, ⟨some 14, some (13, true), .faddr 2 (.t 1)⟩, ⟨some 15, some (13, true), .load none (.t 14)⟩, ⟨some 16, some (13, true), .un .not (.t 15)⟩, ⟨some 17, some (13, true), .mov (.t 16)⟩, ⟨some 18, some (17, false), .faddr 1 (.t 1)⟩, ⟨some 19, some (17, false), .load none (.t 18)⟩, ⟨some 20, some (17, false), .bin .eql (.t 19) (.c (.str []))⟩, ⟨some 21, some (13, true), .pick (.t 17) (.c (.bool true)) (.t 20)⟩, ⟨some 22, none, .pick (.t 13) (.t 21) (.c (.bool false))⟩, ⟨some 2, none, .mov (.t 22)⟩] none)
 .ret))
theorem f329 : FnIs Tryz.prog 329 23 c329 [.tmp 2] := ⟨_, Tryz.func329, rfl, by kernel_rfl, rfl⟩
def c330 : AC := (.seq (.reg [⟨some 1, none, .box (.t 0)⟩, ⟨some 2, none, .mov (.c (.int .i64 0))⟩] none)
 (.seq (.reg [⟨some 3, none, .mov (.c (.int .i64 10))⟩] none)
 (.seq (.seq (.reg [⟨some 6, none, .faddr 1 (.t 1)⟩, ⟨some 7, none, .load none (.t 6)⟩, ⟨some 8, none, .len false (.t 7)⟩, ⟨some 9, none, .mov (.c (.int .i64 0))⟩] none)
 (.block 0 (.loop (.seq (.reg [⟨some 10, none, .bin .lss (.t 9) (.t 8)⟩] none)
 (.seq (.cond (.t 10) .skip (.exit 0))
 (.seq (.block 1 (.seq (.reg [⟨some 11, none, .iaddr 3 (.t 7) (.t 9)⟩, ⟨some 12, none, .load (some 3) (.t 11)⟩, ⟨some 5, none, .alloc [.str [], .str [], .bool false]⟩, ⟨none, none, .store 3 (.t 5) (.t 12)⟩] none)
 (.reg [⟨some 13, none, .mov (.t 3)⟩, ⟨some 14, none, .faddr 0 (.t 5)⟩, ⟨some 15, none, .load none (.t 14)⟩, ⟨some 16, none, .len true (.t 15)⟩, ⟨some 17, none, .bin .add (.c (.int .i64 3)) (.t 16)⟩, ⟨some 18, none, .faddr 1 (.t 5)⟩, ⟨some 19, none, .load none (.t 18)⟩, ⟨some 20, none, .len true (.t 19)⟩, ⟨some 21, none, .bin .add (.t 17) (.t 20)⟩, ⟨some 22, none, .bin .add (.t 13) (.t 21)⟩, ⟨some 3, none, .mov (.t 22)⟩] none)))
 (.reg [⟨some 23, none, .bin .add (.t 9) (.c (.int .i64 1))⟩, ⟨some 9, none, .mov (.t 23)⟩] none)))))))
 (.seq (.reg [⟨some 24, none, .mov (.t 3)⟩, ⟨some 2, none, .mov (.t 24)⟩] none)
 .ret))))
theorem f330 : FnIs Tryz.prog 330 25 c330 [.tmp 2] := ⟨_, Tryz.func330, rfl, by kernel_rfl, rfl⟩
def c331 : AC := (.seq (.reg [⟨some 4, none, .mov (.c (.int .i64 0))⟩] none)
 (.seq (.seq (.reg [⟨some 6, none, .mov (.t 0)⟩, ⟨some 7, none, .len false (.t 6)⟩, ⟨some 8, none, .mov (.c (.int .i64 0))⟩] none)
 (.block 0 (.loop (.seq (.reg [⟨some 9, none, .bin .lss (.t 8) (.t 7)⟩] none)
 (.seq (.cond (.t 9) .skip (.exit 0))
 (.seq (.block 1 (.seq (.reg [⟨some 10, none, .mov (.t 8)⟩, ⟨some 5, none, .mov (.t 10)⟩] none)
 (.seq (.reg [⟨some 11, none, .mov (.t 1)⟩, ⟨some 12, none, .mov (.t 0)⟩, ⟨some 13, none, .mov (.t 5)⟩, ⟨some 14, none, .iaddr 3 (.t 12) (.t 13)⟩, ⟨some 15, none, .load (some 3) (.t 14)⟩, ⟨some 16, none, .callv (.t 11) [(.t 15)]⟩] none)
 (.cond (.t 16) (.seq (.reg [⟨some 17, none, .mov (.t 5)⟩, ⟨some 4, none, .mov (.t 17)⟩] none)
 .ret) .skip))))
 (.reg [⟨some 18, none, .bin .add (.t 8) (.c (.int .i64 1))⟩, ⟨some 8, none, .mov (.t 18)⟩] none)))))))
 (.seq (.reg [⟨some 4, none, .mov (.c (.int .i64 (-1)))⟩] none)
 .ret)))
theorem f331 : FnIs Tryz.prog 331 19 c331 [.tmp 4] := ⟨_, Tryz.func331, rfl, by kernel_rfl, rfl⟩
def c334 : AC := (.seq (.reg [⟨some 3, none, .box (.t 0)⟩, ⟨some 4, none, .box (.t 1)⟩, ⟨some 5, none, .box (.t 2)⟩, ⟨some 6, none, .mov (.c (.sc .nilFunc))⟩] none)
 (.seq (.reg [⟨some 7, none, .mkfn (.func 369) [] [(.t 3), (.t 4), (.t 5)]⟩, ⟨some 6, none, .mov (.t 7)⟩] none)
 .ret))
theorem f334 : FnIs Tryz.prog 334 8 c334 [.tmp 6] := ⟨_, Tryz.func334, rfl, by kernel_rfl, rfl⟩
def c336 : AC := (.seq (.reg [⟨some 4, none, .mov (.c (.bool false))⟩] none)
 (.seq (.reg [⟨some 5, none, .load none (.t 1)⟩, ⟨some 6, none, .mov (.t 0)⟩, ⟨some 7, none, .mov (.t 0)⟩, ⟨some 8, none, .bin .add (.t 7) (.c (.str [0]))⟩, ⟨some 9, none, .load none (.t 2)⟩, ⟨some 10, none, .call 282 [(.t 5), (.t 6), (.t 8), (.t 9)]⟩, ⟨some 4, none, .mov (.t 10)⟩] none)
 .ret))
theorem f336 : FnIs Tryz.prog 336 11 c336 [.tmp 4] := ⟨_, Tryz.func336, rfl, by kernel_rfl, rfl⟩
def c337 : AC := (.seq (.reg [⟨some 4, none, .mov (.c (.bool false))⟩] none)
 (.seq (.reg [⟨some 5, none, .mov (.t 0)⟩, ⟨some 6, none, .mov (.t 1)⟩, ⟨some 7, none, .call 370 [(.t 5), (.t 6)]⟩, ⟨some 8, none, .bin .geq (.t 7) (.c (.int .i64 0))⟩, ⟨some 4, none, .mov (.t 8)⟩] none)
 .ret))
theorem f337 : FnIs Tryz.prog 337 9 c337 [.tmp 4] := ⟨_, Tryz.func337, rfl, by kernel_rfl, rfl⟩
def c339 : AC := (.seq (.reg [⟨some 4, none, .mov (.c (.sl 3 [] (.exact 0)))⟩] none)
 (.seq (.seq (.reg [⟨some 5, none, .mov (.t 1)⟩, ⟨some 6, none, .bin .lss (.t 5) (.c (.int .i64 0))⟩] none)
 (.cond (.t 6) (.reg [⟨some 7, none, .ifc 9 (.c (.str [99, 97, 110, 110, 111, 116, 32, 98, 101, 32, 110, 101, 103, 97, 116, 105, 118, 101]))⟩, ⟨none, none, .pan (.t 7)⟩] none) .skip))
 (.seq (.seq (.reg [⟨some 8, none, .mov (.t 1)⟩, ⟨some 9, none, .mov (.t 0)⟩, ⟨some 10, none, .cap (.t 9)⟩, ⟨some 11, none, .mov (.t 0)⟩, ⟨some 12, none, .len false (.t 11)⟩, ⟨some 13, none, .bin .sub (.t 10) (.t 12)⟩, ⟨some 14, none, .bin .sub (.t 8) (.t 13)⟩, ⟨some 1, none, .mov (.t 14)⟩] none)
 (.seq (.reg [⟨some 15, none, .mov (.t 1)⟩, ⟨some 16, none, .bin .gtr (.t 15) (.c (.int .i64 0))⟩] none)
 (.cond (.t 16) (.reg [⟨some 17, none, .mov (.t 0)⟩, ⟨some 18, none, .mov (.t 0)⟩, ⟨some 19, none, .cap (.t 18)⟩, ⟨some 20, none, .slc false 3 (.t 17) none (some (.t 19)) none⟩, ⟨some 21, none, .mov (.t 1)⟩, ⟨some 22, none, .appz 32 (.agg [.int .i64 0, .str [], .bool false]) 3 (.t 20) (.t 21)⟩, ⟨some 23, none, .mov (.t 0)⟩, ⟨some 24, none, .len false (.t 23)⟩, ⟨some 25, none, .slc false 3 (.t 22) none (some (.t 24)) none⟩, ⟨some 0, none, .mov (.t 25)⟩] none) .skip)))
 (.seq (.reg [⟨some 26, none, .mov (.t 0)⟩, ⟨some 4, none, .mov (.t 26)⟩] none)
 .ret))))
theorem f339 : FnIs Tryz.prog 339 27 c339 [.tmp 4] := ⟨_, Tryz.func339, rfl, by kernel_rfl, rfl⟩
def c340 : AC := (.seq (.reg [⟨some 4, none, .mov (.c (.bool false))⟩] none)
 (.seq (.reg [⟨some 5, none, .load none (.t 1)⟩, ⟨some 6, none, .mov (.t 0)⟩, ⟨some 7, none, .iaddr 3 (.t 5) (.t 6)⟩, ⟨some 8, none, .faddr 0 (.t 7)⟩, ⟨some 9, none, .load none (.t 8)⟩, ⟨some 10, none, .load none (.t 2)⟩, ⟨some 11, none, .bin .leq (.t 9) (.t 10)⟩, ⟨some 4, none, .mov (.t 11)⟩] (some [(0, 5), (4, 5)]))
 .ret))
theorem f340 : FnIs Tryz.prog 340 12 c340 [.tmp 4] := ⟨_, Tryz.func340, rfl, by kernel_rfl, rfl⟩
def c351 : AC := (.seq (.reg [⟨some 3, none, .box (.t 1)⟩, ⟨some 4, none, .mov (.c (.bool false))⟩] none)
 (.seq (.reg [⟨some 5, none, .mov (.t 0)⟩, ⟨some 6, none, .mkfn (.func 374) [] [(.t 3)]⟩, ⟨some 7, none, .call 337 [(.t 5), (.t 6)]⟩, ⟨some 4, none, .mov (.t 7)⟩] none)
 .ret))
theorem f351 : FnIs Tryz.prog 351 8 c351 [.tmp 4] := ⟨_, Tryz.func351, rfl, by kernel_rfl, rfl⟩
def c352 : AC := (.seq (.reg [⟨some 4, none, .mov (.c (.sl 1 [] (.exact 0)))⟩] none)
 (.seq (.reg [⟨some 8, none, .mov (.t 0)⟩, ⟨some 9, none, .mov (.t 1)⟩, ⟨some 10, none, .call 299 [(.t 8), (.t 9)]⟩, ⟨some 5, none, .mov (.t 10)⟩] none)
 (.seq (.seq (.reg [⟨some 11, none, .mov (.t 5)⟩, ⟨some 12, none, .bin .eql (.t 11) (.c (.int .i64 (-1)))⟩] none)
 (.cond (.t 12) (.seq (.reg [⟨some 13, none, .mov (.t 0)⟩, ⟨some 4, none, .mov (.t 13)⟩] none)
 .ret) .skip))
 (.seq (.seq (.reg [⟨some 14, none, .mov (.t 5)⟩, ⟨some 15, none, .bin .add (.t 14) (.c (.int .i64 1))⟩, ⟨some 6, none, .mov (.t 15)⟩] none)
 (.block 0 (.loop (.seq (.seq (.reg [⟨some 16, none, .mov (.t 6)⟩, ⟨some 17, none, .mov (.t 0)⟩, ⟨some 18, none, .len false (.t 17)⟩, ⟨some 19, none, .bin .lss (.t 16) (.t 18)⟩] none)
 (.cond (.t 19) .skip (.exit 0)))
 (.seq (.block 1 (.seq (.reg [⟨some 22, none, .mov (.t 0)⟩, ⟨some 23, none, .mov (.t 6)⟩, ⟨some 24, none, .iaddr 1 (.t 22) (.t 23)⟩, ⟨some 25, none, .load none (.t 24)⟩, ⟨some 7, none, .mov (.t 25)⟩] none)
 (.seq (.reg [⟨some 26, none, .mov (.t 1)⟩, ⟨some 27, none, .mov (.t 7)⟩, ⟨some 28, none, .callv (.t 26) [(.t 27)]⟩, ⟨some 29, none, .un .not (.t 28)⟩] none)
 (.cond (.t 29) (.seq (.reg [⟨some 30, none, .mov (.t 0)⟩, ⟨some 31, none, .mov (.t 5)⟩, ⟨some 32, none, .mov (.t 7)⟩, ⟨some 33, none, .iaddr 1 (.t 30) (.t 31)⟩, ⟨none, none, .store 1 (.t 33) (.t 32)⟩] none)
 (.reg [⟨some 34, none, .mov (.t 5)⟩, ⟨some 35, none, .bin .add (.t 34) (.c (.int .i64 1))⟩, ⟨some 5, none, .mov (.t 35)⟩] none)) .skip))))
 (.reg [⟨some 20, none, .mov (.t 6)⟩, ⟨some 21, none, .bin .add (.t 20) (.c (.int .i64 1))⟩, ⟨some 6, none, .mov (.t 21)⟩] none))))))
 (.seq (.reg [⟨some 36, none, .mov (.t 0)⟩, ⟨some 37, none, .mov (.t 5)⟩, ⟨some 38, none, .slc false 1 (.t 36) (some (.t 37)) none none⟩, ⟨none, none, .clr 1 [.str []] (.t 38)⟩] none)
 (.seq (.reg [⟨some 39, none, .mov (.t 0)⟩, ⟨some 40, none, .mov (.t 5)⟩, ⟨some 41, none, .slc false 1 (.t 39) none (some (.t 40)) none⟩, ⟨some 4, none, .mov (.t 41)⟩] none)
 .ret))))))
theorem f352 : FnIs Tryz.prog 352 42 c352 [.tmp 4] := ⟨_, Tryz.func352, rfl, by kernel_rfl, rfl⟩
def c353 : AC := (.seq (.reg [⟨some 3, none, .mov (.c (.bool false))⟩] none)
 (.seq (.reg [⟨some 4, none, .load none (.t 1)⟩, ⟨some 5, none, .mov (.t 0)⟩, ⟨some 6, none, .call 351 [(.t 4), (.t 5)]⟩, ⟨some 3, none, .mov (.t 6)⟩] none)
 .ret))
theorem f353 : FnIs Tryz.prog 353 7 c353 [.tmp 3] := ⟨_, Tryz.func353, rfl, by kernel_rfl, rfl⟩
def c354 : AC := (.seq (.reg [⟨some 4, none, .load none (.t 1)⟩, ⟨some 5, none, .len false (.t 4)⟩, ⟨some 6, none, .bin .sub (.t 5) (.c (.int .i64 1))⟩, ⟨some 3, none, .mov (.t 6)⟩] none)
 (.block 0 (.loop (.seq (.seq (.reg [⟨some 7, none, .mov (.t 3)⟩, ⟨some 8, none, .bin .geq (.t 7) (.c (.int .i64 0))⟩] none)
 (.cond (.t 8) .skip (.exit 0)))
 (.seq (.block 1 (.seq (.reg [⟨some 11, none, .mov (.t 0)⟩, ⟨some 12, none, .mov (.t 3)⟩, ⟨some 13, none, .load none (.t 1)⟩, ⟨some 14, none, .mov (.t 3)⟩, ⟨some 15, none, .iaddr 129 (.t 13) (.t 14)⟩, ⟨some 16, none, .load (some 129) (.t 15)⟩, ⟨some 17, none, .callv (.t 11) [(.t 12), (.t 16)]⟩, ⟨some 18, none, .un .not (.t 17)⟩] none)
 (.cond (.t 18) .ret .skip)))
 (.reg [⟨some 9, none, .mov (.t 3)⟩, ⟨some 10, none, .bin .sub (.t 9) (.c (.int .i64 1))⟩, ⟨some 3, none, .mov (.t 10)⟩] none))))))
theorem f354 : FnIs Tryz.prog 354 19 c354 [] := ⟨_, Tryz.func354, rfl, by kernel_rfl, rfl⟩
def c360 : AC := (.seq (.reg [⟨some 2, none, .mov (.c (.int .i64 0))⟩] none)
 (.seq (.reg [⟨some 3, none, .mov (.t 0)⟩, ⟨some 4, none, .conv (.toInt .i64) (.t 3)⟩, ⟨some 2, none, .mov (.t 4)⟩] none)
 .ret))
theorem f360 : FnIs Tryz.prog 360 5 c360 [.tmp 2] := ⟨_, Tryz.func360, rfl, by kernel_rfl, rfl⟩
def c361 : AC := (.seq (.reg [⟨some 2, none, .mov (.c (.int .i64 0))⟩] none)
 (.seq (.reg [⟨some 3, none, .mov (.t 0)⟩, ⟨some 4, none, .call 317 [(.t 3), (.c (.int .i64 1)), (.c (.clo (.func 360) [] []))]⟩, ⟨some 2, none, .mov (.t 4)⟩] none)
 .ret))
theorem f361 : FnIs Tryz.prog 361 5 c361 [.tmp 2] := ⟨_, Tryz.func361, rfl, by kernel_rfl, rfl⟩
def c362 : AC := (.seq (.reg [⟨some 2, none, .mov (.c (.int .i64 0))⟩] none)
 (.seq (.reg [⟨some 3, none, .mov (.t 0)⟩, ⟨some 4, none, .call 317 [(.t 3), (.c (.int .i64 2)), (.c (.clo (.func 360) [] []))]⟩, ⟨some 2, none, .mov (.t 4)⟩] none)
 .ret))
theorem f362 : FnIs Tryz.prog 362 5 c362 [.tmp 2] := ⟨_, Tryz.func362, rfl, by kernel_rfl, rfl⟩
def c363 : AC := (.seq (.reg [⟨some 2, none, .mov (.c (.int .i64 0))⟩] none)
 (.seq (.seq (.reg [⟨some 3, none, .mov (.t 0)⟩, ⟨some 4, none, .eqP false (.t 3) (.c (.sc (.pointer none)))⟩] none)
 (.cond (.t 4) (.seq (.reg [⟨some 2, none, .mov (.c (.int .i64 0))⟩] none)
 .ret) .skip))
 (.seq (.reg [⟨some 5, none, .mov (.t 0)⟩, ⟨some 6, none, .nilck (.t 5)⟩, ⟨some 7, none, .faddr 2 (.t 6)⟩, ⟨some 8, none, .load none (.t 7)⟩, ⟨some 2, none, .mov (.t 8)⟩] none)
 .ret)))
theorem f363 : FnIs Tryz.prog 363 9 c363 [.tmp 2] := ⟨_, Tryz.func363, rfl, by kernel_rfl, rfl⟩
def c364 : AC := (.seq (.reg [⟨some 2, none, .mov (.c (.bool false))⟩] none)
 (.seq (.reg [⟨some 3, none, .mov (.t 0)⟩, ⟨some 4, none, .eqP true (.t 3) (.c (.sc (.pointer none)))⟩, ⟨some 5, none, .mov (.t 4)⟩, ⟨some 6, some (5, true), .mov (.t 0)⟩, ⟨some 7, some (5, true), .nilck (.t 6)⟩, ⟨some 8, some (5, true), .faddr 0 (.t 7)⟩, ⟨some 9, some (5, true), .load none (.t 8)⟩, ⟨some 10, none, .pick (.t 5) (.t 9) (.c (.bool false))⟩, ⟨some 11, none, .mov (.t 10)⟩, ⟨some 12, some (11, true), .mov (.t 0)⟩, ⟨some 13, some (11, true), .nilck (.t 12)⟩, ⟨some 14, some (11, true), .faddr 3 (.t 13)⟩, ⟨some 15, some (11, true), .load none (.t 14)⟩, ⟨some 16, some (11, true), .bin .eql (.t 15) (.c (.int .i64 0))⟩, ⟨some 17, none, .pick (.t 11) (.t 16) (.c (.bool false))⟩, ⟨some 2, none, .mov (.t 17)⟩] none)
 .ret))
theorem f364 : FnIs Tryz.prog 364 18 c364 [.tmp 2] := ⟨_, Tryz.func364, rfl, by kernel_rfl, rfl⟩
def c365 : AC := (.seq (.reg [⟨some 6, none, .mov (.c (.int .u64 0))⟩, ⟨some 7, none, .mov (.c (.bool false))⟩] none)
 (.seq (.seq (.reg [⟨some 11, none, .mov (.t 0)⟩, ⟨some 12, none, .nilck (.t 11)⟩, ⟨some 13, none, .faddr 1 (.t 12)⟩, ⟨some 14, none, .load none (.t 13)⟩, ⟨some 15, none, .len false (.t 14)⟩, ⟨some 16, none, .mov (.t 1)⟩, ⟨some 17, none, .bin .sub (.t 15) (.t 16)⟩, ⟨some 18, none, .mov (.t 2)⟩, ⟨some 19, none, .bin .lss (.t 17) (.t 18)⟩] none)
 (.cond (.t 19) (.seq (.reg [⟨some 6, none, .mov (.c (.int .u64 0))⟩, ⟨some 7, none, .mov (.c (.bool false))⟩] none)
 .ret) .skip))
 (.seq (.reg [⟨some 8, none, .mov (.c (.int .u64 0))⟩] none)
 (.seq (.seq (.reg [⟨some 20, none, .mov (.t 0)⟩, ⟨some 21, none, .nilck (.t 20)⟩, ⟨some 22, none, .faddr 1 (.t 21)⟩, ⟨some 23, none, .load none (.t 22)⟩, ⟨some 24, none, .mov (.t 1)⟩, ⟨some 25, none, .mov (.t 1)⟩, ⟨some 26, none, .mov (.t 2)⟩, ⟨some 27, none, .bin .add (.t 25) (.t 26)⟩, ⟨some 28, none, .slc false 1 (.t 23) (some (.t 24)) (some (.t 27)) none⟩, ⟨some 29, none, .len false (.t 28)⟩, ⟨some 30, none, .mov (.c (.int .i64 0))⟩] none)
 (.block 0 (.loop (.seq (.reg [⟨some 31, none, .bin .lss (.t 30) (.t 29)⟩] none)
 (.seq (.cond (.t 31) .skip (.exit 0))
 (.seq (.block 1 (.seq (.reg [⟨some 32, none, .iaddr 1 (.t 28) (.t 30)⟩, ⟨some 33, none, .load none (.t 32)⟩, ⟨some 10, none, .mov (.t 33)⟩] none)
 (.reg [⟨some 34, none, .mov (.t 8)⟩, ⟨some 35, none, .bin .shl (.t 34) (.c (.int .u64 8))⟩, ⟨some 36, none, .mov (.t 10)⟩, ⟨some 37, none, .conv (.toInt .u64) (.t 36)⟩, ⟨some 38, none, .bin .or (.t 35) (.t 37)⟩, ⟨some 8, none, .mov (.t 38)⟩] none)))
 (.reg [⟨some 39, none, .bin .add (.t 30) (.c (.int .i64 1))⟩, ⟨some 30, none, .mov (.t 39)⟩] none)))))))
 (.seq (.reg [⟨some 40, none, .mov (.t 8)⟩, ⟨some 6, none, .mov (.t 40)⟩, ⟨some 7, none, .mov (.c (.bool true))⟩] none)
 .ret)))))
theorem f365 : FnIs Tryz.prog 365 41 c365 [.tmp 6, .tmp 7] := ⟨_, Tryz.func365, rfl, by kernel_rfl, rfl⟩
def c369 : AC := (.seq (.reg [⟨some 10, none, .load none (.t 1)⟩, ⟨some 11, none, .nilck (.t 10)⟩, ⟨some 12, none, .faddr 0 (.t 11)⟩, ⟨some 13, none, .load none (.t 12)⟩, ⟨some 14, none, .load none (.t 2)⟩, ⟨some 15, none, .call 207 [(.t 13), (.t 14)]⟩, ⟨some 9, none, .mov (.t 15)⟩, ⟨some 16, none, .ext (.t 9) 0⟩, ⟨some 17, none, .ext (.t 9) 1⟩, ⟨some 5, none, .mov (.t 16)⟩, ⟨some 6, none, .mov (.t 17)⟩] (some [(0, 4), (3, 4)]))
 (.seq (.reg [⟨some 18, none, .load none (.t 1)⟩, ⟨some 19, none, .nilck (.t 18)⟩, ⟨some 20, none, .faddr 0 (.t 19)⟩, ⟨some 21, none, .load none (.t 20)⟩, ⟨some 22, none, .mov (.t 5)⟩, ⟨some 23, none, .slc false 1 (.t 21) (some (.t 22)) none none⟩, ⟨some 24, none, .len false (.t 23)⟩, ⟨some 25, none, .mov (.c (.int .i64 0))⟩] none)
 (.block 0 (.loop (.seq (.reg [⟨some 26, none, .bin .lss (.t 25) (.t 24)⟩] none)
 (.seq (.cond (.t 26) .skip (.exit 0))
 (.seq (.block 1 (.seq (.reg [⟨some 27, none, .iaddr 1 (.t 23) (.t 25)⟩, ⟨some 28, none, .load none (.t 27)⟩, ⟨some 8, none, .mov (.t 28)⟩] none)
 (.seq (.reg [⟨some 29, none, .load none (.t 3)⟩, ⟨some 30, none, .bin .neq (.t 29) (.c (.str []))⟩, ⟨some 31, none, .mov (.t 30)⟩, ⟨some 32, some (31, true), .mov (.t 8)⟩, ⟨some 33, some (31, true), .load none (.t 3)⟩, ⟨some 34, some (31, true), .bin .geq (.t 32) (.t 33)⟩, ⟨some 35, none, .pick (.t 31) (.t 34) (.c (.bool false))⟩, ⟨some 36, none, .mov (.t 35)⟩, ⟨some 37, some (36, false), .mov (.t 0)⟩, ⟨some 38, some (36, false), .mov (.t 8)⟩, ⟨some 39, some (36, false), .callv (.t 37) [(.t 38)]⟩, ⟨some 40, some (36, false), .un .not (.t 39)⟩, ⟨some 41, none, .pick (.t 36) (.c (.bool true)) (.t 40)⟩] none)
 (.cond (.t 41) .ret .skip))))
 (.reg [⟨some 42, none, .bin .add (.t 25) (.c (.int .i64 1))⟩, ⟨some 25, none, .mov (.t 42)⟩] none))))))))
theorem f369 : FnIs Tryz.prog 369 43 c369 [] := ⟨_, Tryz.func369, rfl, by kernel_rfl, rfl⟩
def c370 : AC := (.seq (.reg [⟨some 4, none, .mov (.c (.int .i64 0))⟩] none)
 (.seq (.seq (.reg [⟨some 6, none, .mov (.t 0)⟩, ⟨some 7, none, .len false (.t 6)⟩, ⟨some 8, none, .mov (.c (.int .i64 0))⟩] none)
 (.block 0 (.loop (.seq (.reg [⟨some 9, none, .bin .lss (.t 8) (.t 7)⟩] none)
 (.seq (.cond (.t 9) .skip (.exit 0))
 (.seq (.block 1 (.seq (.reg [⟨some 10, none, .mov (.t 8)⟩, ⟨some 5, none, .mov (.t 10)⟩] none)
 (.seq (.reg [⟨some 11, none, .mov (.t 1)⟩, ⟨some 12, none, .mov (.t 0)⟩, ⟨some 13, none, .mov (.t 5)⟩, ⟨some 14, none, .iaddr 2 (.t 12) (.t 13)⟩, ⟨some 15, none, .load (some 2) (.t 14)⟩, ⟨some 16, none, .callv (.t 11) [(.t 15)]⟩] none)
 (.cond (.t 16) (.seq (.reg [⟨some 17, none, .mov (.t 5)⟩, ⟨some 4, none, .mov (.t 17)⟩] none)
 .ret) .skip))))
 (.reg [⟨some 18, none, .bin .add (.t 8) (.c (.int .i64 1))⟩, ⟨some 8, none, .mov (.t 18)⟩] none)))))))
 (.seq (.reg [⟨some 4, none, .mov (.c (.int .i64 (-1)))⟩] none)
 .ret)))
theorem f370 : FnIs Tryz.prog 370 19 c370 [.tmp 4] := ⟨_, Tryz.func370, rfl, by kernel_rfl, rfl⟩
end Go.Proofs.YtehhdhadmapplaaGreat.C

end
section
set_option linter.unusedVariables false
set_option linter.unusedSimpArgs false
namespace Go.Av
section
variable {P : Program} {N : Nat}
def PanCalls (P : Program) (f : FuncId) (args : List AV) (h : H) (v : Value) (h' : H) : Prop :=
  ∀ G w vs, VRels G w args vs → RepH G h w → Fresh G h h' → Calls P f vs.toArray w fun e w' => ∃ G', e = .panicked [{ v := v, recovered := false }] ∧ Trans G w h G' w' h' ∧ RepH G' h' w'
theorem upon_pan {o : Oper} {f : FuncId} {vals : List AV} {h1 h1' : H} {v : Value} (hc : PanCalls P f vals h1 v h1') {G : Ghost} {w : World} {a : Act} {vs : List Value} (hv : VRels G w vals vs) (R : RepH G h1 w) (F : Fresh G h1 h1') {K : Act → World → Prop} {Q : Exit → Act → World → Prop} {ro : Option Nat} (hd : ∀ c, o.op ≠ .defer c)
    (hK : ∀ G' w', Trans G w h1 G' w' h1' → RepH G' h1' w' → Q (.panic [{ v := v, recovered := false }]) a w') (hrun : (execOp a.eval o).run P w = .ok (.enter f vs.toArray) w) : o.wpIn (rd ro) 0 P a w K Q := by
  refine ⟨fun _ _ => trivial, ?_⟩
  rw [Oper.semAt_eq _ _ _ hd, hrun, Oper.uponIn_enter]
  refine ⟨fun h => by simp [rd, Fence.wide] at h, callsIn_rd ?_⟩
  refine (hc G w vs hv R F).mono ?_
  rintro e w' ⟨G', rfl, T, R'⟩
  exact hK G' w' T R'
theorem panrun_call {ops : Array Oper} {i : Nat} {o : Oper} {it : AItem} {t : Tm} {f : FuncId} {l : List Opd} {vals : List AV} {h1 h1' : H} {v : Value} (ho : ops[i]? = some o) (hit : cItem P N ops o = some it) (hg : guardOf t it.guard = some true) (hop : it.op = .call f l)
    (hs : VSubs (l.map (ev t)) vals) (hc : PanCalls P f vals h1 v h1') : PanRun P ops i o t h1 v h1' := by
  unfold cItem at hit
  split at hit
  · rename_i op g hcop hgd
    split at hit <;> cases hit
    rename_i hcond
    simp only [Bool.and_eq_true] at hcond
    simp only at hop
    subst hop
    have hcop := cOpD_of hcop (by simp) rfl
    obtain ⟨c, fn, e1, e2, e3, e4, e5, e6⟩ := cOp_call hcop
    intro G w a ht R F K Q hK ro
    unfold wpOpIn
    rw [ho]
    simp only [guard_wanted hgd ht hg, if_true]
    have rr := opds_rel (P := P) (cut_rel ht) e3
    have el : l.map (ev (cutTo (names ops o) t)) = l.map (ev t) := List.map_congr_left fun x hx => cut_ev hcond.2 x (by simpa [opdsOf] using hx)
    rw [el] at rr
    refine upon_pan hc (hs G w _ rr) R F (cOp_plain hcop) hK ?_
    have hargs : (c.args.map a.eval) = (c.args.toList.map a.eval).toArray := by cases c.args; simp
    simp [execOp, e1, resolve, e2, Act.eval, Deferred.ofValue, invoke, hargs, run_callFunc w e4 e5 e6]
  · cases hit
theorem panrun_callv {ops : Array Oper} {i : Nat} {o : Oper} {it : AItem} {t : Tm} {f : FuncId} {fn : Func} {y : Opd} {l : List Opd} {first caps vals : List AV} {h1 h1' : H} {v : Value} (ho : ops[i]? = some o) (hit : cItem P N ops o = some it) (hg : guardOf t it.guard = some true) (hop : it.op = .callv y l)
    (hy : ev t y = .clo (.func f) first caps) (hf : P.funcs[f]? = some fn) (hb : fn.body.isSome = true) (hn : fn.name ≠ "runtime.NumGoroutine")
    (hs : VSubs (first ++ l.map (ev t) ++ caps) vals) (hc : PanCalls P f vals h1 v h1') : PanRun P ops i o t h1 v h1' := by
  unfold cItem at hit
  split at hit
  · rename_i op g hcop hgd
    split at hit <;> cases hit
    rename_i hcond
    simp only [Bool.and_eq_true] at hcond
    simp only at hop
    subst hop
    have hcop := cOpD_of hcop (by simp) rfl
    obtain ⟨c, z, e1, e2, e3, e4⟩ := cOp_callv hcop
    intro G w a ht R F K Q hK ro
    unfold wpOpIn
    rw [ho]
    simp only [guard_wanted hgd ht hg, if_true]
    have rr := opds_rel (P := P) (cut_rel ht) e4
    have rz := opd_rel (P := P) e3 (cut_rel ht)
    have hcut := cut_ev (t := t) hcond.2
    have el : l.map (ev (cutTo (names ops o) t)) = l.map (ev t) := List.map_congr_left fun x hx => hcut x (by simp [opdsOf, hx])
    rw [el] at rr
    rw [hcut y (by simp [opdsOf]), hy] at rz
    simp only [VRel] at rz
    obtain ⟨vs, us, q1, q2, q3⟩ := rz
    refine upon_pan hc (hs G w _ ((q2.append rr).append q3)) R F (cOp_plain hcop) hK ?_
    have hargs : (c.args.map a.eval) = (c.args.toList.map a.eval).toArray := by cases c.args; simp
    simp [execOp, e1, resolve, e2, q1, Deferred.ofValue, invoke, hargs, run_callFunc w hf hb hn]
  · cases hit
theorem cOp_pan {o : Oper} {y : Opd} (h : cOp P o = some (.pan y)) : ∃ x, o.op = .panic x ∧ opd P 0 x = some y := by
  unfold cOp at h
  split at h
  all_goals first
    | (cases h; done)
    | (simp only [Option.map_eq_some_iff, AOp.pan.injEq] at h; obtain ⟨a, h1, rfl⟩ := h; exact ⟨_, ‹_›, h1⟩)
    | (simp at h; done)
    | ((repeat' split at h) <;> (try cases h) <;> (try simp at h) ; done)
    | skip
theorem panrun_pan {ops : Array Oper} {i : Nat} {o : Oper} {it : AItem} {t : Tm} {y : Opd} {ty : TypeId} {k : IntKind} {z : Int} {n m : Nat} (ho : ops[i]? = some o) (hit : cItem P N ops o = some it) (hg : guardOf t it.guard = some true) (hop : it.op = .pan y)
    (hy : ev t y = .ifc ty (.int k z)) : PanRun P ops i o t (H0 n m) (.iface ty (.int k z)) (H0 n m) := by
  unfold cItem at hit
  split at hit
  · rename_i op g hcop hgd
    split at hit <;> cases hit
    rename_i hcond
    simp only [Bool.and_eq_true] at hcond
    simp only at hop
    subst hop
    have hcop := cOpD_of hcop (by simp) rfl
    obtain ⟨x, e1, e2⟩ := cOp_pan hcop
    intro G w a ht R F K Q hK ro
    unfold wpOpIn
    rw [ho]
    simp only [guard_wanted hgd ht hg, if_true]
    have rz := opd_rel (P := P) e2 (cut_rel ht)
    rw [cut_ev (t := t) hcond.2 y (by simp [opdsOf]), hy] at rz
    simp only [VRel] at rz
    obtain ⟨u, q1, q2⟩ := rz
    subst q2
    refine ⟨fun _ _ => trivial, ?_⟩
    have hrun : (execOp a.eval o).run P w = .halt (.panic (.iface ty (.int k z))) w := by
      simp [execOp, e1, q1, run_panic_iface]
    rw [Oper.semAt_eq _ _ _ (cOp_plain hcop), hrun, Oper.uponIn_panic]
    exact hK G w (Trans.refl _ _ _) R
  · cases hit
theorem ChainD.congr {ops : Array Oper} {D D' : Nat → Bool} {i : Nat} {recs : List Rec} {t t' : Tm} {h h' : H} (hc : ChainD P ops D i recs t h t' h') (hD : ∀ k, i ≤ k → D' k = D k) : ChainD P ops D' i recs t h t' h' := by
  induction hc with
  | nil hi => exact .nil hi
  | @cons i o r rs t t' h h' ho e1 e2 tc run rest ih => exact .cons ho e1 e2 tc (fun hf => run (by rw [← hD i (Nat.le_refl _)]; exact hf)) (ih fun k hk => hD k (by omega))
theorem chain_seqP (ro : Option Nat) {ops : Array Oper} {D : Nat → Bool} {j : Nat} {rj : Rec} {oj : Oper} {v : Value} {Q : Exit → Act → World → Prop} (hN : ∀ (i : Nat) o d, ops[i]? = some o → o.dst = some d → d < N) (hoj : ops[j]? = some oj) (hpan : PanRun P ops j oj rj.t rj.h1 v rj.h1') (hDj : D j = true) (hDk : ∀ k, D k = true → j ≤ k) :
    ∀ {i : Nat} {recs : List Rec} {t t' : Tm} {h h' : H}, i ≤ j → ChainD P ops D i recs t h t' h' → recs[j - i]? = some rj →
    ∀ (G : Ghost) (w : World) (a : Act), a.tmps.size = N → TRel G w t a → RepH G h w → Fresh G h h' →
      (∀ G' w' a', Trans G w h G' w' { rj.h' with n := h'.n, m := h'.m } → RepH G' { rj.h' with n := h'.n, m := h'.m } w' → a'.tmps.size = N → a'.defers = a.defers → Q (.panic [{ v := v, recovered := false }]) a' w') → wpOpsIn (rd ro) 0 P ops Q (List.range' i (ops.size - i)) a w := by
  intro i recs t t' h h' hij hc
  induction hc with
  | nil hi =>
    intro hr
    simp at hr
  | @cons i o r rs t t' h h' ho e1 e2 tc run rest ih =>
    intro hr G w a hs ht R U hq
    have hi : i < ops.size := (Array.getElem?_eq_some_iff.1 ho).1
    have : ops.size - i = (ops.size - (i + 1)) + 1 := by omega
    rw [this, List.range'_succ, wpOpsIn_cons]
    have nm := (chain_nm rest).1
    have e3 : r.h'.n = r.h1'.n := by rw [tc.eq]; rfl
    have e4 : r.h'.m = r.h1'.m := by rw [tc.eq]; rfl
    have F : Fresh G r.h1 r.h1' := U.sub (by rw [tc.n]; exact Nat.le_refl _) (by omega) (by rw [tc.m]; exact Nat.le_refl _) (by omega)
    by_cases hji : i = j
    · subst hji
      simp at hr
      subst hr
      rw [hoj] at ho; cases ho
      refine hpan G w a (fun k _ => by rw [e1]; exact ht k) (R.sub tc.sub) F _ Q (fun G' w' T1 R1 => ?_) ro
      obtain ⟨R2, T2⟩ := frame R tc.sub tc.n tc.m R1 T1 F
      rw [← tc.eq] at R2 T2
      refine hq G' w' a ?_ (R2.same rfl fun _ x => x) hs rfl
      exact T2.same rfl (fun _ => Iff.rfl) rfl (fun _ => Iff.rfl) (Nat.le_refl _) nm.1 (Nat.le_trans T2.n_le nm.1) (Nat.le_refl _) nm.2 (Nat.le_trans T2.m_le nm.2)
    · have hDi : D i = false := by
        cases hd : D i with
        | false => rfl
        | true => have := hDk i hd; omega
      refine run hDi G w a (fun k _ => ht k) (R.sub tc.sub) F _ Q (fun G' w' v T1 R1 V => ?_) ro
      obtain ⟨R2, T2⟩ := frame R tc.sub tc.n tc.m R1 T1 F
      rw [← tc.eq] at R2 T2
      refine ih (by omega) (by rw [show j - i = (j - (i + 1)) + 1 by omega] at hr; simpa using hr) G' w' _ (by rw [put_size]; exact hs) (put_rel (ht.mono R T2) V fun k hk => by rw [hs]; exact hN i o k ho hk) R2 (U.step T2) fun G'' w'' a'' T3 h2 h3 h4 => ?_
      exact hq G'' w'' a'' (T2.trans R R2 T3) h2 h3 (h4.trans (put_defers _ _ _))
def deadB (l : List (Nat × Nat)) (j k : Nat) (ds : List Nat) (it : AItem) : Bool :=
  (touchy it.op && !l.contains (j, k)) || (tmpsOf (opdsOf it.op)).any ds.contains || (match it.guard with | some (d, _) => ds.contains d | none => false)
def quietOp : AOp → Bool
  | .load _ _ => true
  | op => !touchy op
def restP (l : List (Nat × Nat)) (j : Nat) : List AItem → Nat → List Nat → Tm → H → Option (List Ent)
  | [], _, _, _, _ => some []
  | it :: its, k, ds, t, h =>
    if deadB l j k ds it then (restP l j its (k + 1) (it.dst.toList ++ ds) (putT t it.dst .any) h).map (ent0 :: ·)
    else match guardOf t it.guard with
      | some false => (restP l j its (k + 1) ds (putT t it.dst (.sc undef)) h).map (ent0 :: ·)
      | some true => if quietOp it.op then (match aop (ev t) h it.op with
        | some (x, _, en) => (restP l j its (k + 1) ds (putT t it.dst x) h).map (en :: ·)
        | none => none) else none
      | none => none
def stillE (e : Ent) : Bool := e.wr.isEmpty && e.tk.isEmpty
theorem aop_quiet {ρ : Opd → AV} {h h' : H} {op : AOp} {x : AV} {en : Ent} (ht : quietOp op = true) (hx : aop ρ h op = some (x, h', en)) : h' = h ∧ en.wr = [] ∧ en.tk = [] ∧ (touchy op = false → en = ent0) := by
  cases op <;> simp [quietOp, touchy] at ht <;> simp only [aop] at hx <;> first
    | (simp only [Option.some.injEq, Prod.mk.injEq] at hx; obtain ⟨-, rfl, rfl⟩ := hx; exact ⟨rfl, rfl, rfl, fun _ => rfl⟩)
    | (simp only [Option.map_eq_some_iff, Prod.mk.injEq] at hx; obtain ⟨_, _, _, rfl, rfl⟩ := hx; exact ⟨rfl, rfl, rfl, fun _ => rfl⟩)
    | ((repeat' split at hx) <;> (first | (cases hx; done) | (cases hx; first | exact ⟨rfl, rfl, rfl, fun _ => rfl⟩ | exact ⟨rfl, rfl, rfl, fun h => by simp [touchy] at h⟩) | (simp only [Option.map_eq_some_iff, Prod.mk.injEq] at hx; obtain ⟨_, _, _, rfl, rfl⟩ := hx; first | exact ⟨rfl, rfl, rfl, fun _ => rfl⟩ | exact ⟨rfl, rfl, rfl, fun h => by simp [touchy] at h⟩) | skip))
  all_goals simp_all
def PairsMean (P : Program) (N : Nat) (ops : Array Oper) (l : List (Nat × Nat)) : Prop :=
  ∀ (a b : Nat) oa ob ia ib, a < b → ops[a]? = some oa → ops[b]? = some ob → cItem P N ops oa = some ia → cItem P N ops ob = some ib → touchy ia.op = true → touchy ib.op = true → (a, b) ∉ l → isAnc ops a b = true
theorem rest_ok {l : List (Nat × Nat)} {j : Nat} {ops : Array Oper} {itj : AItem} {oj : Oper} (hoj : ops[j]? = some oj) (hij : cItem P N ops oj = some itj) (htj : touchy itj.op = true) :
    ∀ (its : List AItem) (k : Nat) (ds : List Nat) (t : Tm) (h : H) (ents : List Ent), restP l j its k ds t h = some ents → j < k → k ≤ ops.size → cItems P N ops (ops.toList.drop k) = some its →
    ∃ (D : Nat → Bool) (recs : List Rec) (t' : Tm) (h' : H), ChainD P ops D k recs t h t' h' ∧ h' = h ∧ recs.map (·.en) = ents ∧ (∀ i, D i = true → k ≤ i) ∧
      (∀ (i : Nat) r it, recs[i]? = some r → its[i]? = some it → touchy it.op = false → r.en = ent0) ∧
      (Tidy ops → PairsMean P N ops l → ∀ (E : Nat → Bool), (∀ d ∈ ds, ∃ k' o', k' < k ∧ ops[k']? = some o' ∧ o'.dst = some d ∧ E k' = true) → E j = true → (∀ i, k ≤ i → D i = true → E i = true) → ∀ i, D i = true → ∃ k', E k' = true ∧ isAnc ops k' i = true)
  | [], k, ds, t, h, ents, he, hjk, hk, hc => by
    simp only [restP, Option.some.injEq] at he
    subst he
    have : k = ops.size := by
      cases hd : ops.toList.drop k with
      | nil => have := List.drop_eq_nil_iff.1 hd; simp at this; omega
      | cons o l =>
        rw [hd] at hc
        simp only [cItems] at hc
        split at hc <;> simp at hc
    exact ⟨fun _ => false, [], t, h, .nil this, rfl, rfl, fun i h => by (cases h), by simp, fun _ _ _ _ _ _ i h => by (cases h)⟩
  | it :: its, k, ds, t, h, ents, he, hjk, hk, hc => by
    obtain ⟨o, ho, hit, hk', hc'⟩ := items_cons hk hc
    have hdst : it.dst = o.dst := by
      unfold cItem at hit
      split at hit
      · split at hit <;> cases hit; rfl
      · cases hit
    have hsub : (tmpsOf (opdsOf it.op)).all (fun i => (names ops o).contains i) = true ∧ cGuard ops o.guard = some it.guard := by
      unfold cItem at hit
      split at hit
      · rename_i hg
        split at hit <;> cases hit
        rename_i hcond
        simp only [Bool.and_eq_true] at hcond
        exact ⟨hcond.2, hg⟩
      · cases hit
    simp only [restP] at he
    split at he
    · rename_i hdead
      simp only [Option.map_eq_some_iff] at he
      obtain ⟨es, he, rfl⟩ := he
      obtain ⟨D, recs, t', h', ch, hh, hr, hD, hE0, hX⟩ := rest_ok hoj hij htj its (k + 1) _ _ h es he (by omega) hk' hc'
      have hDk : D k = false := by
        cases hd : D k with
        | false => rfl
        | true => have := hD k hd; omega
      refine ⟨fun i => D i || i == k, ⟨t, h, H0 h.n h.m, H0 h.n h.m, h, .any, ent0⟩ :: recs, t', h', ?_, hh, by simp [hr], ?_, ?_, ?_⟩
      · refine .cons ho rfl rfl (touch_none h) (fun hf => by simp at hf) ?_
        rw [← hdst]
        exact ch.congr fun i hi => by
          have : (i == k) = false := by simp; omega
          simp [this]
      · intro i hi
        simp only [Bool.or_eq_true, beq_iff_eq] at hi
        rcases hi with hi | hi
        · have := hD i hi; omega
        · omega
      · intro i r it' hri hiti ht
        cases i with
        | zero => simp at hri; subst hri; rfl
        | succ i => simp at hri hiti; exact hE0 i r it' hri hiti ht
      · intro T M E hds hEj hDE i hi
        simp only [Bool.or_eq_true, beq_iff_eq] at hi
        have hEk : E k = true := hDE k (Nat.le_refl _) (by simp)
        rcases hi with hi | hi
        · refine hX T M E ?_ hEj (fun i h1 h2 => hDE i (by omega) (by simp [h2])) i hi
          intro d hd
          simp only [List.mem_append, Option.mem_toList] at hd
          rcases hd with hd | hd
          · exact ⟨k, o, by omega, ho, by rw [← hdst]; exact hd, hEk⟩
          · obtain ⟨k', o', h1, h2⟩ := hds d hd
            exact ⟨k', o', by omega, h2⟩
        · subst hi
          unfold deadB at hdead
          simp only [Bool.or_eq_true, Bool.and_eq_true, Bool.not_eq_true', List.any_eq_true] at hdead
          have byname : ∀ d, d ∈ ds → d ∈ names ops o → ∃ k', E k' = true ∧ isAnc ops k' i = true := by
            intro d hd hn
            obtain ⟨k', o', h1, h2, h3, h4⟩ := hds d hd
            refine ⟨k', h4, ?_⟩
            rcases T.tmp k' i o' o h2 ho (by omega) d h3 hn with h | h
            · exact h
            · have := anc_lt T k' _ h2 h; omega
          rcases hdead with (⟨h1, h2⟩ | ⟨d, h1, h2⟩) | h1
          · exact ⟨j, hEj, M j i oj o itj it hjk hoj ho hij hit htj h1 (by simpa using h2)⟩
          · have := List.all_eq_true.1 hsub.1 d h1
            exact byname d (by simpa using h2) (by simpa using this)
          · split at h1
            · rename_i d w hg
              refine byname d (by simpa using h1) ?_
              have hg2 := hsub.2
              rw [hg] at hg2
              unfold cGuard at hg2
              split at hg2
              · cases hg2
              · rename_i j' w' hog
                split at hg2
                · rename_i d' hd'
                  cases hg2
                  simp only [names, hog, List.mem_append]
                  right
                  simp [hd']
                · cases hg2
            · cases h1
    · split at he
      · rename_i hg
        simp only [Option.map_eq_some_iff] at he
        obtain ⟨es, he, rfl⟩ := he
        obtain ⟨D, recs, t', h', ch, hh, hr, hD, hE0, hX⟩ := rest_ok hoj hij htj its (k + 1) _ _ h es he (by omega) hk' hc'
        refine ⟨D, ⟨t, h, H0 h.n h.m, H0 h.n h.m, h, .sc undef, ent0⟩ :: recs, t', h', .cons ho rfl rfl (touch_none h) (fun _ => itrun_skip ho hit hg) (by rw [← hdst]; exact ch), hh, by simp [hr], fun i hi => by have := hD i hi; omega, ?_, ?_⟩
        · intro i r it' hri hiti ht
          cases i with
          | zero => simp at hri; subst hri; rfl
          | succ i => simp at hri hiti; exact hE0 i r it' hri hiti ht
        · intro T M E hds hEj hDE i hi
          exact hX T M E (fun d hd => by obtain ⟨k', o', h1, h2⟩ := hds d hd; exact ⟨k', o', by omega, h2⟩) hEj (fun i h1 h2 => hDE i (by omega) h2) i hi
      · rename_i hg
        split at he
        · rename_i hq
          split at he
          · rename_i x h2 en hx
            simp only [Option.map_eq_some_iff] at he
            obtain ⟨es, he, rfl⟩ := he
            obtain ⟨q1, q2, q3, q4⟩ := aop_quiet hq hx
            subst q1
            obtain ⟨h1, h1', tc, run⟩ := itrun_op ho hit hg hx
            obtain ⟨D, recs, t', h', ch, hh, hr, hD, hE0, hX⟩ := rest_ok hoj hij htj its (k + 1) _ _ _ es he (by omega) hk' hc'
            refine ⟨D, ⟨t, _, h1, h1', _, x, en⟩ :: recs, t', h', .cons ho rfl rfl tc (fun _ => run) (by rw [← hdst]; exact ch), hh, by simp [hr], fun i hi => by have := hD i hi; omega, ?_, ?_⟩
            · intro i r it' hri hiti ht
              cases i with
              | zero => simp at hri hiti; subst hri hiti; exact q4 ht
              | succ i => simp at hri hiti; exact hE0 i r it' hri hiti ht
            · intro T M E hds hEj hDE i hi
              exact hX T M E (fun d hd => by obtain ⟨k', o', h1, h2⟩ := hds d hd; exact ⟨k', o', by omega, h2⟩) hEj (fun i h1 h2 => hDE i (by omega) h2) i hi
          · cases he
        · cases he
      · cases he
theorem rest_none {ops : Array Oper} : ∀ (its : List AItem) (k : Nat) (t : Tm) (h : H), k ≤ ops.size → cItems P N ops (ops.toList.drop k) = some its → ∃ (recs : List Rec) (t' : Tm) (D : Nat → Bool), ChainD P ops D k recs t h t' h ∧ (∀ i, D i = true → k ≤ i) ∧ ∀ r ∈ recs, r.en = ent0
  | [], k, t, h, hk, hc => by
    have : k = ops.size := by
      cases hd : ops.toList.drop k with
      | nil => have := List.drop_eq_nil_iff.1 hd; simp at this; omega
      | cons o l =>
        rw [hd] at hc
        simp only [cItems] at hc
        split at hc <;> simp at hc
    exact ⟨[], t, fun _ => false, .nil this, fun i h => by (cases h), by simp⟩
  | it :: its, k, t, h, hk, hc => by
    obtain ⟨o, ho, hit, hk', hc'⟩ := items_cons hk hc
    obtain ⟨recs, t', D, ch, hD, he⟩ := rest_none its (k + 1) (putT t o.dst .any) h hk' hc'
    refine ⟨⟨t, h, H0 h.n h.m, H0 h.n h.m, h, .any, ent0⟩ :: recs, t', fun i => D i || i == k, .cons ho rfl rfl (touch_none h) (fun hf => by simp at hf) (ch.congr fun i hi => by
      have : (i == k) = false := by simp; omega
      simp [this]), fun i hi => ?_, ?_⟩
    · simp only [Bool.or_eq_true, beq_iff_eq] at hi
      rcases hi with hi | hi
      · have := hD i hi; omega
      · omega
    · intro r hr
      rcases List.mem_cons.1 hr with rfl | hr
      · rfl
      · exact he r hr
def panB (l : List (Nat × Nat)) (j : Nat) (log : List Ent) : Bool := l.all fun (a, b) => (!Nat.beq a j || stillE (log.getD b ent0)) && (!Nat.beq b j || stillE (log.getD a ent0))
def panP (l : List (Nat × Nat)) (j : Nat) (log : List Ent) (h' : H) : Prop := ∀ a b, (a, b) ∈ l → (a = j → (log.getD b ent0).tk = [] ∧ ∀ id ∈ (log.getD b ent0).wr, h'.objs id = none) ∧ (b = j → (log.getD a ent0).tk = [] ∧ (log.getD a ent0).wr = [])
theorem panB_P {l : List (Nat × Nat)} {j : Nat} {log : List Ent} {h' : H} (h : panB l j log = true) : panP l j log h' := by
  intro a b hab
  unfold panB at h
  rw [List.all_eq_true] at h
  have := h _ hab
  simp only [Bool.and_eq_true, Bool.or_eq_true, Bool.not_eq_true', stillE, List.isEmpty_iff] at this
  refine ⟨fun e => ?_, fun e => ?_⟩
  · subst e
    obtain ⟨h1, h2⟩ := this.1.resolve_left (by simp)
    exact ⟨h2, fun id hid => by rw [h1] at hid; cases hid⟩
  · subst e
    obtain ⟨h1, h2⟩ := this.2.resolve_left (by simp)
    exact ⟨h2, h1⟩
structure PanAt (P : Program) (N : Nat) (p : Option (List (Nat × Nat))) (ops : Array Oper) (i : Nat) (items : List AItem) (t : Tm) (h : H) (log : List Ent) (D : Nat → Bool) (recs : List Rec) (t' : Tm) (h' : H) (j : Nat) (rj : Rec) (oj : Oper) (itj : AItem) (v : Value) : Prop where
  ch : ChainD P ops D i recs t h t' h'
  hrj : recs[j - i]? = some rj
  ij : i ≤ j
  hoj : ops[j]? = some oj
  it : cItem P N ops oj = some itj
  tj : touchy itj.op = true
  run : PanRun P ops j oj rj.t rj.h1 v rj.h1'
  Dj : D j = true
  Dk : ∀ k, D k = true → j ≤ k
  e0 : ∀ (k : Nat) r it, recs[k]? = some r → items[k]? = some it → touchy it.op = false → r.en = ent0
  pairs : ∀ l, p = some l → (Tidy ops → PairsMean P N ops l → ∀ k, D k = true → k = j ∨ ∃ k', D k' = true ∧ isAnc ops k' k = true) ∧ pairsOk l (log.reverse ++ recs.map (·.en)) ∧ panP l j (log.reverse ++ recs.map (·.en)) rj.h'
def WpItemsP (P : Program) (N : Nat) (p : Option (List (Nat × Nat))) (items : List AItem) (t : Tm) (h : H) (log : List Ent) (R : Value → H → Prop) : Prop :=
  ∀ ops i, i ≤ ops.size → log.length = i → cItems P N ops (ops.toList.drop i) = some items →
    ∃ D recs t' h' j rj oj itj v, PanAt P N p ops i items t h log D recs t' h' j rj oj itj v ∧ R v { rj.h' with n := h'.n, m := h'.m }
theorem WpItemsP.step {p : Option (List (Nat × Nat))} {it : AItem} {its : List AItem} {t : Tm} {h h' h1 h1' : H} {x : AV} {en : Ent} {log : List Ent} {R : Value → H → Prop} (tc : Touch h h1 h1' h' en)
    (run : ∀ (ops : Array Oper) i o, ops[i]? = some o → cItem P N ops o = some it → ItRun P ops i o t h1 x h1') (hen : touchy it.op = false → en = ent0)
    (rest : WpItemsP P N p its (putT t it.dst x) h' (en :: log) R) : WpItemsP P N p (it :: its) t h log R := by
  intro ops i hi hl hc
  obtain ⟨o, ho, hit, hi', hc'⟩ := items_cons hi hc
  obtain ⟨D, recs, t', hh', j, rj, oj, itj, v, A, hR⟩ := rest ops (i + 1) hi' (by simp [hl]) hc'
  have hdst : it.dst = o.dst := by
    unfold cItem at hit
    split at hit
    · split at hit <;> cases hit; rfl
    · cases hit
  have hij := A.ij
  refine ⟨D, ⟨t, h, h1, h1', h', x, en⟩ :: recs, t', hh', j, rj, oj, itj, v, ⟨.cons ho rfl rfl tc (fun _ => run ops i o ho hit) (by rw [← hdst]; exact A.ch), ?_, by omega, A.hoj, A.it, A.tj, A.run, A.Dj, A.Dk, ?_, ?_⟩, hR⟩
  · have e := A.hrj
    rw [show j - i = (j - (i + 1)) + 1 by omega]
    simpa using e
  · intro k r it' hr hit' ht
    cases k with
    | zero => simp at hr hit'; subst hr hit'; exact hen ht
    | succ k => simp at hr hit'; exact A.e0 k r it' hr hit' ht
  · intro l hl'
    have := A.pairs l hl'
    simpa using this
theorem WpItemsP.here {p : Option (List (Nat × Nat))} {it : AItem} {its : List AItem} {t : Tm} {h h' h1 h1' : H} {v : Value} {en : Ent} {log : List Ent} {R : Value → H → Prop} (hj : touchy it.op = true) (tc : Touch h h1 h1' h' en)
    (run : ∀ (ops : Array Oper) i o, ops[i]? = some o → cItem P N ops o = some it → PanRun P ops i o t h1 v h1')
    (hr : ∀ l, p = some l → ∃ ents, restP l log.length its (log.length + 1) it.dst.toList (putT t it.dst .any) h' = some ents ∧ pairsOk l (log.reverse ++ en :: ents) ∧ panB l log.length (log.reverse ++ en :: ents) = true)
    (hq : R v h') : WpItemsP P N p (it :: its) t h log R := by
  intro ops i hi hl hc
  obtain ⟨o, ho, hit, hi', hc'⟩ := items_cons hi hc
  have hdst : it.dst = o.dst := by
    unfold cItem at hit
    split at hit
    · split at hit <;> cases hit; rfl
    · cases hit
  subst hl
  cases p with
  | none =>
    obtain ⟨recs, t', D, ch, hD, he⟩ := rest_none its (log.length + 1) (putT t o.dst .any) h' hi' hc'
    refine ⟨fun i => D i || i == log.length, ⟨t, h, h1, h1', h', .any, en⟩ :: recs, t', h', log.length, ⟨t, h, h1, h1', h', .any, en⟩, o, it, v, ⟨.cons ho rfl rfl tc (fun hf => by simp at hf) (ch.congr fun i hi => by
      have : (i == log.length) = false := by simp; omega
      simp [this]), by simp, Nat.le_refl _, ho, hit, hj, run ops _ o ho hit, by simp, ?_, ?_, by simp⟩, hq⟩
    · intro k hk
      simp only [Bool.or_eq_true, beq_iff_eq] at hk
      rcases hk with hk | hk
      · have := hD k hk; omega
      · omega
    · intro k r it' hr hit' ht
      cases k with
      | zero => simp at hr hit'; subst hr hit'; rw [hj] at ht; cases ht
      | succ k =>
        simp at hr
        exact he r (List.mem_of_getElem? hr)
  | some l =>
    obtain ⟨ents, hrest, hpk, hpb⟩ := hr l rfl
    obtain ⟨D, recs, t', h2, ch, rfl, hre, hD, hE0, hX⟩ := rest_ok ho hit hj its (log.length + 1) _ _ h' ents hrest (by omega) hi' hc'
    refine ⟨fun i => D i || i == log.length, ⟨t, h, h1, h1', h2, .any, en⟩ :: recs, t', h2, log.length, ⟨t, h, h1, h1', h2, .any, en⟩, o, it, v, ⟨.cons ho rfl rfl tc (fun hf => by simp at hf) (by
      rw [← hdst]
      exact ch.congr fun i hi => by
        have : (i == log.length) = false := by simp; omega
        simp [this]), by simp, Nat.le_refl _, ho, hit, hj, run ops _ o ho hit, by simp, ?_, ?_, ?_⟩, hq⟩
    · intro k hk
      simp only [Bool.or_eq_true, beq_iff_eq] at hk
      rcases hk with hk | hk
      · have := hD k hk; omega
      · omega
    · intro k r it' hr hit' ht
      cases k with
      | zero => simp at hr hit'; subst hr hit'; rw [hj] at ht; cases ht
      | succ k =>
        simp at hr hit'
        exact hE0 k r it' hr hit' ht
    · intro l' hl'
      cases hl'
      refine ⟨fun T M k hk => ?_, by simpa [hre] using hpk, panB_P (by simpa [hre] using hpb)⟩
      simp only [Bool.or_eq_true, beq_iff_eq] at hk
      rcases hk with hk | hk
      · right
        refine hX T M (fun i => D i || i == log.length) ?_ (by simp) (fun i _ h => by simp [h]) k hk
        intro d hd
        rw [Option.mem_toList] at hd
        exact ⟨log.length, o, by omega, ho, by rw [← hdst]; exact hd, by simp⟩
      · exact .inl hk
theorem Wp.regP {items : List AItem} {p : Option (List (Nat × Nat))} {s : St} {Q : AExit → St → Prop} (h : WpItemsP P N p items s.t s.h [] fun v h' => Q (.panic v) ⟨fun _ => .any, h'⟩) : Wp P N (.reg items p) s Q := by
  intro code hc
  obtain ⟨id, ops, draw, rfl, hi, hd⟩ := code_reg hc
  obtain ⟨D, recs, t', h', j, rj, oj, itj, v, A, hq⟩ := h ops 0 (Nat.zero_le _) rfl (by simpa using hi)
  have ch := A.ch
  have hrj : recs[j]? = some rj := by simpa using A.hrj
  obtain ⟨nm, nm2, -⟩ := chain_nm ch
  obtain ⟨cl, ci⟩ := cItems_len hi
  have hN : ∀ (i : Nat) o d, ops[i]? = some o → o.dst = some d → d < N := by
    intro i o d ho hdd
    have hlt : i < ops.size := (Array.getElem?_eq_some_iff.1 ho).1
    have hit : i < items.length := by rw [cl]; simpa using hlt
    have := ci i o items[i] (by simpa using ho) (List.getElem?_eq_getElem hit)
    generalize items[i] = it at this
    unfold cItem at this
    split at this
    · split at this <;> cases this
      rename_i hcond
      simp only [Bool.and_eq_true] at hcond
      have := hcond.1
      rw [hdd] at this
      simpa using this
    · cases this
  refine ⟨.panic v, _, ⟨nm, fun ro okc G w a r F => ?_⟩, hq⟩
  rcases hd with ⟨rfl, rfl⟩ | ⟨rfl, hm, ht, rfl⟩
  · refine wpIn_region ?_
    rw [List.range_eq_range']
    have := chain_seqP ro (Q := fun e' a' w' => (AExit.panic v).says e' ∧ NewM w a.defers a'.defers ∧ ∃ G', Trans G w s.h G' w' { rj.h' with n := h'.n, m := h'.m } ∧ Rel N ⟨fun _ => .any, { rj.h' with n := h'.n, m := h'.m }⟩ G' w' a') hN A.hoj A.run A.Dj A.Dk (Nat.zero_le j) ch (by simpa using A.hrj) G w a r.size r.t r.h F
      (fun G' w' a' T1 R1 s1 d1 => ⟨rfl, by rw [d1]; exact .refl, G', T1, ⟨s1, fun _ => by simp [VRel], R1, by rw [d1]; exact r.df.mono T1⟩⟩)
    simpa using this
  · obtain ⟨pD, pk, pb⟩ := A.pairs _ rfl
    simp only [List.reverse_nil, List.nil_append] at pk pb
    refine wpIn_region_any hm ?_
    obtain ⟨a1, a2, -⟩ := chain_facts ch
    rw [Nat.zero_add] at a1
    have ap : ∀ i j, i < j → j < ops.size → isAnc ops i j = false → apart (recs.getD i rec0).en (recs.getD j rec0).en := by
      intro i j hij hj hanc
      have hir : i < recs.length := by omega
      have hjr : j < recs.length := by omega
      have hii : i < items.length := by rw [cl]; simp; omega
      have hjj : j < items.length := by rw [cl]; simp; omega
      have ei : (recs.getD i rec0).en = (recs.map (·.en)).getD i ent0 := by simp [List.getD, List.getElem?_eq_getElem hir]
      have ej : (recs.getD j rec0).en = (recs.map (·.en)).getD j ent0 := by simp [List.getD, List.getElem?_eq_getElem hjr]
      have gi : (recs.getD i rec0) = recs[i] := by simp [List.getD, List.getElem?_eq_getElem hir]
      have gj : (recs.getD j rec0) = recs[j] := by simp [List.getD, List.getElem?_eq_getElem hjr]
      by_cases ti : touchy items[i].op = true
      · by_cases tj : touchy items[j].op = true
        · rw [ei, ej]
          refine pairsOk_mem pk ?_
          unfold pairsOf
          simp only [List.mem_flatMap, List.mem_range, List.mem_filterMap]
          refine ⟨j, hj, i, hij, ?_⟩
          unfold isAnc at hanc
          simp [List.getElem?_eq_getElem hii, List.getElem?_eq_getElem hjj, ti, tj]
          simpa using hanc
        · rw [gj, A.e0 j _ _ (List.getElem?_eq_getElem hjr) (List.getElem?_eq_getElem hjj) (by simpa using tj)]
          exact (apart_ent0 _).2
      · rw [gi, A.e0 i _ _ (List.getElem?_eq_getElem hir) (List.getElem?_eq_getElem hii) (by simpa using ti)]
        exact (apart_ent0 _).1
    have hjs : j < ops.size := (Array.getElem?_eq_some_iff.1 A.hoj).1
    have itemAt : ∀ (k : Nat) (o : Oper), ops[k]? = some o → ∃ it, items[k]? = some it ∧ cItem P N ops o = some it := by
      intro k o ho
      have hlt : k < ops.size := (Array.getElem?_eq_some_iff.1 ho).1
      have hit : k < items.length := by rw [cl]; simpa using hlt
      exact ⟨_, List.getElem?_eq_getElem hit, ci k o items[k] (by simpa using ho) (List.getElem?_eq_getElem hit)⟩
    have inPairs : ∀ (a b : Nat) oa ob ia ib, a < b → ops[a]? = some oa → ops[b]? = some ob → cItem P N ops oa = some ia → cItem P N ops ob = some ib → touchy ia.op = true → touchy ib.op = true → isAnc ops a b = false → (a, b) ∈ pairsOf ops items := by
      intro a b oa ob ia ib hab hoa hob hia hib ta tb hanc
      obtain ⟨ia', p1, p2⟩ := itemAt a oa hoa
      obtain ⟨ib', p3, p4⟩ := itemAt b ob hob
      rw [hia] at p2; rw [hib] at p4
      cases p2; cases p4
      unfold pairsOf
      simp only [List.mem_flatMap, List.mem_range, List.mem_filterMap]
      refine ⟨b, (Array.getElem?_eq_some_iff.1 hob).1, a, hab, ?_⟩
      unfold isAnc at hanc
      simp [p1, p3, ta, tb]
      simpa using hanc
    have M : PairsMean P N ops (pairsOf ops items) := by
      intro a b oa ob ia ib hab hoa hob hia hib ta tb hn
      cases hanc : isAnc ops a b with
      | true => rfl
      | false => exact absurd (inPairs a b oa ob ia ib hab hoa hob hia hib ta tb hanc) hn
    have T := tidy_ok ht
    have pD := pD T M
    let w1 : World := { w with drawn := w.drawn + 1 }
    have hz : ∀ k, (Array.replicate ops.size false).getD k false = false := by intro k; simp [Array.getElem?_replicate]; split <;> rfl
    have hz' : (fun k => (Array.replicate ops.size false).getD k false) = fun _ => false := funext hz
    have vz : ∀ {β : Type} (u : Nat → Option β) (n : Nat) (v : β), val u (fun _ => false) n v = v := by
      intro β u n v
      induction n with
      | zero => rfl
      | succ n ih => simp only [val, Bool.false_eq_true, if_false, ih]
    have R1 : RepH G s.h w1 := r.h.draw rfl rfl rfl
    have hk : ∀ t, t ∈ (HS recs s.h ops.size h'.n h'.m (fun _ => false)).toks ↔ t ∈ s.h.toks := by
      intro t; rw [mem_HS a1.symm, vz]; simp
    have ho : (HS recs s.h ops.size h'.n h'.m (fun _ => false)).objs = s.h.objs := by
      funext id; simp only [HS]; rw [vz]
    have T01 := trans_draw G w w1 s.h rfl rfl rfl
    refine chain_any ro (pj := j) (pv := v) (N := N) (G0 := G) (w0 := w1) (a0 := a) hN T ch ap R1 F (fun hf => absurd A.Dj (by simp [hf j])) ?_ ?_ ops.size (Array.replicate ops.size false) G w1 a (by simp) ?_ ?_ ?_ r.size rfl ?_ ?_ ?_ ?_ ?_
    · intro i hDi
      exact ⟨⟨A.Dj, hjs⟩, pD i hDi⟩
    · intro _ o rr hoo hrr
      rw [A.hoj] at hoo; cases hoo
      rw [hrj] at hrr; cases hrr
      refine ⟨A.run, ?_, ?_⟩
      · intro k hk hne h1 h2
        have hko := Array.getElem?_eq_getElem hk
        obtain ⟨itk, p1, p2⟩ := itemAt k _ hko
        have hkr : k < recs.length := by omega
        have gk : (recs.getD k rec0) = recs[k] := by simp [List.getD, List.getElem?_eq_getElem hkr]
        have ek : (recs.getD k rec0).en = (recs.map (·.en)).getD k ent0 := by simp [List.getD, List.getElem?_eq_getElem hkr]
        by_cases tk : touchy itk.op = true
        · rw [ek]
          rcases Nat.lt_or_ge k j with hlt | hge
          · obtain ⟨q1, q2⟩ := (pb _ _ (inPairs k j _ oj itk itj hlt hko A.hoj p2 A.it tk A.tj h1)).2 rfl
            exact ⟨q1, fun _ => q2, fun id hid => by rw [q2] at hid; cases hid⟩
          · obtain ⟨q1, q2⟩ := (pb _ _ (inPairs j k oj _ itj itk (by omega) A.hoj hko A.it p2 A.tj tk h2)).1 rfl
            exact ⟨q1, fun h => by omega, q2⟩
        · rw [gk, A.e0 k _ _ (List.getElem?_eq_getElem hkr) p1 (by simpa using tk)]
          exact ⟨rfl, fun _ => rfl, fun id hid => by cases hid⟩
      · intro G' w' a' T1 R1' s1 d1
        have T2 := T01.trans r.h R1 T1
        exact ⟨rfl, by rw [d1]; exact .refl, G', T2, ⟨s1, fun _ => by simp [VRel], R1', by rw [d1]; exact r.df.mono T2⟩⟩
    · unfold count
      exact Nat.le_trans (List.length_filter_le _ _) (by simp)
    · rw [hz']; intro i o _ h; cases h
    · intro k _; exact hz k
    · rw [hz']; intro d; rw [vz]; exact VRel.mono r.h T01 _ _ (r.t d)
    · rw [hz']; exact R1.same ho fun t x => (hk t).1 x
    · rw [hz']
      exact (Trans.refl G w1 s.h).same rfl (fun _ => Iff.rfl) ho hk (Nat.le_refl _) nm.1 nm.1 (Nat.le_refl _) nm.2 nm.2
    · exact fun id x => .inl x
    · exact fun id x => .inl x
end
end Go.Av
end
section
set_option linter.unusedVariables false
set_option linter.unusedSimpArgs false
namespace Go.Av
section
variable {P : Program} {N : Nat}
theorem leaves_marksP {F : Fence} {n : Nat} {fn : Func} {tmps : Array Value} {R : Ending → World → Prop} {chain : List PanicEntry} (Ds : Nat → Prop) (I : World → Prop)
    (hI : ∀ w D, Ds D → I w → w.heap[D]? = some (.deferred (some [])) → I (w.putObj D (.deferred none))) (hend : ∀ w, I w → R (.panicked chain) w) :
    ∀ (l : List Deferred) (w : World), l.Nodup → (∀ d ∈ l, ∃ D, Ds D ∧ d = { target := .collected D, args := #[] } ∧ w.heap[D]? = some (.deferred (some []))) → I w → LeavesInM F n P fn tmps R l (.panicking chain) w := by
  intro l
  induction l with
  | nil => intro w _ _ hi; exact hend w hi
  | cons d l ih =>
    intro w hn hm hi
    obtain ⟨D, h1, h2, h3⟩ := hm d (by simp)
    refine ⟨by simp, .inl ⟨D, _, by rw [h2], run_takeDeferred h3, ih _ (List.nodup_cons.1 hn).2 (fun d' hd' => ?_) (hI w D h1 hi h3)⟩⟩
    obtain ⟨D', k1, k2, k3⟩ := hm d' (by simp [hd'])
    refine ⟨D', k1, k2, ?_⟩
    rw [World.putObj_heap_other ?_]
    · exact k3
    · rintro rfl
      exact (List.nodup_cons.1 hn).1 (by rw [h2, ← k2]; exact hd')
theorem pans_of {f : FuncId} {fn : Func} {code : Code} {ac : AC} {args : List AV} {h : H} {Q : Value → H → Prop} (hf : P.funcs[f]? = some fn) (hb : fn.body = some code) (hc : cCode P fn.ntmps code = some ac) (hl : args.length ≤ fn.ntmps)
    (hw : Wp P fn.ntmps ac ⟨initT args, h⟩ fun e s' => ∃ v, e = .panic v ∧ Q v s'.h) : ∃ v h', PanCalls P f args h v h' ∧ Q v h' := by
  obtain ⟨e, s', run, v, rfl, hq⟩ := hw code hc
  refine ⟨v, s'.h, ?_, hq⟩
  intro G w vs hv R F
  have hlen := hv.length
  refine callsIn_wide.1 (callsIn_of_wp_marks (F := rd none) (n := 0) hf hb trivial (wpIn_mono (run.2 none (.inl rfl) G w _ ⟨?_, init_rel hv, R, ⟨by simp, by simp⟩⟩ F) ?_) rfl)
  · simp; omega
  · rintro e' a' w' ⟨h1, h2, G', T, r'⟩
    have key : LeavesInM (rd none) 0 P fn a'.tmps (fun e w' => ∃ G', e = .panicked [{ v := v, recovered := false }] ∧ Trans G w h G' w' s'.h ∧ RepH G' s'.h w') a'.defers (.panicking [{ v := v, recovered := false }]) w' := by
      refine leaves_marksP (fun D => w.heap.size ≤ D ∧ ¬ s'.h.O G' D ∧ ¬ s'.h.T G' D) (fun w2 => Trans G w h G' w2 s'.h ∧ RepH G' s'.h w2) ?_ ?_ _ _ r'.df.1 ?_ ⟨T, r'.h⟩
      · rintro w2 D ⟨d1, d2, d3⟩ ⟨T2, R2⟩ hD
        have tu := Turned.results hD
        exact ⟨T2.turn tu d1, R2.turn tu d2⟩
      · rintro w2 ⟨T2, R2⟩
        exact ⟨G', rfl, T2, R2⟩
      · intro d hd
        obtain ⟨D, e, k1, k2, k3⟩ := r'.df.2 d hd
        rcases h2 d hd with h | ⟨D', k4, e'⟩
        · simp at h
        · rw [e] at e'
          simp only [Deferred.mk.injEq, Target.collected.injEq, and_true] at e'
          subst e'
          exact ⟨D, ⟨k4, k2, k3⟩, e, k1⟩
    cases e' <;> simp only [AExit.says] at h1
    subst h1
    exact key
theorem FnIs.pans {f : FuncId} {ac : AC} {args : List AV} {h : H} {ds : List RV} {Q : Value → H → Prop} (hF : FnIs P f N ac ds) (hl : args.length ≤ N) (hw : Wp P N ac ⟨initT args, h⟩ fun e s' => ∃ v, e = .panic v ∧ Q v s'.h) : ∃ v h', PanCalls P f args h v h' ∧ Q v h' := by
  obtain ⟨fn, h1, h2, h3, h4⟩ := hF
  subst h2
  obtain ⟨code, hb, hc⟩ := Option.bind_eq_some_iff.1 h3
  exact pans_of h1 hb hc hl hw
end
end Go.Av
end
section
set_option linter.unusedVariables false
set_option linter.unusedSimpArgs false
namespace Go.Av
structure SetO (D : Nat) (G : Ghost) (w w' : World) : Prop where
  size : w'.heap.size = w.heap.size
  same : ∀ B, B ≠ D → w'.heap[B]? = w.heap[B]?
  own : G.own D
  form : ∀ c T fr, w.heap[D]? = some (.cells c T fr) → ∃ c', w'.heap[D]? = some (.cells c' T fr) ∧ c'.size = c.size
  os : w'.os = w.os
  out : w'.output = w.output
section
variable {D : Nat} {G : Ghost} {w w' : World}
theorem SetO.cell (t : SetO D G w w') {B off : Nat} {v : Value} (hB : B ≠ D) (h : w.cell? ⟨B, off, none⟩ = some v) : w'.cell? ⟨B, off, none⟩ = some v := by
  have := t.same B hB
  unfold World.cell? at h ⊢
  simpa [this] using h
theorem SetO.heap (t : SetO D G w w') {B : Nat} {c : Array Value} {T : TypeId} {fr : Nat × Nat} (h : w.heap[B]? = some (.cells c T fr)) : ∃ c', w'.heap[B]? = some (.cells c' T fr) ∧ c'.size = c.size := by
  by_cases e : B = D
  · subst e; exact t.form _ _ _ h
  · rw [t.same B e]; exact ⟨c, h, rfl⟩
theorem Imm.set (t : SetO D G w w') {B off : Nat} {vs : List Value} (h : Imm G w B off vs) : Imm G w' B off vs := fun i v hv =>
  ⟨t.cell (fun e => (h i v hv).2.2.1 (by rw [e]; exact t.own)) (h i v hv).1, (h i v hv).2⟩
theorem CapOk.set (t : SetO D G w w') {c : Cap} {B off len C sz : Nat} (h : CapOk G w c B off len C sz) : CapOk G w' c B off len C sz := by
  cases c with
  | any => trivial
  | exact c => exact h
  | own k =>
    rcases h with h | ⟨h1, h2, cs, T, fr, h3, h4, h5⟩
    · exact .inl h
    · obtain ⟨c', k1, k2⟩ := t.heap h3
      exact .inr ⟨h1, h2, c', T, fr, k1, by rw [k2]; exact h4, by rw [k2]; exact h5⟩
mutual
theorem VRel.set (t : SetO D G w w') : ∀ (x : AV) (v : Value), VRel G w x v → VRel G w' x v
  | .any, _, _ => trivial
  | .int k n, _, hv => hv
  | .bool b, _, hv => hv
  | .str l, _, hv => hv
  | .sc x, _, hv => hv
  | .sl sz xs c, v, hv => by
    simp only [VRel] at hv ⊢
    rcases hv with hv | ⟨B, off, C, vs, h1, h2, h3, h4, h5, h6⟩
    · exact .inl hv
    · exact .inr ⟨B, off, C, vs, h1, h2, h3, VElems.set t sz xs vs h4, h5.set t, h6.set t⟩
  | .ref cs, v, hv => by
    simp only [VRel] at hv ⊢
    obtain ⟨B, off, vs, h1, h2, h3⟩ := hv
    exact ⟨B, off, vs, h1, VRels.set t cs vs h2, h3.set t⟩
  | .agg cs, v, hv => by
    simp only [VRel] at hv ⊢
    obtain ⟨vs, h1, h2⟩ := hv
    exact ⟨vs, h1, VRels.set t cs vs h2⟩
  | .tup cs, v, hv => by
    simp only [VRel] at hv ⊢
    obtain ⟨vs, h1, h2⟩ := hv
    exact ⟨vs, h1, VRels.set t cs vs h2⟩
  | .ptr id off, v, hv => by simpa only [VRel] using hv
  | .tsl sz id off len cap, v, hv => by
    simp only [VRel] at hv ⊢
    obtain ⟨hd, hv⟩ := hv
    refine ⟨hd, ?_⟩
    rcases hv with ⟨C, c, Tt, fr, h1, h2, h3, h4, h5⟩ | hv
    · obtain ⟨c', k1, k2⟩ := t.heap h4
      exact .inl ⟨C, c', Tt, fr, h1, h2, h3, k1, by rw [k2]; exact h5⟩
    · exact .inr hv
  | .clo fn a b, v, hv => by
    simp only [VRel] at hv ⊢
    obtain ⟨vs, us, h1, h2, h3⟩ := hv
    exact ⟨vs, us, h1, VRels.set t a vs h2, VRels.set t b us h3⟩
  | .ifc k x, v, hv => by
    simp only [VRel] at hv ⊢
    obtain ⟨u, h1, h2⟩ := hv
    exact ⟨u, h1, VRel.set t x u h2⟩
  | .mp id, v, hv => by simpa only [VRel] using hv
  | .yld id, v, hv => by simpa only [VRel] using hv
  | .slt sz xs ys, v, hv => by
    simp only [VRel] at hv ⊢
    obtain ⟨B, off, C, us, vs, h1, h2, h3, h4, h5, h6⟩ := hv
    exact ⟨B, off, C, us, vs, h1, h2, h3, VElems.set t sz xs us h4, VElems.set t sz ys vs h5, h6.set t⟩
  | .sup B, v, hv => by simpa only [VRel] using hv
  | .supb B, v, hv => by
    simp only [VRel] at hv ⊢
    obtain ⟨l, h1, h2 | ⟨D, off, C, h2, h3, h4⟩⟩ := hv
    · exact ⟨l, h1, .inl h2⟩
    · exact ⟨l, h1, .inr ⟨D, off, C, h2, h3, h4.set t⟩⟩
  | .wint k, v, hv => by simpa only [VRel] using hv
  | .one, v, hv => by simpa only [VRel] using hv
theorem VRels.set (t : SetO D G w w') : ∀ (x : List AV) (v : List Value), VRels G w x v → VRels G w' x v
  | [], _, hv => by simpa only [VRels] using hv
  | x :: xs, vs, hv => by
    simp only [VRels] at hv ⊢
    obtain ⟨v, us, h1, h2, h3⟩ := hv
    exact ⟨v, us, h1, VRel.set t x v h2, VRels.set t xs us h3⟩
theorem VElems.set (t : SetO D G w w') (sz : Nat) : ∀ (x : List AV) (v : List Value), VElems G w sz x v → VElems G w' sz x v
  | [], _, hv => by simpa only [VElems] using hv
  | x :: xs, vs, hv => by
    simp only [VElems] at hv ⊢
    obtain ⟨v, us, h1, h2, h3, h4⟩ := hv
    exact ⟨v, us, h1, h2, VRel.set t x v h3, VElems.set t sz xs us h4⟩
end
theorem Entries.setO (t : SetO D G w w') : ∀ (l : List (AV × AV)) (e : List MapEntry), Entries G w l e → Entries G w' l e
  | [], _, hv => hv
  | (k, v) :: l, es, hv => by
    obtain ⟨e, r, h1, h2, h3, h4⟩ := hv
    exact ⟨e, r, h1, VRel.set t k _ h2, VRel.set t v _ h3, Entries.setO t l r h4⟩
theorem ORel.set (t : SetO D G w w') {o : Obj} {x : Option Go.Obj} (hx : ORel G w o x) : ORel G w' o x := by
  cases o with
  | cells cs =>
    obtain ⟨vs, rest, Tt, fr, h1, h2, h3⟩ := hx
    exact ⟨vs, rest, Tt, fr, h1, VRels.set t _ _ h2, h3⟩
  | map es =>
    obtain ⟨en, k, h1, h2⟩ := hx
    exact ⟨en, k, h1, Entries.setO t _ _ h2⟩
  | loop N tt ps asg body st pend =>
    obtain ⟨r, h1, h2, h3, h4⟩ := hx
    exact ⟨r, h1, h2, fun i => VRel.set t _ _ (h3 i), h4⟩
  | raw c => exact hx
  | bk c => exact hx
theorem RepH.set {h : H} (R : RepH G h w) (t : SetO D G w w') (hD : ¬ h.O G D) : RepH G h w' where
  obj id o ho := by
    obtain ⟨a, b, c, d⟩ := R.obj id o ho
    have hne : G.ι id ≠ D := fun e => hD ⟨id, o, ho, e⟩
    exact ⟨a, b, by rw [t.size]; exact c, by rw [t.same _ hne]; exact d.set t⟩
  inj := R.inj
  tok k hk := ⟨(R.tok k hk).1, fun B e he => by rw [t.size]; exact (R.tok k hk).2 B e he⟩
  tinj := R.tinj
theorem Trans.set {G0 : Ghost} {w0 : World} {h0 h : H} (T : Trans G0 w0 h0 G w h) (t : SetO D G w w') (hD : w0.heap.size ≤ D) : Trans G0 w0 h0 G w' h where
  dom_le := T.dom_le
  dom_new := T.dom_new
  ι_eq := T.ι_eq
  tdom_le := T.tdom_le
  tdom_new := T.tdom_new
  τ_eq := T.τ_eq
  n_le := T.n_le
  m_le := T.m_le
  size_le := by rw [t.size]; exact T.size_le
  os := t.os.trans T.os
  output := t.out.trans T.output
  form B hB := by rw [t.same B (by omega)]; exact T.form B hB
  keep B hB h1 h2 := by rw [t.same B (by omega)]; exact T.keep B hB h1 h2
  own_keep := T.own_keep
  lim_keep := T.lim_keep
  tok_keep B hB h1 h2 e he := ⟨fun j hj => by
    have := (T.tok_keep B hB h1 h2 e he).1 j hj
    rw [← this]
    have hs := t.same B (by omega)
    unfold World.cell?
    simp only [hs], (T.tok_keep B hB h1 h2 e he).2⟩
  O_new := T.O_new
  T_new := T.T_new
  objs_new := T.objs_new
  toks_new := T.toks_new
def ownB (G : Ghost) (D : Nat) : Ghost := { G with own := fun B => B = D ∨ G.own B }
theorem push_own {o : Go.Obj} {h : H} (R : RepH G h w) (hp : Pushed w w' o) : Trans G w h (ownB G w.heap.size) w' h ∧ RepH (ownB G w.heap.size) h w' ∧ ¬ h.O (ownB G w.heap.size) w.heap.size ∧ ¬ h.T (ownB G w.heap.size) w.heap.size := by
  have T : Trans G w h (ownB G w.heap.size) w' h := by
    constructor
    · exact fun _ x => x
    · exact fun _ x => .inl x
    · exact fun _ _ => rfl
    · exact fun _ x => x
    · exact fun _ x => .inl x
    · exact fun _ _ => rfl
    · exact Nat.le_refl _
    · exact Nat.le_refl _
    · rw [hp.size]; omega
    · exact hp.2.1
    · exact hp.2.2
    · intro B hB; rw [hp.old hB]; exact SameForm.refl _
    · exact fun B hB _ _ => hp.old hB
    · intro B hB _
      simp only [ownB]
      constructor
      · rintro (e | x)
        · omega
        · exact x
      · exact .inr
    · exact fun _ _ _ _ => rfl
    · intro B hB ht _ e he
      refine ⟨fun j _ => by unfold World.cell?; simp only [hp.old hB], fun e' he' => ?_⟩
      have he' : G.lim B = some e' := he'
      rw [he] at he'; cases he'; exact Nat.le_refl _
    · exact fun _ _ x => x
    · exact fun _ _ x => x
    · exact fun j o x => .inl ⟨o, x⟩
    · exact fun t x => .inl x
  refine ⟨T, ⟨?_, R.inj, ?_, R.tinj⟩, ?_, ?_⟩
  · intro id o ho
    obtain ⟨a, b, c, d⟩ := R.obj id o ho
    refine ⟨a, .inr b, by rw [hp.size]; show G.ι id < _; omega, ?_⟩
    show ORel _ w' o w'.heap[G.ι id]?
    rw [hp.old c]
    exact ORel.mono R T d
  · intro t ht
    refine ⟨(R.tok t ht).1, fun B e he => ?_⟩
    obtain ⟨a, b, c⟩ := (R.tok t ht).2 B e he
    refine ⟨a, ?_, by rw [hp.size]; omega⟩
    rintro (e | x)
    · omega
    · exact b x
  · rintro ⟨id, o, ho, e⟩
    have := (R.obj id o ho).2.2.1
    have e : G.ι id = w.heap.size := e
    omega
  · rintro ⟨t, ht, e, he⟩
    have := ((R.tok t ht).2 _ e he).2.2
    omega
theorem setO_cell {D : Nat} {v x : Value} {T : TypeId} {fr : Nat × Nat} (hh : w.heap[D]? = some (.cells #[v] T fr)) (ho : G.own D) : SetO D G w (w.setCell ⟨D, 0, none⟩ x) where
  size := by simp [World.setCell]
  same B hB := by
    simp only [World.setCell, Array.getElem?_modify]
    rw [if_neg (fun e => hB e.symm)]
  own := ho
  form c T fr hc := by
    simp only [World.setCell, Array.getElem?_modify, if_true, hc, Option.map_some]
    exact ⟨_, rfl, by simp⟩
  os := rfl
  out := rfl
theorem set_new {D : Nat} {v x : Value} {T : TypeId} {fr : Nat × Nat} (hh : w.heap[D]? = some (.cells #[v] T fr)) : (w.setCell ⟨D, 0, none⟩ x).heap[D]? = some (.cells #[x] T fr) := by
  simp only [World.setCell, Array.getElem?_modify, if_true, hh, Option.map_some]
  rfl
end
end Go.Av
end
section
set_option linter.unusedVariables false
set_option linter.unusedSimpArgs false
namespace Go.Av
section
variable {P : Program} {N : Nat} {s : St} {Q : AExit → St → Prop}
theorem Wp.seqReg {items : List AItem} {p : Option (List (Nat × Nat))} {y : AC} {t' : Tm} {h' : H} {log : List Ent} (he : evalOps items s.t s.h [] = ([], t', h', log)) (hp : pairsQ p log.reverse) (h : Wp P N y ⟨t', h'⟩ Q) : Wp P N (.seq (.reg items p) y) s Q :=
  Wp.seq (Wp.reg (WpItems.eval he (WpItems.nil ⟨hp, h⟩)))
theorem Wp.reg1 {items : List AItem} {p : Option (List (Nat × Nat))} {t' : Tm} {h' : H} {log : List Ent} (he : evalOps items s.t s.h [] = ([], t', h', log)) (hp : pairsQ p log.reverse) (h : Q .normal ⟨t', h'⟩) : Wp P N (.reg items p) s Q :=
  Wp.reg (WpItems.eval he (WpItems.nil ⟨hp, h⟩))
theorem Wp.seqItems {items its : List AItem} {p : Option (List (Nat × Nat))} {y : AC} {t' : Tm} {h' : H} {log : List Ent} (he : evalOps items s.t s.h [] = (its, t', h', log)) (h : WpItems P N its t' h' log fun t h l => pairsQ p l ∧ Wp P N y ⟨t, h⟩ Q) : Wp P N (.seq (.reg items p) y) s Q :=
  Wp.seq (Wp.reg (WpItems.eval he h))
theorem Wp.items {items its : List AItem} {p : Option (List (Nat × Nat))} {t' : Tm} {h' : H} {log : List Ent} (he : evalOps items s.t s.h [] = (its, t', h', log)) (h : WpItems P N its t' h' log fun t h l => pairsQ p l ∧ Q .normal ⟨t, h⟩) : Wp P N (.reg items p) s Q :=
  Wp.reg (WpItems.eval he h)
def tm : List (Nat × AV) → Tm
  | [] => fun _ => .any
  | (i, v) :: l => upd (tm l) i v
def AllSub (t : Tm) : List (Nat × AV) → Prop
  | [] => True
  | (i, v) :: l => VSub (t i) v ∧ AllSub t l
theorem tm_le {t : Tm} : ∀ {l : List (Nat × AV)}, AllSub t l → ∀ i, VSub (t i) (tm l i)
  | [], _, i => VSub.any _
  | (k, v) :: l, h, i => by
    simp only [tm, upd]
    split
    · rename_i e; subst e; exact h.1
    · exact tm_le h.2 i
theorem StLe.tm {t : Tm} {h : H} {l : List (Nat × AV)} (hs : AllSub t l) : StLe ⟨t, h⟩ ⟨Av.tm l, h⟩ := StLe.mk' (tm_le hs) h.sub_refl.le (Nat.le_refl _) (Nat.le_refl _)
theorem Wp.loopT {β : Type} (S : β → List (Nat × AV)) (I : β → Prop) (μ : β → Nat) {c : AC} {h : H} {t : Tm} (b0 : β) (h0 : I b0) (hs : AllSub t (S b0))
    (round : ∀ b, I b → Wp P N c ⟨tm (S b), h⟩ (AExit.andThen (fun s' => ∃ b', I b' ∧ μ b' < μ b ∧ StLe s' ⟨tm (S b'), h⟩) Q)) : Wp P N (.loop c) ⟨t, h⟩ Q :=
  Wp.loop (fun b => ⟨tm (S b), h⟩) I μ b0 h0 (StLe.tm hs) round
theorem AllSub.append {t : Tm} : ∀ {l m : List (Nat × AV)}, AllSub t l → AllSub t m → AllSub t (l ++ m)
  | [], _, _, h => h
  | (_, _) :: _, _, h, h' => ⟨h.1, AllSub.append h.2 h'⟩
theorem AllSub.self {t : Tm} : ∀ (L : List Nat), AllSub t (L.map fun i => (i, t i))
  | [] => trivial
  | _ :: L => ⟨VSub.refl _, AllSub.self L⟩
theorem Wp.loopK {β : Type} (L : List Nat) {K : List (Nat × AV)} {c : AC} {h : H} {t : Tm} (hK : (L.map fun i => (i, t i)) = K) (ch : β → List (Nat × AV)) (I : β → Prop) (μ : β → Nat) (b0 : β) (h0 : I b0) (hs : AllSub t (ch b0))
    (round : ∀ b, I b → Wp P N c ⟨tm (K ++ ch b), h⟩ (AExit.andThen (fun s' => ∃ b', I b' ∧ μ b' < μ b ∧ StLe s' ⟨tm (K ++ ch b'), h⟩) Q)) : Wp P N (.loop c) ⟨t, h⟩ Q :=
  Wp.loopT (fun b => K ++ ch b) I μ b0 h0 (AllSub.append (hK ▸ AllSub.self L) hs) round
theorem VSub.int {k : IntKind} {a b : Int} (h : a = b) : VSub (.int k a) (.int k b) := h ▸ VSub.refl _
theorem VSub.of_eq {x y : AV} (h : x = y) : VSub x y := h ▸ VSub.refl _
def capPure : Cap → Bool
  | .own _ => false
  | _ => true
mutual
def isPure : AV → Bool
  | .sl _ xs c => capPure c && allPure xs
  | .ref cs => allPure cs
  | .agg cs => allPure cs
  | .tup cs => allPure cs
  | .ptr _ _ | .tsl _ _ _ _ _ | .mp _ | .yld _ => false
  | .clo _ a b => allPure a && allPure b
  | .ifc _ x => isPure x
  | .slt _ xs ys => allPure xs && allPure ys
  | _ => true
def allPure : List AV → Bool
  | [] => true
  | x :: xs => isPure x && allPure xs
end
mutual
theorem isPure_ok : ∀ (x : AV), isPure x = true → VPure x
  | .any, _ => fun _ _ _ _ _ _ h => h
  | .int _ _, _ => fun _ _ _ _ _ _ h => h
  | .bool _, _ => fun _ _ _ _ _ _ h => h
  | .str _, _ => fun _ _ _ _ _ _ h => h
  | .sc _, _ => fun _ _ _ _ _ _ h => h
  | .sl sz xs c, hp => by
    simp only [isPure, Bool.and_eq_true] at hp
    intro G G' w v e1 e2 h
    simp only [VRel] at h ⊢
    rcases h with h | ⟨B, off, C, vs, h1, h2, h3, h4, h5, h6⟩
    · exact .inl h
    · refine .inr ⟨B, off, C, vs, h1, h2, h3, allPure_els xs hp.2 G G' w sz vs e1 e2 h4, fun i v hv => ?_, ?_⟩
      · rw [e1, e2]; exact h5 i v hv
      · cases c with
        | own t => simp [capPure] at hp
        | any => trivial
        | exact k => exact h6
  | .ref cs, hp => by
    simp only [isPure] at hp
    intro G G' w v e1 e2 h
    simp only [VRel] at h ⊢
    obtain ⟨B, off, vs, h1, h2, h3⟩ := h
    exact ⟨B, off, vs, h1, allPure_ok cs hp G G' w vs e1 e2 h2, fun i v hv => by rw [e1, e2]; exact h3 i v hv⟩
  | .agg cs, hp => by
    simp only [isPure] at hp
    intro G G' w v e1 e2 h
    simp only [VRel] at h ⊢
    obtain ⟨vs, h1, h2⟩ := h
    exact ⟨vs, h1, allPure_ok cs hp G G' w vs e1 e2 h2⟩
  | .tup cs, hp => by
    simp only [isPure] at hp
    intro G G' w v e1 e2 h
    simp only [VRel] at h ⊢
    obtain ⟨vs, h1, h2⟩ := h
    exact ⟨vs, h1, allPure_ok cs hp G G' w vs e1 e2 h2⟩
  | .ptr _ _, hp => by simp [isPure] at hp
  | .tsl _ _ _ _ _, hp => by simp [isPure] at hp
  | .mp _, hp => by simp [isPure] at hp
  | .yld _, hp => by simp [isPure] at hp
  | .slt sz xs ys, hp => by
    simp only [isPure, Bool.and_eq_true] at hp
    intro G G' w v e1 e2 h
    simp only [VRel] at h ⊢
    obtain ⟨B, off, C, us, vs, h1, h2, h3, h4, h5, h6⟩ := h
    exact ⟨B, off, C, us, vs, h1, h2, h3, allPure_els xs hp.1 G G' w sz us e1 e2 h4, allPure_els ys hp.2 G G' w sz vs e1 e2 h5, fun i v hv => by rw [e1, e2]; exact h6 i v hv⟩
  | .clo f a b, hp => by
    simp only [isPure, Bool.and_eq_true] at hp
    intro G G' w v e1 e2 h
    simp only [VRel] at h ⊢
    obtain ⟨vs, us, h1, h2, h3⟩ := h
    exact ⟨vs, us, h1, allPure_ok a hp.1 G G' w vs e1 e2 h2, allPure_ok b hp.2 G G' w us e1 e2 h3⟩
  | .sup B, _ => fun _ _ _ _ _ _ h => by simpa only [VRel] using h
  | .supb B, _ => fun G G' w v e1 e2 h => by
    simp only [VRel] at h ⊢
    obtain ⟨l, h1, h2 | ⟨D, off, C, h2, h3, h4⟩⟩ := h
    · exact ⟨l, h1, .inl h2⟩
    · exact ⟨l, h1, .inr ⟨D, off, C, h2, h3, fun i v hv => by rw [e1, e2]; exact h4 i v hv⟩⟩
  | .wint k, _ => fun _ _ _ _ _ _ h => by simpa only [VRel] using h
  | .one, _ => fun _ _ _ _ _ _ h => by simpa only [VRel] using h
  | .ifc t x, hp => by
    simp only [isPure] at hp
    intro G G' w v e1 e2 h
    simp only [VRel] at h ⊢
    obtain ⟨u, h1, h2⟩ := h
    exact ⟨u, h1, isPure_ok x hp G G' w u e1 e2 h2⟩
theorem allPure_ok : ∀ (l : List AV), allPure l = true → VPures l
  | [], _ => fun _ _ _ _ _ _ h => by simpa only [VRels] using h
  | x :: xs, hp => by
    simp only [allPure, Bool.and_eq_true] at hp
    intro G G' w vs e1 e2 h
    simp only [VRels] at h ⊢
    obtain ⟨v, us, h1, h2, h3⟩ := h
    exact ⟨v, us, h1, isPure_ok x hp.1 G G' w v e1 e2 h2, allPure_ok xs hp.2 G G' w us e1 e2 h3⟩
theorem allPure_els : ∀ (l : List AV), allPure l = true → ∀ (G G' : Ghost) (w : World) (sz : Nat) (vs : List Value), G'.own = G.own → G'.lim = G.lim → VElems G w sz l vs → VElems G' w sz l vs
  | [], _ => fun _ _ _ _ _ _ _ h => by simpa only [VElems] using h
  | x :: xs, hp => by
    simp only [allPure, Bool.and_eq_true] at hp
    intro G G' w sz vs e1 e2 h
    simp only [VElems] at h ⊢
    obtain ⟨v, us, h1, h2, h3, h4⟩ := h
    exact ⟨v, us, h1, h2, isPure_ok x hp.1 G G' w v e1 e2 h3, allPure_els xs hp.2 G G' w sz us e1 e2 h4⟩
end
theorem allPure_map {α : Type} {f : α → AV} (h : ∀ x, isPure (f x) = true) : ∀ l : List α, allPure (l.map f) = true
  | [] => rfl
  | x :: l => by simp [allPure, h x, allPure_map h l]
def strs (l : List (List UInt8)) : List AV := l.map .str
def ints (l : List Int) : List AV := l.map (.int .i64)
theorem strs_pure (l : List (List UInt8)) : allPure (strs l) = true := allPure_map (fun _ => rfl) l
theorem strs_length (l : List (List UInt8)) : (strs l).length = l.length := by simp [strs]
theorem ints_length (l : List Int) : (ints l).length = l.length := by simp [ints]
theorem bytes_length (l : List UInt8) : (bytesAV l).length = l.length := by simp [bytesAV]
theorem bytes_getD (l : List UInt8) (k : Nat) (d : AV) (h : k < l.length) : (bytesAV l).getD k d = byte (l.getD k 0) := by
  simp [bytesAV, List.getD, List.getElem?_map, List.getElem?_eq_getElem h]
end
def lit : Bool → Bool
  | true => true
  | false => true
def pk : Bool → AC → AC → AC
  | true, x, _ => x
  | false, _, y => y
theorem Wp.cond_lit {P : Program} {N : Nat} {s : St} {Q : AExit → St → Prop} {c : Opd} {x y : AC} {b : Bool} (hb : ev s.t c = .bool b) (_ : lit b = true) (h : Wp P N (pk b x y) s Q) : Wp P N (.cond c x y) s Q := by
  cases b
  · exact Wp.cond_false hb h
  · exact Wp.cond_true hb h
theorem bx : ((false = true) = False) ∧ (∀ b : Bool, (true == b) = b) ∧ (∀ b : Bool, (false == b) = !b) ∧ ((!true) = false) ∧ ((!false) = true) :=
  ⟨Bool.false_eq_true, Bool.true_beq, Bool.false_beq, Bool.not_true, Bool.not_false⟩
theorem ax : (∀ p : Prop, (p ∧ p) = p) ∧ (∀ p : Prop, (True ∧ p) = p) ∧ (∀ p : Prop, (p ∧ True) = p) ∧ (∀ p : Prop, (True ∨ p) = True) ∧ (∀ p : Prop, (p ∨ True) = True) ∧ (∀ n : Nat, 0 * n = 0) ∧ (∀ n : Nat, 1 * n = n) ∧ (∀ n : Nat, 0 ≤ n)
    ∧ (∀ h : Decidable True, @decide True h = true) ∧ (∀ h : Decidable False, @decide False h = false) ∧ (∀ n : Nat, ((n : Nat) : Int).toNat = n) ∧ (∀ (α : Type) (a b : List α), (a ++ b).length = a.length + b.length)
    ∧ (∀ (α : Type) (p : α → Bool) (x : α) (l : List α), List.filter p (x :: l) = if p x = true then x :: List.filter p l else List.filter p l) ∧ (∀ (α : Type) (p : α → Bool), List.filter p [] = []) ∧ (∀ (α : Type) (a b : α), (a ≠ b) = ¬ (a = b)) ∧ ((¬ True) = False) ∧ ((¬ False) = True) :=
  ⟨and_self, true_and, and_true, true_or, or_true, Nat.zero_mul, Nat.one_mul, Nat.zero_le, fun _ => decide_true _, fun _ => decide_false _, Int.toNat_natCast, fun _ _ _ => List.length_append, fun _ _ _ _ => List.filter_cons, fun _ _ => List.filter_nil, fun _ _ _ => rfl, not_true_eq_false, not_false_eq_true⟩
attribute [go_sem] undef evalOps guardOf aop ev putT upd initT H0 H.only none' isCell cellsOf shaped part bin binF binC rawAV putVals binInt binStr binShift isShift unop eqB eqP eqN eqA eqCells eqCell mm mfind lookAV putEs putEsK delEs eqM slice bound capCut setAt putParts tm
  strs_length ints_length bytes_length List.getElem?_cons_zero List.getElem?_cons_succ List.getD_cons_zero List.getD_cons_succ Option.map_some Option.map_none Option.bind_some Option.bind_none List.all_cons List.all_nil Bool.and_self Bool.true_and Bool.and_true
  List.length_cons List.length_nil List.map_cons List.map_nil List.drop_succ_cons List.drop_zero List.take_succ_cons List.take_zero List.drop_nil List.take_nil Nat.zero_add Nat.add_zero List.append_nil List.nil_append List.cons_append Bool.or_false Bool.false_or Bool.or_true Bool.true_or
end Go.Av
end
section
set_option linter.unusedVariables false
set_option linter.unusedSimpArgs false
namespace Go.Av
section
variable {P : Program} {N : Nat}
variable {s : St} {Q : AExit → St → Prop}
end
section
variable {P : Program} {N : Nat}
def RCalls (P : Program) (f : FuncId) (args : List AV) (objs : Nat → Option Obj) (r : AV) : Prop := ∀ n m, ACalls P f args (.only objs [] n m) r (.only objs [] n m)
end
theorem filter_self (t : Nat) : List.filter (fun x => decide (x ≠ t)) [t] = [] := by simp
theorem id_ne1 (k : Nat) : (k = k + 1) = False := by simp
theorem id_ne2 (k : Nat) : (k + 1 = k) = False := by simp
attribute [go_sem] id_ne1 id_ne2 filter_self List.mem_singleton List.mem_cons true_or
end Go.Av
end
section
set_option linter.unusedVariables false
set_option linter.unusedSimpArgs false
namespace Go.Av
structure Fun where
  N : Nat
  ac : AC
  ds : List RV
inductive FT where
  | leaf
  | node (k : Nat) (F : Fun) (l r : FT)
def FT.get (f : Nat) : FT → Option Fun
  | .leaf => none
  | .node k F l r => match Nat.beq f k with
    | true => some F
    | false => match Nat.ble f k with
      | true => FT.get f l
      | false => FT.get f r
def FT.Ok (P : Program) : FT → Prop
  | .leaf => True
  | .node k F l r => FnIs P k F.N F.ac F.ds ∧ l.Ok P ∧ r.Ok P
def FT.named (P : Program) : FT → Bool
  | .leaf => true
  | .node k F l r => ((P.funcs[k]?).any fun fn => fn.name != "runtime.NumGoroutine") && l.named P && r.named P
theorem FT.get_ok {P : Program} {f : Nat} {F : Fun} : ∀ {T : FT}, T.Ok P → T.named P = true → T.get f = some F → FnIs P f F.N F.ac F.ds ∧ ∃ fn, P.funcs[f]? = some fn ∧ fn.body.isSome = true ∧ fn.name ≠ "runtime.NumGoroutine"
  | .leaf, _, _, h => by cases h
  | .node k F' l r, ok, nm, h => by
    simp only [FT.named, Bool.and_eq_true] at nm
    simp only [FT.get] at h
    split at h
    · rename_i e
      cases h
      have e := Nat.eq_of_beq_eq_true e
      subst e
      refine ⟨ok.1, ?_⟩
      obtain ⟨fn, h1, h2, h3, h4⟩ := ok.1
      refine ⟨fn, h1, ?_, ?_⟩
      · obtain ⟨code, hb, _⟩ := Option.bind_eq_some_iff.1 h3
        rw [hb]; rfl
      · have := nm.1.1
        rw [h1] at this
        simpa using this
    · split at h
      · exact FT.get_ok ok.2.1 nm.1.2 h
      · exact FT.get_ok ok.2.2 nm.2 h
mutual
def idsA : AV → List Nat
  | .sl _ xs _ => idsAs xs
  | .ref cs => idsAs cs
  | .agg cs => idsAs cs
  | .tup cs => idsAs cs
  | .ptr i _ => [i]
  | .tsl _ i _ _ _ => [i]
  | .mp i => [i]
  | .yld i => [i]
  | .slt _ xs ys => idsAs xs ++ idsAs ys
  | .clo _ a b => idsAs a ++ idsAs b
  | .ifc _ x => idsA x
  | _ => []
def idsAs : List AV → List Nat
  | [] => []
  | x :: xs => match idsA x with
    | [] => idsAs xs
    | l => l ++ idsAs xs
end
def toksC : Cap → List Nat
  | .own t => [t]
  | _ => []
mutual
def toksA : AV → List Nat
  | .sl _ xs c => toksC c ++ toksAs xs
  | .ref cs => toksAs cs
  | .agg cs => toksAs cs
  | .tup cs => toksAs cs
  | .clo _ a b => toksAs a ++ toksAs b
  | .ifc _ x => toksA x
  | .slt _ xs ys => toksAs xs ++ toksAs ys
  | _ => []
def toksAs : List AV → List Nat
  | [] => []
  | x :: xs => match toksA x with
    | [] => toksAs xs
    | l => l ++ toksAs xs
end
def reach (objs : Nat → Option Obj) : Nat → List Nat → List Nat → List Nat
  | 0, _, seen => seen
  | _ + 1, [], seen => seen
  | k + 1, i :: todo, seen => match seen.contains i with
    | true => reach objs k todo seen
    | false => match objs i with
      | some (.cells cs) => reach objs k (idsAs cs ++ todo) (i :: seen)
      | some (.map es) => reach objs k (es.flatMap (fun e => idsA e.1 ++ idsA e.2) ++ todo) (i :: seen)
      | some (.loop _ _ _ _ _ _ _) => reach objs k todo seen
      | some (.raw _) => reach objs k todo seen
      | some (.bk _) => reach objs k todo seen
      | none => reach objs k todo seen
def toksIn (objs : Nat → Option Obj) (l : List Nat) : List Nat := l.flatMap fun j => match objs j with
  | some (.cells cs) => toksAs cs
  | some (.map es) => es.flatMap fun e => toksA e.1 ++ toksA e.2
  | some (.loop _ _ _ _ _ _ _) => []
  | some (.raw _) => []
  | some (.bk _) => []
  | none => []
def H.cut (h : H) (ids toks : List Nat) : H := ⟨fun j => match ids.contains j with | true => h.objs j | false => none, h.n, h.toks.filter fun t => toks.contains t, h.m⟩
def isEndB : AExit → Bool
  | .normal | .ret => true
  | _ => false
def pairsB : List (Nat × Nat) → List Ent → Bool
  | [], _ => true
  | (i, j) :: l, log =>
    let e := log.getD i ent0
    let f := log.getD j ent0
    e.wr.all (fun id => !f.rd.contains id && !f.wr.contains id) && f.wr.all (fun id => !e.rd.contains id && !e.wr.contains id) && e.tk.all (fun t => !f.tk.contains t) && pairsB l log
def pairsQB : Option (List (Nat × Nat)) → List Ent → Bool
  | none, _ => true
  | some l, log => pairsB l log
theorem pairsB_ok : ∀ {l : List (Nat × Nat)} {log : List Ent}, pairsB l log = true → pairsOk l log
  | [], _, _ => trivial
  | (i, j) :: l, log, h => by
    simp only [pairsB, Bool.and_eq_true, List.all_eq_true, Bool.not_eq_true', List.contains_eq_mem, decide_eq_false_iff_not] at h
    exact ⟨⟨fun id hid => h.1.1.1 id hid, fun id hid => h.1.1.2 id hid, fun t ht => h.1.2 t ht⟩, pairsB_ok h.2⟩
abbrev Prims := Nat → List AV → H → Option (AV × H × Ent)
def callF (T : FT) (pr : Prims) (rn : Nat → AC → St → Option (AExit × St)) (f : Nat) (args : List AV) (h : H) : Option (AV × H × Ent) :=
  match pr f args h with
  | some r => some r
  | none => match T.get f with
  | none => none
  | some F => match Nat.ble args.length F.N with
    | false => none
    | true => match allPure args with
      | true => match rn F.N F.ac ⟨initT args, H0 h.n h.m⟩ with
        | some (e, s') => match isEndB e, resOf F.ds s'.t s'.h with
          | true, some r => match isPure r with
            | true => some (r, h, ent0)
            | false => match Nat.ble h.n s'.h.n && Nat.ble h.m s'.h.m with
              | true => some (r, h.patch (H0 h.n h.m) s'.h, ⟨[], (List.range (s'.h.n - h.n)).map (h.n + ·), s'.h.toks⟩)
              | false => none
          | _, _ => none
        | none => none
      | false =>
        let ids := reach h.objs 1000000 (idsAs args) []
        let h1 := h.cut ids (toksAs args ++ toksIn h.objs ids)
        match rn F.N F.ac ⟨initT args, h1⟩ with
        | some (e, s') => match isEndB e, resOf F.ds s'.t s'.h with
          | true, some r => match Nat.ble h.n s'.h.n && Nat.ble h.m s'.h.m with
            | true => some (r, h.patch h1 s'.h, ⟨[], ids ++ (List.range (s'.h.n - h.n)).map (h.n + ·), h1.toks ++ s'.h.toks⟩)
            | false => none
          | _, _ => none
        | none => none
def runItems (call : Nat → List AV → H → Option (AV × H × Ent)) : List AItem → Tm → H → List Ent → Option (Tm × H × List Ent)
  | [], t, h, l => some (t, h, l)
  | ⟨dst, g, op⟩ :: its, t, h, l => match guardOf t g with
    | some true => match op with
      | .call f args => match call f (args.map (ev t)) h with
        | some (r, h', en) => runItems call its (putT t dst r) h' (en :: l)
        | none => none
      | .callv y args => match ev t y with
        | .clo (.func f) first caps => match call f (first ++ args.map (ev t) ++ caps) h with
          | some (r, h', en) => runItems call its (putT t dst r) h' (en :: l)
          | none => none
        | _ => none
      | op => match aop (ev t) h op with
        | some (x, h', en) => runItems call its (putT t dst x) h' (en :: l)
        | none => none
    | some false => runItems call its (putT t dst (.sc undef)) h (ent0 :: l)
    | none => none
def lookN (l : List (Nat × Obj)) (i : Nat) : Option Obj := match l with
  | [] => none
  | (j, o) :: r => match Nat.beq i j with
    | true => some o
    | false => lookN r i
def norm (N : Nat) (s : St) : St :=
  let l := (List.range N).map s.t
  let o := (List.range s.h.n).filterMap fun j => (s.h.objs j).map fun x => (j, x)
  ⟨fun i => l.getD i .any, { s.h with objs := lookN o }⟩
def runS (rn : AC → St → Option (AExit × St)) (nm : St → St) : Nat → AC → AC → St → Option (AExit × St)
  | 0, _, _, _ => none
  | k + 1, c, cur, s => match rn cur s with
    | some (.goto l, s') => match findL c l with
      | some rest => runS rn nm k c rest (nm s')
      | none => some (.goto l, s')
    | r => r
def run (T : FT) (pr : Prims) : Nat → Nat → AC → St → Option (AExit × St)
  | 0, _, _, _ => none
  | k + 1, N, c, s => match c with
    | .skip => some (.normal, s)
    | .ret => some (.ret, s)
    | .exit i => some (.exit i, s)
    | .reg items p => match runItems (callF T pr (run T pr k)) items s.t s.h [] with
      | some (t, h, l) => match pairsQB p l.reverse with
        | true => some (.normal, ⟨t, h⟩)
        | false => none
      | none => none
    | .seq a b => match run T pr k N a s with
      | some (.normal, s') => run T pr k N b s'
      | r => r
    | .cond c a b => match ev s.t c with
      | .bool true => run T pr k N a s
      | .bool false => run T pr k N b s
      | _ => none
    | .block id a => match run T pr k N a s with
      | some (.exit i, s') => match Nat.beq i id with
        | true => some (.normal, s')
        | false => some (.exit i, s')
      | r => r
    | .loop a => match run T pr k N a s with
      | some (.normal, s') => run T pr k N (.loop a) (norm N s')
      | r => r
    | .label _ => some (.normal, s)
    | .goto l => some (.goto l, s)
    | .scope a => runS (run T pr k N) (norm N) k a a s
    | .rfun _ _ _ _ => none
section
variable {P : Program} {T : FT}
theorem isEndB_ok {e : AExit} (h : isEndB e = true) : isEnd e := by cases e <;> simp_all [isEndB, isEnd]
theorem touch_gen (h h1 h1' : H) {ids : List Nat} (hs : h1.sub h) (n : h1.n = h.n) (m : h1.m = h.m) (hi : ∀ id, (h1.objs id).isSome → id ∈ ids) (le : h.n ≤ h1'.n) (lem : h.m ≤ h1'.m) :
    Touch h h1 h1' (h.patch h1 h1') ⟨[], ids ++ (List.range (h1'.n - h.n)).map (h.n + ·), h1.toks ++ h1'.toks⟩ where
  sub := hs
  n := n
  m := m
  eq := rfl
  rd id x := .inr (List.mem_append_left _ (hi id x))
  wr id a b := List.mem_append_right _ (List.mem_map.2 ⟨id - h.n, by simp; omega, by omega⟩)
  chg id x hx := absurd (List.mem_append_left _ (hi id x)) hx
  tk t x := List.mem_append_left _ x
  tn t x := List.mem_append_right _ x
  le := by omega
  lem := by omega
theorem cut_sub (h : H) (ids toks : List Nat) : (h.cut ids toks).sub h := by
  refine ⟨fun j o hj => ?_, fun t ht => ?_⟩
  · simp only [H.cut] at hj
    split at hj
    · exact hj
    · cases hj
  · simp only [H.cut, List.mem_filter] at ht
    exact ht.1
theorem cut_ids (h : H) (ids toks : List Nat) (id : Nat) (hx : ((h.cut ids toks).objs id).isSome) : id ∈ ids := by
  simp only [H.cut] at hx
  split at hx
  · rename_i e; simpa using e
  · cases hx
theorem ACalls.pure0 {f : FuncId} {args : List AV} {r r' : AV} {h' : H} (ha : VPures args) (hc : ACalls P f args (H0 0 0) r h') (hs : VSub r r') (hp : VPure r') : PCalls P f args r' := by
  intro n m G w vs hv R F
  let G0 : Ghost := { G with dom := fun _ => False, tdom := fun _ => False }
  refine (hc G0 w vs (ha G G0 w vs rfl rfl hv) only_rep ⟨fun _ _ _ h => h, fun _ _ _ h => h⟩).mono ?_
  rintro e w' ⟨v, G', rfl, T, R', V⟩
  refine ⟨v, { G' with dom := G.dom, ι := G.ι, tdom := G.tdom, τ := G.τ }, rfl, ?_, only_rep, hp G' _ w' v rfl rfl (hs G' w' v V)⟩
  have hO : ∀ {G : Ghost} {n m} B, ¬ (H0 n m).O G B := fun B => only_O B
  have hT : ∀ {G : Ghost} {n m} B, ¬ (H0 n m).T G B := fun B ⟨t, ht, _⟩ => by simp [H0, H.only] at ht
  constructor
  · exact fun _ x => x
  · exact fun _ => .inl
  · exact fun _ _ => rfl
  · exact fun _ x => x
  · exact fun _ => .inl
  · exact fun _ _ => rfl
  · exact Nat.le_refl _
  · exact Nat.le_refl _
  · exact T.size_le
  · exact T.os
  · exact T.output
  · exact T.form
  · exact fun B hB _ _ => T.keep B hB (hO B) (hT B)
  · exact fun B hB _ => T.own_keep B hB (hO B)
  · exact fun B hB _ _ => T.lim_keep B hB (hO B) (hT B)
  · exact fun B hB x => absurd x (hT B)
  · exact fun B _ x => absurd x (hO B)
  · exact fun B _ x => absurd x (hT B)
  · exact fun j o x => by simp [H0, H.only, none'] at x
  · exact fun t x => by simp [H0, H.only] at x
theorem FnIs.pcalls0 {f : FuncId} {N : Nat} {ac : AC} {args : List AV} {ds : List RV} {r : AV} (hF : FnIs P f N ac ds) (hl : args.length ≤ N) (ha : allPure args = true) (hp : isPure r = true) (hw : Wp P N ac ⟨initT args, H0 0 0⟩ fun e s' => isEnd e ∧ ∃ q, resOf ds s'.t s'.h = some q ∧ VSub q r) : PCalls P f args r := by
  obtain ⟨r', h', hcall, hs⟩ := hF.acalls (Q := fun r' _ => VSub r' r) hl hw
  exact hcall.pure0 (allPure_ok _ ha) hs (isPure_ok _ hp)
end
end Go.Av
end
section
set_option linter.unusedSimpArgs false
set_option linter.unusedVariables false
set_option maxRecDepth 10000
namespace Go.Av
section
variable {P : Program}
def cloneC (sz bytes : Nat) : AC := (.seq (.reg [⟨some 2, none, .mov (.c (.sl sz [] (.exact 0)))⟩] none)
 (.seq (.seq (.reg [⟨some 3, none, .mov (.t 0)⟩, ⟨some 4, none, .eqN false (.t 3)⟩] none)
 (.cond (.t 4) (.seq (.reg [⟨some 2, none, .mov (.c (.sl sz [] (.exact 0)))⟩] none)
 .ret) .skip))
 (.seq (.reg [⟨some 5, none, .buildSl sz []⟩, ⟨some 6, none, .mov (.t 0)⟩, ⟨some 7, none, .app false sz bytes (.t 5) (.t 6)⟩, ⟨some 2, none, .mov (.t 7)⟩] none)
 .ret)))
theorem VSub.own {sz : Nat} {xs : List AV} {t : Nat} : VSub (.sl sz xs (.own t)) (.sl sz xs .any) := VSub.cap
theorem VSub.sc_empty {sz : Nat} {a : Option Addr} {C : Nat} (h : C = 0 ∨ ∃ B off, a = some ⟨B, off, none⟩) : VSub (.sc (.slice a 0 C)) (.sl sz [] .any) := by
  intro G w v hv
  simp only [VRel] at hv
  subst hv
  unfold VRel
  rcases h with rfl | ⟨B, off, rfl⟩
  · exact .inl ⟨rfl, ⟨a, rfl⟩, trivial⟩
  · exact .inr ⟨B, off, C, [], rfl, Nat.zero_le _, by simp, by simp [VElems], Imm.nil, trivial⟩
theorem ACalls.split_empty {f : FuncId} {sz : Nat} {c : Cap} {rest : List AV} {h h' : H} {r : AV} (hc : ∀ a C, (C = 0 ∨ ∃ B off, a = some ⟨B, off, none⟩) → ACalls P f (.sc (.slice a 0 C) :: rest) h r h') : ACalls P f (.sl sz [] c :: rest) h r h' := by
  intro G w vs hv R F
  simp only [VRels] at hv
  obtain ⟨v, us, rfl, hv, hr⟩ := hv
  simp only [VRel] at hv
  rcases hv with ⟨-, ⟨a, rfl⟩, -⟩ | ⟨B, off, C, ws, rfl, -⟩
  · exact hc a 0 (.inl rfl) G w _ (.cons (by simp [VRel]) hr) R F
  · exact hc _ C (.inr ⟨B, off, rfl⟩) G w _ (.cons (by simp [VRel]) hr) R F
def OLe (f f' : Nat → Option Obj) : Prop := ∀ j o', f' j = some o' → ∃ o, f j = some o ∧ OSub o o'
theorem OLe.refl (f : Nat → Option Obj) : OLe f f := fun j o h => ⟨o, h, OSub.refl o⟩
theorem OLe.none (f : Nat → Option Obj) : OLe f none' := fun j o h => by cases h
theorem OLe.upd {f f' : Nat → Option Obj} {i : Nat} {o o' : Obj} (h : OLe f f') (hs : OSub o o') : OLe (upd f i (some o)) (upd f' i (some o')) := by
  intro j p hp
  simp only [Go.Av.upd] at hp ⊢
  split at hp
  · rename_i e; rw [if_pos e]; cases hp; exact ⟨o, rfl, hs⟩
  · rename_i e; rw [if_neg e]; exact h j p hp
theorem StLe.of {t t' : Tm} {f f' : Nat → Option Obj} {n n' m m' : Nat} {k k' : List Nat} (ht : ∀ i, VSub (t i) (t' i)) (ho : OLe f f') (hk : ∀ x ∈ k', x ∈ k) (hn : n ≤ n') (hm : m ≤ m') : StLe ⟨t, ⟨f, n, k, m⟩⟩ ⟨t', ⟨f', n', k', m'⟩⟩ :=
  StLe.mk' ht ⟨ho, hk⟩ hn hm
theorem OLe.put {f f' : Nat → Option Obj} {i : Nat} {o o' : Obj} (h : OLe f f') (hf : f i = some o) (hs : OSub o o') : OLe f (Go.Av.upd f' i (some o')) := by
  intro j p hp
  simp only [Go.Av.upd] at hp
  split at hp
  · rename_i e; subst e; cases hp; exact ⟨o, hf, hs⟩
  · exact h j p hp
end
end Go.Av
end
section
set_option linter.unusedVariables false
set_option linter.unusedSimpArgs false
namespace Go.Av
open Classical in
section
variable {P : Program} {G : Ghost} {h : H} {w : World}
def H.DO (h : H) (G : Ghost) (d : Nat → Bool) (B : Nat) : Prop := ∃ id o, d id = true ∧ h.objs id = some o ∧ G.ι id = B
def H.drop (h : H) (d : Nat → Bool) : H := { h with objs := fun j => if d j then none else h.objs j }
noncomputable def Ghost.frz (G : Ghost) (h : H) (d : Nat → Bool) : Ghost :=
  { G with own := fun B => G.own B ∧ ¬ h.DO G d B, lim := fun B => if h.DO G d B then none else G.lim B }
theorem DO_O {d : Nat → Bool} {B : Nat} (x : h.DO G d B) : h.O G B := by
  obtain ⟨id, o, -, a, b⟩ := x
  exact ⟨id, o, a, b⟩
theorem frz_trans (d : Nat → Bool) : Trans G w h (G.frz h d) w (h.drop d) := by
  have hsub : ∀ B, (h.drop d).O (G.frz h d) B → h.O G B := by
    rintro B ⟨id, o, a, b⟩
    simp only [H.drop] at a
    split at a
    · cases a
    · exact ⟨id, o, a, b⟩
  constructor
  · exact fun _ x => x
  · exact fun _ => .inl
  · exact fun _ _ => rfl
  · exact fun _ x => x
  · exact fun _ => .inl
  · exact fun _ _ => rfl
  · exact Nat.le_refl _
  · exact Nat.le_refl _
  · exact Nat.le_refl _
  · rfl
  · rfl
  · intro B hB
    exact SameForm.refl _
  · exact fun _ _ _ _ => rfl
  · intro B hB hO
    have : ¬ h.DO G d B := fun x => hO (DO_O x)
    simp [Ghost.frz, this]
  · intro B hB hO hT
    have : ¬ h.DO G d B := fun x => hO (DO_O x)
    simp [Ghost.frz, this]
  · intro B hB hT hO e he
    have : ¬ h.DO G d B := fun x => hO (DO_O x)
    refine ⟨fun _ _ => rfl, fun e' he' => ?_⟩
    simp only [Ghost.frz, this, if_false] at he'
    rw [he] at he'
    cases he'
    exact Nat.le_refl _
  · exact fun B _ x => hsub B x
  · exact fun B _ x => x
  · intro j o a
    simp only [H.drop] at a
    split at a
    · cases a
    · exact .inl ⟨o, a⟩
  · exact fun t x => .inl x
theorem frz_rep (R : RepH G h w) (d : Nat → Bool) : RepH (G.frz h d) (h.drop d) w := by
  have hd : ∀ {id o}, (h.drop d).objs id = some o → h.objs id = some o ∧ d id = false := by
    intro id o a
    simp only [H.drop] at a
    split at a
    · cases a
    · rename_i q; exact ⟨a, by simpa using q⟩
  constructor
  · intro id o a
    obtain ⟨a, q⟩ := hd a
    obtain ⟨r1, r2, r3, r4⟩ := R.obj id o a
    refine ⟨r1, ⟨r2, ?_⟩, r3, ?_⟩
    · rintro ⟨id', o', x1, x2, x3⟩
      have := R.inj _ _ _ _ x2 a x3
      subst this
      rw [x1] at q; cases q
    · cases o with
      | cells cs =>
        obtain ⟨vs, rest, T, fr, y1, y2, y3⟩ := r4
        exact ⟨vs, rest, T, fr, y1, VRels.mono R (frz_trans d) _ _ y2, y3⟩
      | map es =>
        obtain ⟨en, clock, y1, y2⟩ := r4
        exact ⟨en, clock, y1, Entries.mono R (frz_trans d) _ _ y2⟩
      | loop N t ps asg body st pend =>
        obtain ⟨r, y1, y2, y3, y4⟩ := r4
        exact ⟨r, y1, y2, fun i => VRel.mono R (frz_trans d) _ _ (y3 i), y4⟩
      | raw c => exact r4
      | bk c => exact r4
  · intro id id' o o' a b e
    exact R.inj _ _ _ _ (hd a).1 (hd b).1 e
  · intro t ht
    obtain ⟨r1, r2⟩ := R.tok t ht
    refine ⟨r1, fun B e q => ?_⟩
    obtain ⟨x1, x2, x3⟩ := r2 B e q
    have : ¬ h.DO G d B := by
      rintro ⟨id, o, y1, y2, y3⟩
      have := (R.obj id o y2).2.1
      rw [y3] at this
      exact x2 this
    refine ⟨by simp only [Ghost.frz, this, if_false]; exact x1, fun x => x2 x.1, x3⟩
  · exact fun t ht t' ht' B e e' a b => R.tinj t ht t' ht' B e e' a b
theorem one_cells {v : Value} (h : One v) : v.cells = #[v] := by
  obtain ⟨a, b⟩ := h
  cases v <;> first | rfl | exact absurd rfl (a _) | exact absurd rfl (b _)
theorem frz_tsl (R : RepH G h w) {d : Nat → Bool} {id off len : Nat} {c : Option Nat} {cs : List AV} {v : Value} (ho : h.objs id = some (.cells cs)) (hd : d id = true) (hl : off + len ≤ cs.length) (r : VRel G w (.tsl 1 id off len c) v) :
    VRel (G.frz h d) w (.sl 1 ((cs.drop off).take len) .any) v := by
  simp only [VRel] at r
  obtain ⟨-, ⟨C, cc, Tt, fr, rfl, ⟨h2, -⟩, -⟩ | ⟨h0, ⟨a, rfl⟩, -⟩⟩ := r
  · obtain ⟨-, r2, r3, vs, rest, T, fr', y1, y2, y3, y4⟩ := R.obj id _ ho
    have hlen := VRels.length y2
    have hx : VRels (G.frz h d) w ((cs.drop off).take len) ((vs.drop off).take len) := VRels.mono R (frz_trans d) _ _ (VRels.take len (VRels.drop off y2))
    have h1 : ∀ v ∈ (vs.drop off).take len, One v := fun v hv => y4 v (List.mem_of_mem_drop (List.mem_of_mem_take hv))
    have he := elems_of_rels (sz := 1) hx (fun v hv => by rw [one_cells (h1 v hv)]; rfl)
    have hfl : ((vs.drop off).take len).flatMap (·.cells.toList) = (vs.drop off).take len := by
      have : ∀ l : List Value, (∀ v ∈ l, One v) → l.flatMap (·.cells.toList) = l := by
        intro l
        induction l with
        | nil => intro _; rfl
        | cons x l ih => intro hl; rw [List.flatMap_cons, one_cells (hl x (by simp)), ih (fun v hv => hl v (by simp [hv]))]; rfl
      exact this _ h1
    rw [hfl] at he
    unfold VRel
    refine .inr ⟨G.ι id, off, C, (vs.drop off).take len, ?_, ?_, ?_, he, ?_, trivial⟩
    · rw [List.length_take, List.length_drop]; congr 1; omega
    · rw [List.length_take]; omega
    · simp only [List.length_take, List.length_drop]; omega
    · intro i v hi
      have hi' := (List.getElem?_eq_some_iff.1 hi).1
      rw [List.length_take, List.length_drop] at hi'
      have hv1 : vs[off + i]? = some v := by
        rw [List.getElem?_take_of_lt (by omega), List.getElem?_drop] at hi
        exact hi
      refine ⟨?_, h1 v (List.mem_of_getElem? hi), ?_, ?_⟩
      · unfold World.cell?
        simp only [y1]
        simp [List.getElem?_append_left (show off + i < vs.length by omega), hv1]
      · exact fun x => x.2 ⟨id, _, hd, ho, rfl⟩
      · intro e he'
        have : h.DO G d (G.ι id) := ⟨id, _, hd, ho, rfl⟩
        simp [Ghost.frz, this] at he'
  · subst h0
    unfold VRel
    exact .inl ⟨by simp, ⟨_, rfl⟩, trivial⟩
theorem frz_ptr (R : RepH G h w) {d : Nat → Bool} {id off : Nat} {cs : List AV} {v : Value} (ho : h.objs id = some (.cells cs)) (hd : d id = true) (r : VRel G w (.ptr id off) v) :
    VRel (G.frz h d) w (.ref (cs.drop off)) v := by
  simp only [VRel] at r
  obtain ⟨-, rfl⟩ := r
  obtain ⟨-, r2, r3, vs, rest, T, fr', y1, y2, y3, y4⟩ := R.obj id _ ho
  unfold VRel
  refine ⟨G.ι id, off, vs.drop off, rfl, VRels.mono R (frz_trans d) _ _ (VRels.drop off y2), ?_⟩
  intro i v hi
  have hv1 : vs[off + i]? = some v := by rw [List.getElem?_drop] at hi; exact hi
  have hi' := (List.getElem?_eq_some_iff.1 hv1).1
  refine ⟨?_, y4 v (List.mem_of_getElem? hv1), ?_, ?_⟩
  · unfold World.cell?
    simp only [y1]
    simp [List.getElem?_append_left hi', hv1]
  · exact fun x => x.2 ⟨id, _, hd, ho, rfl⟩
  · intro e he'
    have : h.DO G d (G.ι id) := ⟨id, _, hd, ho, rfl⟩
    simp [Ghost.frz, this] at he'
mutual
def unT (h : H) (d : Nat → Bool) : AV → AV
  | .tsl sz id off len c => if sz = 1 ∧ d id = true then (match h.objs id with
    | some (.cells cs) => if off + len ≤ cs.length then .sl 1 ((cs.drop off).take len) .any else .any
    | _ => .any) else .tsl sz id off len c
  | .ptr id off => if d id = true then (match h.objs id with
    | some (.cells cs) => .ref (cs.drop off)
    | _ => .any) else .ptr id off
  | .agg xs => .agg (unTs h d xs)
  | .tup xs => .tup (unTs h d xs)
  | .clo fn a b => .clo fn (unTs h d a) (unTs h d b)
  | x => x
def unTs (h : H) (d : Nat → Bool) : List AV → List AV
  | [] => []
  | x :: xs => unT h d x :: unTs h d xs
end
mutual
theorem unT_rel (R : RepH G h w) (d : Nat → Bool) : ∀ (x : AV) (v : Value), VRel G w x v → VRel (G.frz h d) w (unT h d x) v
  | .tsl sz id off len c, v, r => by
    unfold unT
    split
    · rename_i hs
      obtain ⟨rfl, hd⟩ := hs
      split
      · rename_i cs ho
        split
        · rename_i hl
          exact frz_tsl R ho hd hl r
        · simp [VRel]
      · simp [VRel]
    · exact VRel.mono R (frz_trans d) _ _ r
  | .agg xs, v, r => by
    simp only [unT, VRel] at r ⊢
    obtain ⟨vs, e, r⟩ := r
    exact ⟨vs, e, unTs_rel R d xs vs r⟩
  | .tup xs, v, r => by
    simp only [unT, VRel] at r ⊢
    obtain ⟨vs, e, r⟩ := r
    exact ⟨vs, e, unTs_rel R d xs vs r⟩
  | .any, v, r => by simp [unT, VRel]
  | .int k n, v, r => by unfold unT; exact VRel.mono R (frz_trans d) _ _ r
  | .bool b, v, r => by unfold unT; exact VRel.mono R (frz_trans d) _ _ r
  | .str l, v, r => by unfold unT; exact VRel.mono R (frz_trans d) _ _ r
  | .sc x, v, r => by unfold unT; exact VRel.mono R (frz_trans d) _ _ r
  | .sl sz xs c, v, r => by unfold unT; exact VRel.mono R (frz_trans d) _ _ r
  | .ref cs, v, r => by unfold unT; exact VRel.mono R (frz_trans d) _ _ r
  | .ptr id off, v, r => by
    unfold unT
    split
    · rename_i hd
      split
      · rename_i cs ho
        exact frz_ptr R ho hd r
      · simp [VRel]
    · exact VRel.mono R (frz_trans d) _ _ r
  | .clo fn a b, v, r => by
    simp only [unT, VRel] at r ⊢
    obtain ⟨vs, us, e, r1, r2⟩ := r
    exact ⟨vs, us, e, unTs_rel R d a vs r1, unTs_rel R d b us r2⟩
  | .ifc t x, v, r => by unfold unT; exact VRel.mono R (frz_trans d) _ _ r
  | .mp id, v, r => by unfold unT; exact VRel.mono R (frz_trans d) _ _ r
  | .yld id, v, r => by unfold unT; exact VRel.mono R (frz_trans d) _ _ r
  | .slt sz xs ys, v, r => by unfold unT; exact VRel.mono R (frz_trans d) _ _ r
  | .sup B, v, r => by unfold unT; exact VRel.mono R (frz_trans d) _ _ r
  | .supb B, v, r => by unfold unT; exact VRel.mono R (frz_trans d) _ _ r
  | .wint k, v, r => by unfold unT; exact VRel.mono R (frz_trans d) _ _ r
  | .one, v, r => by unfold unT; exact VRel.mono R (frz_trans d) _ _ r
theorem unTs_rel (R : RepH G h w) (d : Nat → Bool) : ∀ (xs : List AV) (vs : List Value), VRels G w xs vs → VRels (G.frz h d) w (unTs h d xs) vs
  | [], vs, r => by simpa [unTs, VRels] using r
  | x :: xs, vs, r => by
    simp only [unTs, VRels] at r ⊢
    obtain ⟨v, us, e, r1, r2⟩ := r
    exact ⟨v, us, e, unT_rel R d x v r1, unTs_rel R d xs us r2⟩
end
theorem frz_le (t : Tm) (h : H) (d : Nat → Bool) : StLe ⟨t, h⟩ ⟨fun i => unT h d (t i), h.drop d⟩ where
  n := Nat.le_refl _
  m := Nat.le_refl _
  go := fun N G w a r _ => ⟨G.frz h d, frz_trans d, ⟨r.size, fun i => unT_rel r.h d _ _ (r.t i), frz_rep r.h d, r.df.mono (frz_trans d)⟩⟩
theorem ACalls.frz {f : FuncId} {args : List AV} {h h' : H} {r : AV} (hc : ACalls P f args h r h') (d : Nat → Bool) : ACalls P f args h (unT h' d r) (h'.drop d) := by
  intro G w vs hv R F
  refine (hc G w vs hv R F).mono ?_
  rintro e w' ⟨v, G', rfl, T, R', V⟩
  exact ⟨v, G'.frz h' d, rfl, T.trans R R' (frz_trans d), frz_rep R' d, unT_rel R' d _ _ V⟩
end
end Go.Av
end
section
set_option linter.unusedVariables false
set_option linter.unusedSimpArgs false
namespace Go.Av
section
variable {P : Program} {N : Nat} {o : Oper} {t : Tm} {h : H} {en : Ent}
theorem shaped_or {x : AV} (h : shaped x = true) : isCell x = true ∨ ∃ cs, x = .agg cs := by
  unfold shaped at h
  simp only [Bool.or_eq_true] at h
  rcases h with h | h
  · exact .inl h
  · cases x <;> simp at h
    exact .inr ⟨_, rfl⟩
theorem rels_of_elems {G : Ghost} {w : World} {sz : Nat} : ∀ {els : List AV} {vs : List Value}, VElems G w sz els vs → els.all shaped = true → VRels G w (els.flatMap cellsOf) vs
  | [], vs, h, _ => by simpa [VElems, VRels] using h
  | x :: els, vs, h, ha => by
    simp only [VElems] at h
    obtain ⟨v, us, rfl, h1, h2, h3⟩ := h
    simp only [List.all_cons, Bool.and_eq_true] at ha
    rw [List.flatMap_cons]
    exact (cells_of h2 (shaped_or ha.1)).append (rels_of_elems h3 ha.2)
theorem appT_loc {c : Call} {zs zx : Operand} {ys yx : Opd} {T U e : TypeId} {d : TypeDesc} {i : TypeInfo} {s : Nat} {els : List AV} (hop : o.op = .call c) (hc : c.callee = .builtin .append) (ha : c.args.toList = [zs, zx]) (hta : c.argTypes.toList = [T, U])
    (hT : P.underlying T = some (.slice e)) (hU : P.underlying U = some d) (hd : (∃ e', d = .slice e') ∨ d = .string) (hi : P.info? e = some i) (hz : i.zero.any (fun z => z.cells.size == i.size) = true) (hsz : 0 < i.size)
    (hys : opd P T zs = some ys) (hyx : opd P U zx = some yx) (hs : ev t ys = .sl s [] (.exact 0)) (hx : ∃ s' c', ev t yx = .sl s' els c' ∧ s' = i.size) (hsh : els.all shaped = true) (hne : 0 < els.length)
    (hb : els.length * i.bytes ≤ 140737488355328) (hlen : els.length < 4611686018427387904) :
    Loc P o t h (.tsl i.size h.n 0 els.length none) { h with objs := upd h.objs h.n (some (.cells (els.flatMap cellsOf))), n := h.n + 1 } ⟨[], [h.n], []⟩ := by
  have ha' : c.args = #[zs, zx] := by rw [← Array.toArray_toList (xs := c.args), ha]
  have hta' : c.argTypes = #[T, U] := by rw [← Array.toArray_toList (xs := c.argTypes), hta]
  obtain ⟨z, hz1, hz2⟩ : ∃ z, i.zero = some z ∧ z.cells.size = i.size := by
    cases hzz : i.zero with
    | none => rw [hzz] at hz; simp at hz
    | some z => rw [hzz] at hz; exact ⟨z, rfl, by simpa using hz⟩
  refine ⟨_, _, touch_new h _, fun G w a ht R F => ?_⟩
  have r1 := opd_rel hys ht
  have r2 := opd_rel hyx ht
  rw [hs] at r1
  obtain ⟨s', c', hx, hs'⟩ := hx
  rw [hx] at r2
  obtain ⟨news, n1, n2, n3⟩ := src_slice (P := P) (.inl hs') r2
  have hbase : ∃ a0, a.eval zs = .slice a0 0 0 := by
    simp only [VRel, CapOk] at r1
    rcases r1 with ⟨-, h, -⟩ | ⟨B, off, C, vs, q1, -, -, -, -, q6⟩
    · exact h
    · subst q6; exact ⟨_, by simpa using q1⟩
  obtain ⟨a0, ha0⟩ := hbase
  obtain ⟨w', C, rest, e1, e2, e3, e4⟩ := run_append_grows (ty := o.type) hT hU hd hi hz1 hz2 hsz n1 (src_none a0) (by omega) (Nat.le_refl _) (by simpa using hb) (by simpa using hlen)
  rw [List.nil_append] at e2
  simp only [Nat.zero_add] at e1 e3 e4
  have hnl := n2.length
  obtain ⟨G', T1, R1, V⟩ := new_tsl (m := h.m) (sz := i.size) e2 (rels_of_elems n2 hsh) n3 (fresh_n F (by simp [H.only])) e3 (by omega)
  refine ⟨.value _, _, w', G', ?_, .inl rfl, T1, R1, V⟩
  simp [execOp, hop, resolve, hc, ha', hta', invoke, builtin, ha0, e1]
theorem buildSlT_loc {ty e : TypeId} {len : Nat} {parts : Array (Nat × Operand)} {ys : List Opd} {z : Value} (hop : o.op = .buildSlice ty len parts) (hu : P.underlying ty = some (.slice e)) (hi : (P.info? e).isSome = true) (hn : parts.size = len) (hpos : 0 < P.cellsOf e)
    (hz : (P.info? e).bind (·.zero) = some z) (hzs : z.cells.size = P.cellsOf e)
    (hys : elemsOf P e 0 parts.toList = some ys) (hs : ∀ y ∈ ys, (cellsOf (ev t y)).length = P.cellsOf e ∧ shaped (ev t y) = true) (hle : ys.length * P.cellsOf e ≤ 16777216) :
    Loc P o t h (.tsl (P.cellsOf e) h.n 0 ys.length none) { h with objs := upd h.objs h.n (some (.cells ((ys.map (ev t)).flatMap cellsOf))), n := h.n + 1 } ⟨[], [h.n], []⟩ := by
  refine ⟨_, _, touch_new h _, fun G w a ht R F => ?_⟩
  obtain ⟨r1, r2, r3⟩ := opdVals_rel ht hys
  simp only [Array.length_toList, hn] at r2 r3
  have hsz : ∀ v ∈ parts.toList.map (fun p => a.eval p.2), v.cells.size = P.cellsOf e ∧ ∀ u ∈ v.cells.toList, One u := by
    intro v hv
    obtain ⟨k, hk⟩ := List.getElem?_of_mem hv
    have hlt : k < (parts.toList.map (fun p => a.eval p.2)).length := by
      rcases Nat.lt_or_ge k (parts.toList.map (fun p => a.eval p.2)).length with h | h
      · exact h
      · rw [List.getElem?_eq_none h] at hk; cases hk
    have hlt' : k < ys.length := by simp at hlt; omega
    obtain ⟨u, hu1, hu2⟩ := r1.get (i := k) (x := ev t ys[k]) (by simp [List.getElem?_eq_getElem hlt'])
    have e : u = v := Option.some.inj (hu1.symm.trans hk)
    subst e
    obtain ⟨s1, s2⟩ := hs ys[k] (List.getElem_mem hlt')
    obtain ⟨c1, c2⟩ := shaped_cells hu2 s2
    have := c1.length
    exact ⟨by simpa [s1] using this, cells_one c1 c2⟩
  generalize hV : parts.toList.map (fun p => a.eval p.2) = vals at *
  have hvl : vals.length = len := by rw [← hV]; simp [hn]
  have he := elems_of_rels r1 fun v hv => (hsz v hv).1
  have hfl : (vals.flatMap (·.cells.toList)).length = len * P.cellsOf e := by
    have := he.length; rw [this]; simp [r3]
  have hfill : ∀ cells : Array Value, cells.size = len * P.cellsOf e → Instr.fill (fun i => some (i * P.cellsOf e, P.cellsOf e)) cells ((parts.map fun (i, x) => (i, a.eval x)).toList) = some (vals.flatMap (·.cells.toList)).toArray := by
    intro cells hc
    have hz : (parts.map fun (i, x) => (i, a.eval x)).toList = (List.range' 0 vals.length).zip vals := by
      have : ∀ l : List (Nat × Operand), l.map (fun (i, x) => (i, a.eval x)) = (l.map (·.1)).zip (l.map fun p => a.eval p.2) := by
        intro l; induction l with
        | nil => rfl
        | cons p l ih => simp [ih]
      rw [Array.toList_map, this, r2, hV, hvl]
    rw [hz]
    have := fill_elems (sz := P.cellsOf e) (cells := cells) vals 0 [] cells (by simp) (by simp) (by rw [hc, hvl]; simp) (fun v hv => (hsz v hv).1)
    simpa using this
  have hle' : ¬ (len * P.cellsOf e > 16777216) := by rw [← r3]; omega
  obtain ⟨G', T1, R1, V⟩ := new_tsl (m := h.m) (sz := P.cellsOf e) (len := len) (C := len) (rest := []) (vs := vals.flatMap fun v : Value => v.cells.toList) (pushed_alloc w (.cells ((vals.flatMap fun v : Value => v.cells.toList) ++ []).toArray e (0, 0))) (rels_of_elems he (by
    rw [List.all_map]
    exact List.all_eq_true.2 fun y hy => (hs y hy).2)) (by
    intro u hu
    obtain ⟨v, hv, hu'⟩ := List.mem_flatMap.1 hu
    exact (hsz v hv).2 u hu') (fresh_n F (by simp [H.only])) ⟨Nat.le_refl _, by
    have := Nat.le_mul_of_pos_right len hpos
    omega⟩ (by rw [hfl]; simp)
  rw [List.append_nil] at T1 R1 V
  refine ⟨.value (.slice (some ⟨w.heap.size, 0, none⟩) len len), _, _, G', ?_, .inl rfl, T1, R1, by rw [r3]; exact V⟩
  obtain ⟨i, hi1, hi2⟩ := Option.bind_eq_some_iff.1 hz
  have hle2 : ¬ (16777216 < len * P.cellsOf e) := by omega
  have hmap : ∀ (zc : Array Value), ((Array.range (len * P.cellsOf e)).map (zc[· % zc.size]!)).size = len * P.cellsOf e := by intro zc; simp
  have hrz : (zeroValue e).run P w = .ok z w := by simp [zeroValue, typeInfo, hi1, hi2]
  simp only [execOp, hop, Sem.run_bind, Instr.buildSlice, run_underlying hu, Result.andThen_ok, run_size P w e hi, if_neg hle2, Sem.run_pure, Sem.run_ite, hrz, hfill _ (hmap _)]
  by_cases h0 : len * P.cellsOf e = 0
  · rw [if_pos h0]; simp [newRow]
  · rw [if_neg h0]; simp [newRow]
theorem app0_loc {c : Call} {zs zx : Operand} {ys yx : Opd} {T U e : TypeId} {d : TypeDesc} {i : TypeInfo} {s s' : Nat} {xs : List AV} {cp c' : Cap} (hop : o.op = .call c) (hc : c.callee = .builtin .append) (ha : c.args.toList = [zs, zx]) (hta : c.argTypes.toList = [T, U])
    (hT : P.underlying T = some (.slice e)) (hU : P.underlying U = some d) (hd : (∃ e', d = .slice e') ∨ d = .string) (hi : P.info? e = some i)
    (hys : opd P T zs = some ys) (hyx : opd P U zx = some yx) (hs : ev t ys = .sl s xs cp) (hx : ev t yx = .sl s' [] c') : Loc P o t h (.sl s xs cp) h ent0 := by
  have ha' : c.args = #[zs, zx] := by rw [← Array.toArray_toList (xs := c.args), ha]
  have hta' : c.argTypes = #[T, U] := by rw [← Array.toArray_toList (xs := c.argTypes), hta]
  refine Loc.plain fun G w a ht => ?_
  have r1 := opd_rel hys ht
  have r2 := opd_rel hyx ht
  rw [hs] at r1
  rw [hx] at r2
  obtain ⟨news, n1, n2, -⟩ := src_slice (P := P) (sz := i.size) (.inr rfl) r2
  have hnn : news = [] := by simpa [VElems] using n2
  subst hnn
  obtain ⟨base, len, C, hv, hlC⟩ : ∃ base len C, a.eval zs = .slice base len C ∧ len ≤ C := by
    simp only [VRel] at r1
    rcases r1 with ⟨-, ⟨a0, h⟩, -⟩ | ⟨B, off, C, vs, q1, q2, -⟩
    · exact ⟨_, _, _, h, Nat.le_refl _⟩
    · exact ⟨_, _, _, q1, q2⟩
  have hrun := run_append_fits (ty := o.type) (base := base) (sLen := len) (sCap := C) (w' := w) hT hU hd hi n1 (by simpa using hlC) (by cases base <;> simp [storeCells])
  refine ⟨a.eval zs, ?_, r1⟩
  simp [execOp, hop, resolve, hc, ha', hta', invoke, builtin, hv] at hrun ⊢
  rw [hrun]
  rfl
def aopT (ρ : Opd → AV) (h : H) : AOp → Option (AV × H × Ent)
  | .app false sz bytes s x => match ρ s, ρ x with
    | .sl s xs c, .sl _ [] _ => some (.sl s xs c, h, ent0)
    | .sl _ [] (.exact 0), .sl s' els _ => if s' = sz ∧ els.all shaped = true ∧ 0 < els.length ∧ els.length * bytes ≤ 140737488355328 ∧ els.length < 4611686018427387904 then
        some (.tsl sz h.n 0 els.length none, { h with objs := upd h.objs h.n (some (.cells (els.flatMap cellsOf))), n := h.n + 1 }, ⟨[], [h.n], []⟩) else none
    | _, _ => none
  | .buildSl sz parts => if parts.all (fun x => (cellsOf (ρ x)).length = sz ∧ shaped (ρ x)) = true ∧ parts.length * sz ≤ 16777216 then
      some (.tsl sz h.n 0 parts.length none, { h with objs := upd h.objs h.n (some (.cells ((parts.map ρ).flatMap cellsOf))), n := h.n + 1 }, ⟨[], [h.n], []⟩) else none
  | _ => none
theorem cOp_app {sz bytes : Nat} {ys yx : Opd} (h : cOp P o = some (.app false sz bytes ys yx)) : ∃ c zs zx T U e e' i, o.op = .call c ∧ c.callee = .builtin .append ∧ c.args.toList = [zs, zx] ∧ c.argTypes.toList = [T, U] ∧
    opd P T zs = some ys ∧ opd P U zx = some yx ∧ P.underlying T = some (.slice e) ∧ P.underlying U = some (.slice e') ∧ P.info? e = some i ∧ 0 < i.size ∧ (i.zero.any fun z => z.cells.size == i.size) = true ∧ i.size = sz ∧ i.bytes = bytes := by
  unfold cOp at h
  split at h
  case h_28 c hop =>
    split at h
    case h_7 hcal =>
      split at h
      · rename_i zs zx T U ha hta
        split at h
        · split at h
          · split at h
            · rename_i hq
              cases h
              exact ⟨c, zs, zx, T, U, _, _, _, hop, hcal, ha, hta, ‹_›, ‹_›, ‹_›, ‹_›, ‹_›, hq.1, hq.2, rfl, rfl⟩
            · cases h
          · cases h
        · (repeat' split at h) <;> (try cases h) <;> simp at h
        · (repeat' split at h) <;> (try cases h) <;> simp at h
        · cases h
      · cases h
    all_goals first
      | (cases h; done)
      | ((repeat' split at h) <;> (try cases h) <;> simp at h)
  all_goals first
    | (cases h; done)
    | (simp at h; done)
    | ((repeat' split at h) <;> (try cases h) <;> (try simp at h) ; done)
    | skip
theorem cOp_buildSl {sz : Nat} {ys : List Opd} (h : cOp P o = some (.buildSl sz ys)) : ∃ ty e len parts z, o.op = .buildSlice ty len parts ∧ P.underlying ty = some (.slice e) ∧ (P.info? e).isSome = true ∧ parts.size = len ∧ 0 < P.cellsOf e ∧ (P.info? e).bind (·.zero) = some z ∧ z.cells.size = P.cellsOf e ∧
    elemsOf P e 0 parts.toList = some ys ∧ sz = P.cellsOf e := by
  unfold cOp at h
  split at h
  case h_7 ty len parts hop =>
    split at h
    · split at h
      · rename_i hq
        simp only [Option.map_eq_some_iff] at h
        obtain ⟨l, h1, h2⟩ := h
        cases h2
        obtain ⟨q1, q2, q3, q4⟩ := hq
        cases hz : (P.info? _).bind (·.zero) with
        | none => rw [hz] at q4; simp at q4
        | some z => rw [hz] at q4; exact ⟨ty, _, len, parts, z, hop, ‹_›, q2, q1, q3, hz, by simpa using q4, h1, rfl⟩
      · cases h
    · cases h
  all_goals first
    | (cases h; done)
    | (simp at h; done)
    | ((repeat' split at h) <;> (try cases h) <;> (try simp at h) ; done)
    | skip
theorem aopT_loc {op : AOp} {x : AV} {h' : H} (hc : cOp P o = some op) (hx : aopT (ev t) h op = some (x, h', en)) : Loc P o t h x h' en := by
  cases op <;> (try (simp [aopT] at hx; done))
  case app str sz bytes s x0 =>
    cases str <;> (try (simp [aopT] at hx; done))
    obtain ⟨c, zs, zx, T, U, e, e', i, hop, hcal, ha, hta, hys, hyx, hT, hU, hi, hs1, hs2, rfl, rfl⟩ := cOp_app hc
    simp only [aopT] at hx
    split at hx
    · cases hx
      exact app0_loc hop hcal ha hta hT hU (.inl ⟨_, rfl⟩) hi hys hyx ‹_› ‹_›
    · split at hx
      · rename_i hq
        cases hx
        exact appT_loc hop hcal ha hta hT hU (.inl ⟨_, rfl⟩) hi hs2 hs1 hys hyx ‹_› ⟨_, _, ‹_›, hq.1⟩ hq.2.1 hq.2.2.1 hq.2.2.2.1 hq.2.2.2.2
      · cases hx
    · cases hx
  case buildSl sz parts =>
    obtain ⟨ty, e, len, ps, z, hop, hu, hi, hn, hpos, hz, hzs, hys, rfl⟩ := cOp_buildSl hc
    simp only [aopT] at hx
    split at hx
    · rename_i hq
      cases hx
      exact buildSlT_loc hop hu hi hn hpos hz hzs hys (fun y hy => by simpa using List.all_eq_true.1 hq.1 y hy) hq.2
    · cases hx
theorem aopT_congr {ρ ρ' : Opd → AV} {op : AOp} (hx : ∀ y ∈ opdsOf op, ρ y = ρ' y) : aopT ρ h op = aopT ρ' h op := by
  cases op <;> (try rfl)
  case app str sz bytes s x0 =>
    cases str
    · simp only [aopT, hx s (by simp [opdsOf]), hx x0 (by simp [opdsOf])]
    · rfl
  case buildSl sz parts =>
    have e1 : parts.map ρ = parts.map ρ' := List.map_congr_left fun y hy => hx y (by simpa [opdsOf] using hy)
    have e2 : parts.all (fun x => (cellsOf (ρ x)).length = sz ∧ shaped (ρ x)) = parts.all (fun x => (cellsOf (ρ' x)).length = sz ∧ shaped (ρ' x)) := by
      refine Bool.eq_iff_iff.2 ?_
      simp only [List.all_eq_true]
      exact ⟨fun h y hy => by rw [← hx y (by simpa [opdsOf] using hy)]; exact h y hy, fun h y hy => by rw [hx y (by simpa [opdsOf] using hy)]; exact h y hy⟩
    simp only [aopT, e1, e2]
theorem itrun_opT {ops : Array Oper} {i : Nat} {o : Oper} {it : AItem} {t : Tm} {h h' : H} {x : AV} {en : Ent} (ho : ops[i]? = some o) (hit : cItem P N ops o = some it) (hg : guardOf t it.guard = some true) (hx : aopT (ev t) h it.op = some (x, h', en)) :
    ∃ h1 h1', Touch h h1 h1' h' en ∧ ItRun P ops i o t h1 x h1' := by
  unfold cItem at hit
  split at hit
  · rename_i op g hop hgd
    split at hit <;> cases hit
    rename_i hcond
    simp only [Bool.and_eq_true] at hcond
    have hop := cOpD_of hop (by rintro rfl; simp [aopT] at hx) (by cases op <;> first | rfl | (simp [aopT] at hx))
    have hx' : aopT (ev (cutTo (names ops o) t)) h op = some (x, h', en) := by
      rw [aopT_congr (cut_ev hcond.2)]; exact hx
    obtain ⟨h1, h1', tc, loc⟩ := aopT_loc hop hx'
    refine ⟨h1, h1', tc, fun G w a ht R F K Q hK ro => ?_⟩
    obtain ⟨nx, v, w', G', e1, e2, T1, R1, V⟩ := loc G w a (cut_rel ht) R F
    unfold wpOpIn
    rw [ho]
    simp only [guard_wanted hgd ht hg, if_true]
    refine ⟨fun _ _ => trivial, ?_⟩
    rw [Oper.semAt_eq _ _ _ (cOp_plain hop), e1]
    rcases e2 with rfl | ⟨rfl, rfl⟩
    · rw [Oper.uponIn_value]; exact hK G' w' v T1 R1 V
    · rw [Oper.uponIn_skip]; exact hK G' w' undef T1 R1 V
  · cases hit
theorem WpItems.opT {dst : Option Nat} {g : Option (Nat × Bool)} {op : AOp} {its : List AItem} {t : Tm} {h h' : H} {log : List Ent} {en : Ent} {K : Tm → H → List Ent → Prop} {x : AV} (hg : guardOf t g = some true) (hx : aopT (ev t) h op = some (x, h', en)) (ht : touchy op = true)
    (rest : WpItems P N its (putT t dst x) h' (en :: log) K) : WpItems P N (⟨dst, g, op⟩ :: its) t h log K := by
  intro ops i hi hc
  obtain ⟨o, ho, hit, hi', hc'⟩ := items_cons hi hc
  obtain ⟨h1, h1', tc, run⟩ := itrun_opT ho hit hg hx
  obtain ⟨recs, t', hh', ch, hk, hen⟩ := rest ops (i + 1) hi' hc'
  have hdst : dst = o.dst := by
    unfold cItem at hit
    split at hit
    · split at hit <;> cases hit; rfl
    · cases hit
  refine ⟨⟨t, h, h1, h1', h', x, en⟩ :: recs, t', hh', .cons ho rfl rfl tc (fun _ => run) (by rw [← hdst]; exact ch), by simpa using hk, ?_⟩
  intro k r it' hr hit' ht'
  cases k with
  | zero =>
    simp at hr hit'; subst hr hit'
    rw [ht] at ht'; cases ht'
  | succ k => simp at hr hit'; exact hen k r it' hr hit' ht'
theorem cloneT_gen {f : FuncId} {sz bytes : Nat} (hF : FnIs P f 8 (cloneC sz bytes) [.tmp 2]) (x : AV) (xs : List AV) (hsh : (x :: xs).all shaped = true) (hb : (xs.length + 1) * bytes ≤ 140737488355328) (hl : xs.length + 1 < 4611686018427387904) (n m : Nat) :
    ACalls P f [.sl sz (x :: xs) .any] (H0 n m) (.tsl sz n 0 (xs.length + 1) none) (.only (upd none' n (some (.cells ((x :: xs).flatMap cellsOf)))) [] (n + 1) m) := by
  obtain ⟨r, h', hc, rfl, rfl⟩ := hF.acalls (args := [.sl sz (x :: xs) .any]) (h := H0 n m) (Q := fun r h' => r = .tsl sz n 0 (xs.length + 1) none ∧ h' = .only (upd none' n (some (.cells ((x :: xs).flatMap cellsOf)))) [] (n + 1) m) (by simp) (by
    unfold cloneC
    refine Wp.seqReg (by simp only [go_sem, reduceIte, Nat.reduceEqDiff, Nat.reduceAdd, bx]; exact rfl) (by trivial) ?_
    refine Wp.seq ?_
    refine Wp.seqReg (by simp only [go_sem, reduceIte, Nat.reduceEqDiff, Nat.reduceAdd, bx]; exact rfl) (by trivial) ?_
    refine Wp.cond_false (by simp only [go_sem, reduceIte, Nat.reduceEqDiff, Nat.reduceAdd, bx]) ?_
    refine Wp.skip ?_
    refine Wp.seq (Wp.reg ?_)
    refine WpItems.part 2 (by simp only [go_sem, reduceIte, Nat.reduceEqDiff, Nat.reduceAdd, bx, Nat.zero_mul, Nat.zero_le, and_self, if_true]; exact rfl) ?_
    simp only [List.drop_succ_cons, List.drop_zero, List.drop_nil]
    refine WpItems.opT (by simp only [go_sem, reduceIte, Nat.reduceEqDiff, Nat.reduceAdd, bx]) (by simp only [aopT, go_sem, reduceIte, Nat.reduceEqDiff, Nat.reduceAdd, bx, hsh, hb, hl, List.length_cons, and_self, if_true, Nat.zero_lt_succ]; exact rfl) rfl ?_
    refine WpItems.eval (by simp only [go_sem, reduceIte, Nat.reduceEqDiff, Nat.reduceAdd, bx]; exact rfl) ?_
    refine WpItems.nil ⟨by trivial, ?_⟩
    refine Wp.ret ⟨trivial, _, rfl, rfl, ?_⟩
    rfl)
  exact hc
def H.less (h : H) (id : Nat) : H := { h with objs := fun j => if j = id then none else h.objs j }
theorem row_end {G : Ghost} {h : H} {w w' : World} {id B off C : Nat} {cs xs : List AV} {vs : List Value} (R : RepH G h w) (ho : h.objs id = some (.cells cs)) (ht : h.toks = []) (hs : w.heap.size ≤ w'.heap.size) (hos : w'.os = w.os) (hou : w'.output = w.output)
    (hk : ∀ b, b < w.heap.size → b ≠ G.ι id → w'.heap[b]? = w.heap[b]?) (hf : SameForm w.heap[G.ι id]? w'.heap[G.ι id]?) (hB : B = G.ι id ∨ w.heap.size ≤ B) (hC : xs.length ≤ C) (hl : vs.length = xs.length) (hE : ∀ G w, VElems G w 1 xs vs)
    (h1 : ∀ v ∈ vs, One v) (hc : ∀ (j : Nat) v, vs[j]? = some v → w'.cell? ⟨B, off + j, none⟩ = some v) :
    ∃ G', Trans G w h G' w' (h.less id) ∧ RepH G' (h.less id) w' ∧ VRel G' w' (.sl 1 xs .any) (.slice (some ⟨B, off, none⟩) xs.length C) := by
  let G' : Ghost := { G with own := fun b => G.own b ∧ b ≠ G.ι id ∧ b < w.heap.size, lim := fun b => if b = G.ι id ∨ w.heap.size ≤ b then none else G.lim b }
  have hO : ∀ b, ¬ h.O G b → b ≠ G.ι id := fun b hh e => hh ⟨id, _, ho, e.symm⟩
  have hd : ∀ {j o}, (h.less id).objs j = some o → h.objs j = some o ∧ j ≠ id := by
    intro j o a
    simp only [H.less] at a
    split at a
    · cases a
    · exact ⟨a, ‹_›⟩
  have T : Trans G w h G' w' (h.less id) := by
    constructor
    · exact fun _ x => x
    · exact fun _ => .inl
    · exact fun _ _ => rfl
    · exact fun _ x => x
    · exact fun _ => .inl
    · exact fun _ _ => rfl
    · exact Nat.le_refl _
    · exact Nat.le_refl _
    · exact hs
    · exact hos
    · exact hou
    · intro b hb
      by_cases e : b = G.ι id
      · subst e; exact hf
      · rw [hk b hb e]; exact SameForm.refl _
    · exact fun b hb h _ => hk b hb (hO b h)
    · intro b hb h
      simp only [G', hb, hO b h, and_true, ne_eq, not_false_eq_true]
    · intro b hb h _
      simp only [G']
      rw [if_neg]
      rintro (e | e)
      · exact hO b h e
      · omega
    · rintro b hb ⟨t, htt, _⟩
      simp [ht] at htt
    · rintro b _ ⟨j, o, a, e⟩
      exact ⟨j, o, (hd a).1, e⟩
    · rintro b _ ⟨t, htt, _⟩
      simp [H.less, ht] at htt
    · exact fun j o x => .inl ⟨o, (hd x).1⟩
    · exact fun t x => by simp [H.less, ht] at x
  refine ⟨G', T, ?_, ?_⟩
  · constructor
    · intro j o a
      obtain ⟨a, q⟩ := hd a
      obtain ⟨r1, r2, r3, r4⟩ := R.obj j o a
      have hne : G.ι j ≠ G.ι id := fun e => q (R.inj _ _ _ _ a ho e)
      refine ⟨r1, ⟨r2, hne, r3⟩, Nat.lt_of_lt_of_le r3 hs, ?_⟩
      show ORel G' w' o w'.heap[G.ι j]?
      rw [hk _ r3 hne]
      cases o with
      | cells cs =>
        obtain ⟨vs, rest, T', fr, y1, y2, y3⟩ := r4
        exact ⟨vs, rest, T', fr, y1, VRels.mono R T _ _ y2, y3⟩
      | map es =>
        obtain ⟨en, clock, y1, y2⟩ := r4
        exact ⟨en, clock, y1, Entries.mono R T _ _ y2⟩
      | loop N t ps asg body st pend =>
        obtain ⟨r, y1, y2, y3, y4⟩ := r4
        exact ⟨r, y1, y2, fun i => VRel.mono R T _ _ (y3 i), y4⟩
      | raw c => exact r4
      | bk c => exact r4
    · exact fun i j o o' a b e => R.inj _ _ _ _ (hd a).1 (hd b).1 e
    · exact fun t x => by simp [H.less, ht] at x
    · exact fun t x => by simp [H.less, ht] at x
  · unfold VRel
    refine .inr ⟨B, off, C, vs, rfl, hC, by omega, hE _ _, fun i v hv => ⟨hc i v hv, h1 v (List.mem_of_getElem? hv), ?_, ?_⟩, trivial⟩
    · rintro ⟨-, a, b⟩
      rcases hB with e | e
      · exact a e
      · omega
    · intro e he
      simp only [G', hB, if_true] at he
      cases he
theorem touch_drop (h : H) {id : Nat} {ob : Obj} (ho : h.objs id = some ob) : Touch h (.only (upd none' id (some ob)) [] h.n h.m) (H0 h.n h.m) { h with objs := fun j => if j = id then none else h.objs j } ⟨[], [id], []⟩ where
  sub := (touch_read h ho).sub
  n := rfl
  m := rfl
  eq := H.ext (fun j => by
    simp only [H.patch, H0, H.only, upd, none']
    by_cases e : j = id
    · subst e; simp
    · simp [e]; omega) rfl (by simp [H.patch, H0, H.only, filter_tt]) rfl
  rd j x := by
    simp only [H.only, upd, none'] at x
    split at x
    · rename_i e; subst e; simp
    · cases x
  wr id a b := by simp only [H0, H.only] at a b; omega
  chg j x hj := by
    simp only [H.only, upd, none'] at x
    split at x
    · rename_i e; subst e; simp at hj
    · cases x
  tk t x := by simp [H.only] at x
  tn t x := by simp [H0, H.only] at x
  le := Nat.le_refl _
  lem := Nat.le_refl _
theorem cloneE_gen {f : FuncId} {sz bytes : Nat} (hF : FnIs P f 8 (cloneC sz bytes) [.tmp 2]) : PCalls P f [.sl sz [] .any] (.sl sz [] (.exact 0)) := by
  intro n m
  refine ACalls.split_empty fun a C hC => ?_
  have : PCalls P f [.sc (.slice a 0 C)] (.sl sz [] (.exact 0)) := by
    refine hF.pcalls (by simp) (allPure_ok _ rfl) (isPure_ok _ rfl) fun n m => ?_
    unfold cloneC
    refine Wp.seqReg (by simp only [go_sem, reduceIte, Nat.reduceEqDiff, Nat.reduceAdd, bx]; exact rfl) (by trivial) ?_
    refine Wp.seq ?_
    refine Wp.seqReg (by simp only [go_sem, reduceIte, Nat.reduceEqDiff, Nat.reduceAdd, bx]; exact rfl) (by trivial) ?_
    cases ha : a.isNone with
    | true =>
      refine Wp.cond_true (by simp only [go_sem, reduceIte, Nat.reduceEqDiff, Nat.reduceAdd, bx, ha]) ?_
      refine Wp.seqReg (by simp only [go_sem, reduceIte, Nat.reduceEqDiff, Nat.reduceAdd, bx]; exact rfl) (by trivial) ?_
      refine Wp.ret ⟨trivial, _, rfl, ?_⟩
      simp only [go_sem, reduceIte, Nat.reduceEqDiff, Nat.reduceAdd, bx]
      exact VSub.refl _
    | false =>
      refine Wp.cond_false (by simp only [go_sem, reduceIte, Nat.reduceEqDiff, Nat.reduceAdd, bx, ha]) ?_
      refine Wp.skip ?_
      refine Wp.le (s' := ⟨tm [(0, .sl sz [] .any)], _⟩) (StLe.tm ⟨VSub.sc_empty hC, trivial⟩) ?_
      refine Wp.seq (Wp.reg ?_)
      refine WpItems.part 2 (by simp only [go_sem, reduceIte, Nat.reduceEqDiff, Nat.reduceAdd, bx, Nat.zero_mul, Nat.zero_le, and_self, if_true]; exact rfl) ?_
      simp only [List.drop_succ_cons, List.drop_zero, List.drop_nil]
      refine WpItems.opT (by simp only [go_sem, reduceIte, Nat.reduceEqDiff, Nat.reduceAdd, bx]) (by simp only [aopT, go_sem, reduceIte, Nat.reduceEqDiff, Nat.reduceAdd, bx]; exact rfl) rfl ?_
      refine WpItems.eval (by simp only [go_sem, reduceIte, Nat.reduceEqDiff, Nat.reduceAdd, bx]; exact rfl) ?_
      refine WpItems.nil ⟨by trivial, ?_⟩
      refine Wp.ret ⟨trivial, _, rfl, ?_⟩
      simp only [go_sem, reduceIte, Nat.reduceEqDiff, Nat.reduceAdd, bx]
      exact VSub.refl _
  exact this n m
def WpItemsN (P : Program) (N : Nat) (items : List AItem) (t : Tm) (h : H) (K : Tm → H → Prop) : Prop :=
  ∀ ops i, i ≤ ops.size → cItems P N ops (ops.toList.drop i) = some items → ∃ recs t' h', Chain P ops i recs t h t' h' ∧ K t' h'
theorem WpItems.toN {items : List AItem} {t : Tm} {h : H} {log : List Ent} {K : Tm → H → Prop} (hw : WpItems P N items t h log fun t h _ => K t h) : WpItemsN P N items t h K := by
  intro ops i hi hc
  obtain ⟨recs, t', h', ch, hk, -⟩ := hw ops i hi hc
  exact ⟨recs, t', h', ch, hk⟩
theorem WpItemsN.step {it : AItem} {its : List AItem} {t : Tm} {h h' : H} {x : AV} {en : Ent} {K : Tm → H → Prop}
    (run : ∀ (ops : Array Oper) i o, ops[i]? = some o → cItem P N ops o = some it → ∃ h1 h1', Touch h h1 h1' h' en ∧ ItRun P ops i o t h1 x h1') (rest : WpItemsN P N its (putT t it.dst x) h' K) : WpItemsN P N (it :: its) t h K := by
  intro ops i hi hc
  obtain ⟨o, ho, hit, hi', hc'⟩ := items_cons hi hc
  obtain ⟨h1, h1', tc, run⟩ := run ops i o ho hit
  obtain ⟨recs, t', hh', ch, hk⟩ := rest ops (i + 1) hi' hc'
  have hdst : it.dst = o.dst := by
    unfold cItem at hit
    split at hit
    · split at hit <;> cases hit; rfl
    · cases hit
  exact ⟨⟨t, h, h1, h1', h', x, en⟩ :: recs, t', hh', .cons ho rfl rfl tc (fun _ => run) (by rw [← hdst]; exact ch), hk⟩
theorem WpItemsN.op {dst : Option Nat} {g : Option (Nat × Bool)} {op : AOp} {its : List AItem} {t : Tm} {h h' : H} {en : Ent} {K : Tm → H → Prop} {x : AV} (hg : guardOf t g = some true) (hx : aop (ev t) h op = some (x, h', en))
    (rest : WpItemsN P N its (putT t dst x) h' K) : WpItemsN P N (⟨dst, g, op⟩ :: its) t h K :=
  WpItemsN.step (fun ops i o ho hit => itrun_op ho hit hg hx) rest
theorem WpItemsN.opT {dst : Option Nat} {g : Option (Nat × Bool)} {op : AOp} {its : List AItem} {t : Tm} {h h' : H} {en : Ent} {K : Tm → H → Prop} {x : AV} (hg : guardOf t g = some true) (hx : aopT (ev t) h op = some (x, h', en))
    (rest : WpItemsN P N its (putT t dst x) h' K) : WpItemsN P N (⟨dst, g, op⟩ :: its) t h K :=
  WpItemsN.step (fun ops i o ho hit => itrun_opT ho hit hg hx) rest
theorem WpItemsN.acall {dst : Option Nat} {g : Option (Nat × Bool)} {f : FuncId} {l : List Opd} {its : List AItem} {t : Tm} {h h' h1 h1' : H} {en : Ent} {K : Tm → H → Prop} {vals : List AV} {r : AV} (hg : guardOf t g = some true) (hs : VSubs (l.map (ev t)) vals) (hc : ACalls P f vals h1 r h1')
    (tc : Touch h h1 h1' h' en) (rest : WpItemsN P N its (putT t dst r) h' K) : WpItemsN P N (⟨dst, g, .call f l⟩ :: its) t h K :=
  WpItemsN.step (fun ops i o ho hit => ⟨h1, h1', tc, itrun_call ho hit hg rfl hs hc⟩) rest
theorem WpItemsN.pcall {dst : Option Nat} {g : Option (Nat × Bool)} {f : FuncId} {l : List Opd} {its : List AItem} {t : Tm} {h : H} {K : Tm → H → Prop} {vals : List AV} {r : AV} (hg : guardOf t g = some true) (hs : VSubs (l.map (ev t)) vals) (hc : PCalls P f vals r)
    (rest : WpItemsN P N its (putT t dst r) h K) : WpItemsN P N (⟨dst, g, .call f l⟩ :: its) t h K :=
  WpItemsN.acall hg hs (hc h.n h.m) (touch_none h) rest
theorem Wp.regN {items : List AItem} {s : St} {Q : AExit → St → Prop} (h : WpItemsN P N items s.t s.h fun t' h' => Q .normal ⟨t', h'⟩) : Wp P N (.reg items none) s Q := by
  intro code hc
  obtain ⟨id, ops, draw, rfl, hi, hd⟩ := code_reg hc
  obtain ⟨recs, t', h', ch, hq⟩ := h ops 0 (Nat.zero_le _) (by simpa using hi)
  obtain ⟨nm, -, -⟩ := chain_nm ch
  obtain ⟨cl, ci⟩ := cItems_len hi
  have hN : ∀ (i : Nat) o d, ops[i]? = some o → o.dst = some d → d < N := by
    intro i o d ho hdd
    have hlt : i < ops.size := (Array.getElem?_eq_some_iff.1 ho).1
    have hit : i < items.length := by rw [cl]; simpa using hlt
    have := ci i o items[i] (by simpa using ho) (List.getElem?_eq_getElem hit)
    generalize items[i] = it at this
    unfold cItem at this
    split at this
    · split at this <;> cases this
      rename_i hcond
      simp only [Bool.and_eq_true] at hcond
      have := hcond.1
      rw [hdd] at this
      simpa using this
    · cases this
  refine ⟨.normal, ⟨t', h'⟩, ⟨nm, fun ro okc G w a r F => ?_⟩, hq⟩
  rcases hd with ⟨rfl, -⟩ | ⟨-, -, -, hn⟩
  · refine wpIn_region ?_
    rw [List.range_eq_range']
    have := chain_seq ro (Q := fun e' a' w' => AExit.normal.says e' ∧ NewM w a.defers a'.defers ∧ ∃ G', Trans G w s.h G' w' h' ∧ Rel N ⟨t', h'⟩ G' w' a') hN ch G w a r.size r.t r.h F
      (fun G' w' a' T1 t1 R1 s1 d1 => ⟨trivial, by rw [d1]; exact .refl, G', T1, ⟨s1, t1, R1, by rw [d1]; exact r.df.mono T1⟩⟩)
    simpa using this
  · cases hn
end
end Go.Av
end
section
set_option linter.unusedVariables false
set_option linter.unusedSimpArgs false
namespace Go.Av
variable {P : Program} {N : Nat} {s : St} {Q : AExit → St → Prop}
theorem OLe.skip {f : Nat → Option Obj} {i : Nat} {o : Option Obj} (h : f i = Option.none) : OLe (Go.Av.upd f i o) f := by
  intro j p hp
  refine ⟨p, ?_, OSub.refl p⟩
  simp only [Go.Av.upd]
  split
  · rename_i e; subst e; rw [h] at hp; cases hp
  · exact hp
theorem OLe.at {g : Nat → Option Obj} {k : Nat} {A : Obj} (h : g k = some A) : OLe g (Go.Av.upd none' k (some A)) := by
  intro j p hp
  simp only [Go.Av.upd, none'] at hp
  split at hp
  · rename_i e; subst e; cases hp; exact ⟨_, h, OSub.refl _⟩
  · cases hp
end Go.Av
end
section
set_option linter.unusedVariables false
set_option linter.unusedSimpArgs false
namespace Go.Av
section
variable {P : Program} {N : Nat} {Q : AExit → St → Prop}
theorem Wp.frz {c : AC} {t : Tm} {h : H} (d : Nat → Bool) (l : List (Nat × AV)) (h' : H) (hs : AllSub (fun i => unT h d (t i)) l) (ho : OLe (h.drop d).objs h'.objs) (hk : ∀ x ∈ h'.toks, x ∈ h.toks) (hn : h.n ≤ h'.n) (hm : h.m ≤ h'.m) (k : Wp P N c ⟨tm l, h'⟩ Q) : Wp P N c ⟨t, h⟩ Q :=
  Wp.le (StLe.trans (frz_le t h d) (StLe.trans (StLe.tm hs) (StLe.of (f := (h.drop d).objs) (n := h.n) (m := h.m) (k := h.toks) (fun i => VSub.refl _) ho hk hn hm))) k
theorem only_T0 {G : Ghost} {f : Nat → Option Obj} {n m : Nat} (B : Nat) : ¬ (H.only f [] n m).T G B := fun ⟨t, ht, _⟩ => by simp [H.only] at ht
theorem PCalls.look {f : FuncId} {xs args : List AV} {r : AV} (hc : PCalls P f (.sl 1 xs .any :: args) r) (hr : ∀ G G' w v, VRel G w r v → VRel G' w r v) (c : Option Nat) (id : Nat) : RCalls P f (.tsl 1 id 0 xs.length c :: args) (upd none' id (some (.cells xs))) r := by
  intro n m G w vs hv R F
  have ho : (H.only (upd none' id (some (.cells xs))) [] n m).objs id = some (.cells xs) := by simp [H.only, upd]
  have hv' : VRels (G.frz (H.only (upd none' id (some (.cells xs))) [] n m) fun _ => true) w (.sl 1 xs .any :: args) vs := by
    simp only [VRels] at hv ⊢
    obtain ⟨v, us, e, h1, h2⟩ := hv
    refine ⟨v, us, e, ?_, VRels.mono R (frz_trans _) _ _ h2⟩
    have := frz_tsl R (d := fun _ => true) ho rfl (by omega) h1
    simpa using this
  refine (hc n m _ w vs hv' only_rep ⟨fun j h1 h2 => by simp only [H0, H.only] at h1 h2; omega, fun j h1 h2 => by simp only [H0, H.only] at h1 h2; omega⟩).mono ?_
  rintro e w' ⟨v, G', rfl, T, R', V⟩
  obtain ⟨q1, q2, q3, q4⟩ := R.obj id _ ho
  have hne : ∀ B, ¬ (H.only (upd none' id (some (.cells xs))) [] n m).O G B → B ≠ G.ι id := fun B h1 e => h1 ⟨id, _, ho, e.symm⟩
  have hDO : ∀ B, ¬ (H.only (upd none' id (some (.cells xs))) [] n m).O G B → ¬ (H.only (upd none' id (some (.cells xs))) [] n m).DO G (fun _ => true) B := fun B h1 h2 => h1 (DO_O h2)
  have hT : ∀ {G : Ghost} B, ¬ (H0 n m).T G B := fun B ⟨t, ht, _⟩ => by simp [H0, H.only] at ht
  let G3 : Ghost := { own := fun B => B = G.ι id ∨ G'.own B, lim := fun B => if B = G.ι id then G.lim B else G'.lim B, dom := G.dom, ι := G.ι, tdom := G.tdom, τ := G.τ }
  have T3 : Trans G w (H.only (upd none' id (some (.cells xs))) [] n m) G3 w' (H.only (upd none' id (some (.cells xs))) [] n m) := by
    constructor
    · exact fun _ x => x
    · exact fun _ => .inl
    · exact fun _ _ => rfl
    · exact fun _ x => x
    · exact fun _ => .inl
    · exact fun _ _ => rfl
    · exact Nat.le_refl _
    · exact Nat.le_refl _
    · exact T.size_le
    · exact T.os
    · exact T.output
    · exact T.form
    · exact fun B hB _ _ => T.keep B hB (only_O B) (hT B)
    · intro B hB h1
      have e1 := T.own_keep B hB (only_O B)
      have e2 := hDO B h1
      have e3 := hne B h1
      simp only [G3, e3, false_or, e1, Ghost.frz, e2, not_false_eq_true, and_true]
    · intro B hB h1 _
      have e1 := T.lim_keep B hB (only_O B) (hT B)
      have e2 := hDO B h1
      have e3 := hne B h1
      simp only [G3, e3, if_false, e1, Ghost.frz, e2]
    · exact fun B hB x => absurd x (only_T0 B)
    · exact fun B _ x => x
    · exact fun B _ x => absurd x (only_T0 B)
    · exact fun j o x => .inl ⟨o, x⟩
    · exact fun t x => by simp [H.only] at x
  refine ⟨v, G3, rfl, T3, ?_, hr G' G3 w' v V⟩
  refine ⟨fun j o hj => ?_, fun i j o o' a b e => R.inj _ _ _ _ a b e, fun t ht => by simp [H.only] at ht, fun t ht => by simp [H.only] at ht⟩
  obtain ⟨p1, p2, p3, p4⟩ := R.obj j o hj
  have hj' : j = id := by
    simp only [H.only, upd, none'] at hj
    split at hj
    · assumption
    · cases hj
  subst hj'
  refine ⟨p1, .inl rfl, Nat.lt_of_lt_of_le p3 T.size_le, ?_⟩
  have hk : w'.heap[G.ι j]? = w.heap[G.ι j]? := T.keep _ p3 (only_O _) (hT _)
  show ORel G3 w' o w'.heap[G.ι j]?
  rw [hk]
  cases o with
  | cells cs =>
    obtain ⟨vs, rest, T', fr, y1, y2, y3⟩ := p4
    exact ⟨vs, rest, T', fr, y1, VRels.mono R T3 _ _ y2, y3⟩
  | map es =>
    obtain ⟨en, clock, y1, y2⟩ := p4
    exact ⟨en, clock, y1, Entries.mono R T3 _ _ y2⟩
  | loop N t ps asg body st pend =>
    obtain ⟨r, y1, y2, y3, y4⟩ := p4
    exact ⟨r, y1, y2, fun i => VRel.mono R T3 _ _ (y3 i), y4⟩
  | raw c => exact p4
  | bk c => exact p4
def H.turn (h : H) (id : Nat) (o : Obj) : H := { h with objs := upd (fun j => if j = id then none else h.objs j) h.n (some o), n := h.n + 1 }
end
end Go.Av
end
section
set_option linter.unusedVariables false
set_option linter.unusedSimpArgs false
namespace Go.Av
abbrev Objs := Nat → Option Obj
structure Fr where
  o : Objs
  k : List Nat
def lay : List Fr → Objs
  | [] => none'
  | F :: l => fun j => (F.o j).or (lay l j)
def ks (l : List Fr) : List Nat := l.flatMap (·.k)
def ob (i : Nat) (o : Obj) : Fr := ⟨upd none' i (some o), []⟩
def fr0 : Fr := ⟨none', []⟩
structure Ok (l : List Fr) (n : Nat) (T : List Nat) (m : Nat) : Prop where
  bd : ∀ F ∈ l, ∀ j, n ≤ j → F.o j = none
  dj : l.Pairwise fun F F' => ∀ j, F.o j = none ∨ F'.o j = none
  tk : ∀ t ∈ ks l, t ∈ T
  td : l.Pairwise fun F F' => ∀ t ∈ F.k, t ∉ F'.k
  tb : ∀ t ∈ T, t < m
theorem lay_none {l : List Fr} {j : Nat} : lay l j = none ↔ ∀ F ∈ l, F.o j = none := by
  induction l with
  | nil => simp [lay, none']
  | cons F l ih => simp [lay, Option.or_eq_none_iff, ih]
theorem mem_ks {l : List Fr} {t : Nat} : t ∈ ks l ↔ ∃ F ∈ l, t ∈ F.k := by simp [ks]
theorem Ok.nil {n m : Nat} : Ok [] n [] m := ⟨by simp, by simp, by simp [ks], by simp, by simp⟩
theorem Ok.tail {F : Fr} {l : List Fr} {n m : Nat} {T : List Nat} (h : Ok (F :: l) n T m) : Ok l n T m :=
  ⟨fun F' hF => h.bd F' (by simp [hF]), (List.pairwise_cons.1 h.dj).2, fun t ht => h.tk t (by rw [mem_ks] at ht ⊢; obtain ⟨F', a, b⟩ := ht; exact ⟨F', by simp [a], b⟩), (List.pairwise_cons.1 h.td).2, h.tb⟩
theorem Ok.put {F : Fr} {l : List Fr} {n m i : Nat} {T : List Nat} {o : Obj} (h : Ok (F :: l) n T m) (hi : lay l i = none) (hn : i < n) : Ok (⟨upd F.o i (some o), F.k⟩ :: l) n T m where
  bd F' hF j hj := by
    rcases List.mem_cons.1 hF with rfl | hF
    · simp only [upd]
      rw [if_neg (by omega)]
      exact h.bd F (by simp) j hj
    · exact h.bd F' (by simp [hF]) j hj
  dj := by
    refine List.pairwise_cons.2 ⟨fun F' hF j => ?_, (List.pairwise_cons.1 h.dj).2⟩
    simp only [upd]
    by_cases e : j = i
    · subst e; exact .inr (lay_none.1 hi F' hF)
    · rw [if_neg e]; exact (List.pairwise_cons.1 h.dj).1 F' hF j
  tk t ht := h.tk t (by simpa [ks] using ht)
  td := List.pairwise_cons.2 ⟨(List.pairwise_cons.1 h.td).1, (List.pairwise_cons.1 h.td).2⟩
  tb := h.tb
theorem Ok.start {l : List Fr} {n m : Nat} {T : List Nat} (h : Ok l n T m) : Ok (fr0 :: l) n T m :=
  ⟨fun F hF j hj => by rcases List.mem_cons.1 hF with rfl | hF; exact rfl; exact h.bd F hF j hj, List.pairwise_cons.2 ⟨fun F' _ j => .inl rfl, h.dj⟩, fun t ht => h.tk t (by simpa [ks, fr0] using ht), List.pairwise_cons.2 ⟨fun F' _ t ht => by simp [fr0] at ht, h.td⟩, h.tb⟩
theorem Ok.old {F : Fr} {l : List Fr} {n m : Nat} {T : List Nat} (h : Ok (F :: l) n T m) {i : Nat} (hi : (F.o i).isSome = true) : lay l i = none :=
  lay_none.2 fun F' hF => by
    rcases (List.pairwise_cons.1 h.dj).1 F' hF i with e | e
    · rw [e] at hi; cases hi
    · exact e
section
variable {P : Program} {N : Nat}
def GCalls (P : Program) (f : FuncId) (args : List AV) (l : List Fr) (Q : AV → List Fr → Prop) : Prop :=
  ∀ n m, Ok l n (ks l) m → ∃ r l' n' m', ACalls P f args ⟨lay l, n, ks l, m⟩ r ⟨lay l', n', ks l', m'⟩ ∧ n ≤ n' ∧ m ≤ m' ∧ Ok l' n' (ks l') m' ∧ (∀ j, n ≤ j ∨ (lay l j).isSome = true ∨ lay l' j = none) ∧ (∀ t ∈ ks l', t ∈ ks l ∨ m ≤ t) ∧ Q r l'
theorem GCalls.mono {f : FuncId} {args : List AV} {l : List Fr} {Q Q' : AV → List Fr → Prop} (h : GCalls P f args l Q) (hq : ∀ r l', Q r l' → Q' r l') : GCalls P f args l Q' := by
  intro n m ok
  obtain ⟨r, l', n', m', h1, h2, h3, h4, h5, h6, h7⟩ := h n m ok
  exact ⟨r, l', n', m', h1, h2, h3, h4, h5, h6, hq _ _ h7⟩
theorem PCalls.g {f : FuncId} {args : List AV} {r : AV} (h : PCalls P f args r) : GCalls P f args [] (fun r' l' => r' = r ∧ l' = []) := fun n m _ =>
  ⟨r, [], n, m, h n m, Nat.le_refl _, Nat.le_refl _, Ok.nil, fun j => .inr (.inr rfl), by simp [ks], rfl, rfl⟩
theorem Wp.nm {c : AC} {s : St} {Q : AExit → St → Prop} (h : Wp P N c s Q) : Wp P N c s fun e s' => Q e s' ∧ s.h.n ≤ s'.h.n ∧ s.h.m ≤ s'.h.m := by
  intro code hc
  obtain ⟨e, s', r, q⟩ := h code hc
  exact ⟨e, s', r, q, r.1⟩
theorem ACalls.le {f : FuncId} {args : List AV} {h h' h'' : H} {r r' : AV} (hc : ACalls P f args h r h') (hs : VSub r r') (hl : HLe h' h'') (n : h'.n = h''.n) (m : h'.m = h''.m) : ACalls P f args h r' h'' := by
  intro G w vs hv R F
  refine (hc G w vs hv R (by unfold Fresh at F ⊢; rwa [n, m])).mono ?_
  rintro e w' ⟨v, G', rfl, T, R', V⟩
  exact ⟨v, G', rfl, T.trans R R' (Trans.le hl (by omega) (by omega)), R'.le hl, hs G' w' v V⟩
structure Ends (l : List Fr) (n m : Nat) (Q : AV → List Fr → Prop) (q : AV) (h : H) (r : AV) (l' : List Fr) : Prop where
  sub : VSub q r
  ole : OLe h.objs (lay l')
  tk : ∀ t ∈ ks l', t ∈ h.toks
  ok : Ok l' h.n (Go.Av.ks l') h.m
  new : ∀ j, n ≤ j ∨ (lay l j).isSome = true ∨ lay l' j = none
  knew : ∀ t ∈ Go.Av.ks l', t ∈ Go.Av.ks l ∨ m ≤ t
  q : Q r l'
def fin (h : H) (ids toks : List Nat) : Ent := ⟨[], ids, toks⟩
def Wi (l0 : List Fr) (n0 : Nat) (l : List Fr) : Prop := ∀ j, n0 ≤ j ∨ (lay l0 j).isSome = true ∨ lay l j = none
def Ki (l0 : List Fr) (m0 : Nat) (l : List Fr) : Prop := ∀ t ∈ ks l, t ∈ ks l0 ∨ m0 ≤ t
theorem Wi.refl {l : List Fr} {n : Nat} : Wi l n l := fun j => by
  cases h : lay l j with
  | none => exact .inr (.inr rfl)
  | some o => exact .inr (.inl rfl)
theorem Ki.refl {l : List Fr} {m : Nat} : Ki l m l := fun t h => .inl h
theorem Wi.trans {l0 l l' : List Fr} {n0 n : Nat} (a : Wi l0 n0 l) (hn : n0 ≤ n) (b : Wi l n l') : Wi l0 n0 l' := fun j => by
  rcases b j with h | h | h
  · exact .inl (by omega)
  · rcases a j with h' | h' | h'
    · exact .inl h'
    · exact .inr (.inl h')
    · rw [h'] at h; cases h
  · exact .inr (.inr h)
theorem Ki.trans {l0 l l' : List Fr} {m0 m : Nat} (a : Ki l0 m0 l) (hm : m0 ≤ m) (b : Ki l m l') : Ki l0 m0 l' := fun t ht => by
  rcases b t ht with h | h
  · exact a t h
  · exact .inr (by omega)
end
end Go.Av
end
