/- Chapter 15: the parts of Read between its labels (printed by a program of mine out of the compact code). -/
import Derived.Test.YtlefnohibjcekaaCode
import Derived.Test.YtlefnohibjcekaaAvLoop
set_option maxRecDepth 10000
namespace Go.Proofs.Ytlefnohibjcekaa.C
open Go.Av
def r34_0 : AC := (.seq (.reg [⟨some 114, none, .build [.int .i64 0, .sl 3 [] (.exact 0)] []⟩, ⟨none, none, .store 2 (.t 2) (.t 114)⟩, ⟨some 3, none, .mov (.c (.int .i64 0))⟩, ⟨some 4, none, .mov (.c (.int .i64 4))⟩] none)
 .ret)
def r34_1 : AC := (.seq (.seq (.reg [⟨some 104, none, .mov (.t 8)⟩, ⟨some 105, none, .mov (.t 0)⟩, ⟨some 106, none, .len true (.t 105)⟩, ⟨some 107, none, .bin .eql (.t 104) (.t 106)⟩, ⟨some 108, none, .mov (.t 107)⟩, ⟨some 109, some (108, true), .load (some 2) (.t 5)⟩, ⟨some 110, some (108, true), .call 42 [(.t 109)]⟩, ⟨some 111, some (108, true), .bin .eql (.t 110) (.c (.int .i64 0))⟩, ⟨some 112, none, .pick (.t 108) (.t 111) (.c (.bool false))⟩] none)
 (.cond (.t 112) (.seq (.reg [⟨some 113, none, .load (some 2) (.t 5)⟩, ⟨none, none, .store 2 (.t 2) (.t 113)⟩, ⟨some 3, none, .mov (.c (.int .i64 0))⟩, ⟨some 4, none, .mov (.c (.int .i64 0))⟩] none)
 .ret) .skip))
 (.seq (.label 0)
 r34_0))
def r34_2 : AC := (.seq (.seq (.reg [⟨some 58, none, .mov (.t 9)⟩, ⟨some 59, none, .bin .eql (.t 58) (.c (.int .i64 0))⟩] none)
 (.cond (.t 59) (.goto 1) .skip))
 (.seq (.reg [⟨some 60, none, .mov (.t 9)⟩, ⟨some 61, none, .bin .sub (.t 60) (.c (.int .i64 1))⟩, ⟨some 9, none, .mov (.t 61)⟩] none)
 (.seq (.seq (.reg [⟨some 62, none, .mov (.t 8)⟩, ⟨some 63, none, .mov (.t 0)⟩, ⟨some 64, none, .len true (.t 63)⟩, ⟨some 65, none, .bin .geq (.t 62) (.t 64)⟩, ⟨some 66, none, .mov (.t 65)⟩, ⟨some 67, some (66, false), .mov (.t 0)⟩, ⟨some 68, some (66, false), .mov (.t 8)⟩, ⟨some 69, some (66, false), .idx (.t 67) (.t 68)⟩, ⟨some 70, some (66, false), .bin .gtr (.t 69) (.c (.int .u8 1))⟩, ⟨some 71, none, .pick (.t 66) (.c (.bool true)) (.t 70)⟩] none)
 (.cond (.t 71) (.goto 0) .skip))
 (.seq (.reg [⟨some 72, none, .mov (.t 0)⟩, ⟨some 73, none, .mov (.t 8)⟩, ⟨some 74, none, .idx (.t 72) (.t 73)⟩, ⟨some 75, none, .bin .eql (.t 74) (.c (.int .u8 1))⟩, ⟨some 76, none, .build [.str [], .str [], .bool false] [(2, 1, (.t 75))]⟩, ⟨none, none, .store 3 (.t 6) (.t 76)⟩] none)
 (.seq (.seq (.reg [⟨some 78, none, .mov (.t 0)⟩, ⟨some 79, none, .mov (.t 8)⟩, ⟨some 80, none, .bin .add (.t 79) (.c (.int .i64 1))⟩, ⟨some 81, none, .call 91 [(.t 78), (.t 80)]⟩, ⟨some 77, none, .mov (.t 81)⟩, ⟨some 82, none, .ext (.t 77) 0⟩, ⟨some 83, none, .ext (.t 77) 1⟩, ⟨some 84, none, .ext (.t 77) 2⟩, ⟨some 85, none, .faddr 0 (.t 6)⟩, ⟨none, none, .store 1 (.t 85) (.t 82)⟩, ⟨some 8, none, .mov (.t 83)⟩, ⟨some 7, none, .mov (.t 84)⟩] none)
 (.seq (.reg [⟨some 86, none, .mov (.t 7)⟩, ⟨some 87, none, .un .not (.t 86)⟩] none)
 (.cond (.t 87) (.goto 0) .skip)))
 (.seq (.seq (.reg [⟨some 89, none, .mov (.t 0)⟩, ⟨some 90, none, .mov (.t 8)⟩, ⟨some 91, none, .call 91 [(.t 89), (.t 90)]⟩, ⟨some 88, none, .mov (.t 91)⟩, ⟨some 92, none, .ext (.t 88) 0⟩, ⟨some 93, none, .ext (.t 88) 1⟩, ⟨some 94, none, .ext (.t 88) 2⟩, ⟨some 95, none, .faddr 1 (.t 6)⟩, ⟨none, none, .store 1 (.t 95) (.t 92)⟩, ⟨some 8, none, .mov (.t 93)⟩, ⟨some 7, none, .mov (.t 94)⟩] none)
 (.seq (.reg [⟨some 96, none, .mov (.t 7)⟩, ⟨some 97, none, .un .not (.t 96)⟩] none)
 (.cond (.t 97) (.goto 0) .skip)))
 (.seq (.reg [⟨some 98, none, .faddr 1 (.t 5)⟩, ⟨some 99, none, .load none (.t 98)⟩, ⟨some 100, none, .load (some 3) (.t 6)⟩, ⟨some 101, none, .buildSl 3 [(.t 100)]⟩, ⟨some 102, none, .app false 3 40 (.t 99) (.t 101)⟩, ⟨some 103, none, .faddr 1 (.t 5)⟩, ⟨none, none, .store 1 (.t 103) (.t 102)⟩] none)
 (.seq (.goto 2)
 (.seq (.label 1)
 r34_1)))))))))
def sB34 : AC := (.seq (.reg [⟨some 5, none, .alloc [.int .i64 0, .sl 3 [] (.exact 0)]⟩] none)
 (.seq (.reg [⟨some 6, none, .alloc [.str [], .str [], .bool false]⟩] none)
 (.seq (.reg [⟨some 7, none, .mov (.c (.bool false))⟩] none)
 (.seq (.reg [⟨some 8, none, .mov (.c (.int .i64 10))⟩, ⟨some 9, none, .mov (.c (.int .i64 0))⟩] none)
 (.seq (.seq (.reg [⟨some 10, none, .mov (.t 0)⟩, ⟨some 11, none, .len true (.t 10)⟩, ⟨some 12, none, .bin .lss (.t 11) (.c (.int .i64 9))⟩, ⟨some 13, none, .mov (.t 12)⟩, ⟨some 14, some (13, false), .mov (.t 0)⟩, ⟨some 15, some (13, false), .len true (.t 14)⟩, ⟨some 16, some (13, false), .bin .gtr (.t 15) (.c (.int .i64 16384))⟩, ⟨some 17, none, .pick (.t 13) (.c (.bool true)) (.t 16)⟩] none)
 (.cond (.t 17) (.goto 0) .skip))
 (.seq (.reg [⟨some 18, none, .mov (.t 0)⟩, ⟨some 19, none, .slc true 0 (.t 18) (some (.c (.int .i64 1))) (some (.c (.int .i64 9))) none⟩, ⟨some 20, none, .conv .s2b (.t 19)⟩, ⟨some 21, none, .call 89 [(.t 20)]⟩, ⟨some 22, none, .call 90 [(.t 21)]⟩, ⟨some 23, none, .faddr 0 (.t 5)⟩, ⟨none, none, .store 1 (.t 23) (.t 22)⟩] none)
 (.seq (.block 0 (.seq (.reg [⟨some 25, none, .mov (.t 0)⟩, ⟨some 26, none, .idx (.t 25) (.c (.int .i64 0))⟩, ⟨some 27, none, .bin .eql (.t 26) (.c (.int .u8 77))⟩, ⟨some 28, none, .mov (.t 27)⟩, ⟨some 29, some (28, true), .mov (.t 0)⟩, ⟨some 30, some (28, true), .len true (.t 29)⟩, ⟨some 31, some (28, true), .bin .eql (.t 30) (.c (.int .i64 9))⟩, ⟨some 32, none, .pick (.t 28) (.t 31) (.c (.bool false))⟩, ⟨some 33, none, .mov (.t 32)⟩, ⟨some 34, some (33, true), .faddr 0 (.t 5)⟩, ⟨some 35, some (33, true), .load none (.t 34)⟩, ⟨some 36, some (33, true), .bin .geq (.t 35) (.c (.int .i64 0))⟩, ⟨some 37, none, .pick (.t 33) (.t 36) (.c (.bool false))⟩, ⟨some 38, none, .mov (.t 37)⟩, ⟨some 39, some (38, true), .faddr 0 (.t 5)⟩, ⟨some 40, some (38, true), .load none (.t 39)⟩, ⟨some 41, some (38, true), .bin .leq (.t 40) (.c (.int .i64 1152921504606846976))⟩, ⟨some 42, none, .pick (.t 38) (.t 41) (.c (.bool false))⟩, ⟨some 24, none, .mov (.t 42)⟩] none)
 (.cond (.t 24) (.seq (.reg [⟨some 43, none, .build [.int .i64 0, .sl 3 [] (.exact 0)] []⟩, ⟨some 44, none, .faddr 0 (.t 5)⟩, ⟨some 45, none, .load none (.t 44)⟩, ⟨none, none, .store 2 (.t 2) (.t 43)⟩, ⟨some 3, none, .mov (.t 45)⟩, ⟨some 4, none, .mov (.c (.int .i64 0))⟩] (some [(2, 3)]))
 .ret) (.seq (.reg [⟨some 47, none, .mov (.t 0)⟩, ⟨some 48, none, .idx (.t 47) (.c (.int .i64 0))⟩, ⟨some 49, none, .bin .neq (.t 48) (.c (.int .u8 66))⟩, ⟨some 50, none, .mov (.t 49)⟩, ⟨some 51, some (50, false), .mov (.t 0)⟩, ⟨some 52, some (50, false), .len true (.t 51)⟩, ⟨some 53, some (50, false), .bin .eql (.t 52) (.c (.int .i64 9))⟩, ⟨some 54, none, .pick (.t 50) (.c (.bool true)) (.t 53)⟩, ⟨some 46, none, .mov (.t 54)⟩] none)
 (.cond (.t 46) (.goto 0) .skip)))))
 (.seq (.reg [⟨some 55, none, .mov (.t 0)⟩, ⟨some 56, none, .idx (.t 55) (.c (.int .i64 9))⟩, ⟨some 57, none, .conv (.toInt .i64) (.t 56)⟩, ⟨some 9, none, .mov (.t 57)⟩] none)
 (.seq (.label 2)
 r34_2)))))))))
theorem c34_eq : c34 = (.seq (.reg [⟨some 2, none, .alloc [.int .i64 0, .sl 3 [] (.exact 0)]⟩, ⟨some 3, none, .mov (.c (.int .i64 0))⟩, ⟨some 4, none, .mov (.c (.int .i64 0))⟩] none)
 (.scope sB34)) := rfl
theorem found34_2 : findL sB34 2 = some (.seq .skip r34_2) := rfl
theorem found34_1 : findL sB34 1 = some (.seq .skip r34_1) := rfl
theorem found34_0 : findL sB34 0 = some (.seq .skip r34_0) := rfl

end Go.Proofs.Ytlefnohibjcekaa.C
