/- Chapter 08: the examples. -/
import Derived.Test.YtgainpikomhepaaTab
set_option linter.unusedSimpArgs false
set_option maxRecDepth 100000
namespace Go.Proofs.Ytgainpikomhepaa.Page
open Go Go.Av Go.Proofs Go.Proofs.Ytgainpikomhepaa.C

theorem lives_p : PCalls Try.prog 12 [] (.bool true) :=
  pcalls_run (k := 100000) tab_ok tab_named (by kernel_rfl)
end Go.Proofs.Ytgainpikomhepaa.Page
