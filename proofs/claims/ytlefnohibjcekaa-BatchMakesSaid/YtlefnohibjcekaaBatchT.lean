/- Chapter 15: the document's examples (a closed call, run by the kernel). -/
import Derived.Test.YtlefnohibjcekaaTab
import Derived.Test.YtlefnohibjcekaaAvRun
set_option maxRecDepth 100000
namespace Go.Proofs.Ytlefnohibjcekaa.Batch
open Go Go.Av Go.Proofs Go.Proofs.Ytlefnohibjcekaa.C
theorem lives_p : PCalls Try.prog 37 [] (.bool true) :=
  pcalls_run (k := 100000) tab_ok tab_named (by kernel_rfl)
end Go.Proofs.Ytlefnohibjcekaa.Batch
