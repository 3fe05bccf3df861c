/- BatchMakes: the statement 'BatchMakesSaid', closed by the law that the walk shows. No condition. -/
import Derived.Test.YtlefnohibjcekaaBatchMd
import Derived.Test.YtlefnohibjcekaaAvRow
set_option linter.unusedSimpArgs false
set_option linter.unusedVariables false
namespace Go.Proofs.Ytlefnohibjcekaa.Batch
open Go Go.Av Go.Proofs Go.Proofs.Ytlefnohibjcekaa.C
open Go.ChangeShapes Go.WideShapes Go.ChangeAt Go.RowKit

set_option maxRecDepth 100000 in
theorem lifted_BatchMakes (os : Os) (started : os.Started) (H : Type) (enc : TypeId × Value → H) :
    ReturnsInHanded {} Try.checked os 12 .any (Rows.batchMakesSpec.pre6 enc Try.prog Try.f12 Rows.batchMakesRow.domain false) (Rows.batchMakesSpec.post enc Try.prog Try.f12 false true false false) := by
  refine returnsInHanded_of_change_sized (C := Try.checked) own started (by kernel_rfl) Try.func12
    (ChangeSpec.witness6 (enc := enc) (C := Try.checked) false ⟨#[], #[.slice none 0 0, .slice none 0 0], []⟩ 8 (by kernel_rfl) (by kernel_rfl) (by kernel_rfl) (by kernel_rfl)) ?_
  intro W base args ds gs before hval hW _ hwt _
  exact calls_row laid bulk rowed full rfl (fun l hl => by match l, hl with | [_, _], _ => rfl) rfl Try.underlying4 (by kernel_rfl) (by kernel_rfl) hval hW hwt (fun avs h hb => law_BatchMakes avs h hb)

theorem said_BatchMakes : Rows.BatchMakesSaid :=
  OpenClaim.holds_of_wide 12 Try.f12 rfl rfl rfl rfl rfl rfl rfl ⟨rfl, rfl, rfl, rfl, rfl⟩ rfl rfl rfl rfl rfl (by kernel_rfl) Try.func12 (by kernel_rfl)
    (of_decide_eq_true (by kernel_rfl)) (by unfold Func.isWrapper; first | (rw [if_pos (by decide +kernel)]; kernel_rfl) | (rw [if_neg (by decide +kernel)]; exact ⟨rfl, rfl⟩))
    (fun os started H enc _ => lifted_BatchMakes os started H enc)
#print axioms said_BatchMakes
end Go.Proofs.Ytlefnohibjcekaa.Batch
