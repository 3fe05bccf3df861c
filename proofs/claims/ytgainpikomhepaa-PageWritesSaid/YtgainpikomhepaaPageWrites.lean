/- PageWrites: of any node the program tells the size, the check and the bytes that the document's reference tells. No condition: the statement '..Said'. -/
import Derived.Test.YtgainpikomhepaaPageNode
import Derived.Test.YtgainpikomhepaaPageU
set_option linter.unusedSimpArgs false
set_option linter.unusedVariables false
namespace Go.Proofs.Ytgainpikomhepaa.Page
open Go Go.Av Go.Proofs Go.Proofs.Ytgainpikomhepaa.C
open Go.ChangeShapes Go.WideShapes Go.ChangeAt Go.RowKit

theorem writes_law {b : Nat} (avs : List AV) (h : All2 (ArgFits Try.prog 5) Try.f3.params.toList avs) (_ : bulkAs avs ≤ b) : PCalls Try.prog 3 avs (.bool true) := by
  rw [Try.params3] at h
  cases h with | cons h0 h =>
  cases h
  obtain ⟨n, rfl, hr⟩ := open_node h0
  exact writes_p n (few_nb hr)

set_option maxRecDepth 100000 in
theorem writes_lifted (os : Os) (started : os.Started) (H : Type) (enc : TypeId × Value → H) :
    ReturnsInHanded {} Try.checked os 3 .any (Rows.pageWritesSpec.pre6 enc Try.prog Try.f3 Rows.pageWritesRow.domain false) (Rows.pageWritesSpec.post enc Try.prog Try.f3 false true false false) := by
  refine returnsInHanded_of_change_sized (C := Try.checked) own started (by kernel_rfl) Try.func3
    (ChangeSpec.witness6 (enc := enc) (C := Try.checked) false ⟨#[], #[.agg #[.bool false, .slice none 0 0, .slice none 0 0, .slice none 0 0]], []⟩ 8 (by kernel_rfl) (by kernel_rfl) (by kernel_rfl) (by kernel_rfl)) ?_
  intro W base args ds gs before hval hW _ hwt _
  exact calls_row laid bulk rowed full rfl (fun l hl => by match l, hl with | [_], _ => rfl) rfl Try.underlying4 (by kernel_rfl) (by kernel_rfl) hval hW hwt (fun avs h hb => writes_law avs h hb)

theorem writes_said : Rows.PageWritesSaid :=
  OpenClaim.holds_of_wide 3 Try.f3 rfl rfl rfl rfl rfl rfl rfl ⟨rfl, rfl, rfl, rfl, rfl⟩ rfl rfl rfl rfl rfl (by kernel_rfl) Try.func3 (by kernel_rfl)
    (of_decide_eq_true (by kernel_rfl)) (by unfold Func.isWrapper; first | (rw [if_pos (by decide +kernel)]; kernel_rfl) | (rw [if_neg (by decide +kernel)]; exact ⟨rfl, rfl⟩))
    (fun os started H enc _ => writes_lifted os started H enc)
#print axioms writes_said
end Go.Proofs.Ytgainpikomhepaa.Page
