/- The order of texts, and rising rows. -/
import Derived.Test.YtgainpikomhepaaPageM
set_option linter.unusedSimpArgs false
set_option linter.unusedVariables false
set_option maxRecDepth 10000
namespace Go.Proofs.Ytgainpikomhepaa.Page
open Go Go.Av Go.Proofs Go.Proofs.Ytgainpikomhepaa.C

theorem less_irrefl : ∀ a, Op.bytesLess a a = false
  | [] => rfl
  | x :: a => by simp [Op.bytesLess, less_irrefl a, UInt8.lt_irrefl]
theorem less_trans : ∀ {a b c}, Op.bytesLess a b = true → Op.bytesLess b c = true → Op.bytesLess a c = true
  | a, b, [], _, h => by rw [less_nil_r] at h; cases h
  | a, [], c :: cs, h, _ => by rw [less_nil_r] at h; cases h
  | [], b :: bs, c :: cs, _, _ => rfl
  | a :: x, b :: y, c :: z, h1, h2 => by
    simp only [Op.bytesLess, Bool.or_eq_true, decide_eq_true_eq, Bool.and_eq_true, beq_iff_eq] at h1 h2 ⊢
    rcases h1 with h1 | ⟨rfl, h1⟩
    · rcases h2 with h2 | ⟨rfl, h2⟩
      · exact .inl (UInt8.lt_trans h1 h2)
      · exact .inl h1
    · rcases h2 with h2 | ⟨rfl, h2⟩
      · exact .inl h2
      · exact .inr ⟨rfl, less_trans h1 h2⟩
theorem less_total : ∀ a b, Op.bytesLess a b = true ∨ a = b ∨ Op.bytesLess b a = true
  | [], [] => .inr (.inl rfl)
  | [], _ :: _ => .inl rfl
  | _ :: _, [] => .inr (.inr rfl)
  | x :: a, y :: b => by
    simp only [Op.bytesLess, Bool.or_eq_true, decide_eq_true_eq, Bool.and_eq_true, beq_iff_eq, List.cons.injEq]
    rcases Nat.lt_trichotomy x.toNat y.toNat with h | h | h
    · exact .inl (.inl (UInt8.lt_iff_toNat_lt.2 h))
    · have := UInt8.toNat_inj.1 h
      subst this
      rcases less_total a b with h | h | h
      · exact .inl (.inr ⟨rfl, h⟩)
      · exact .inr (.inl ⟨rfl, h⟩)
      · exact .inr (.inr (.inr ⟨rfl, h⟩))
    · exact .inr (.inr (.inl (UInt8.lt_iff_toNat_lt.2 h)))
theorem less_asymm {a b} (h : Op.bytesLess a b = true) : Op.bytesLess b a = false := by
  cases h' : Op.bytesLess b a
  · rfl
  · have := less_trans h h'
    rw [less_irrefl] at this; cases this

theorem rising {l : List (List UInt8)} (h : keysOk l = true) {i : Nat} : ∀ {j}, i < j → j < l.length → Op.bytesLess (l.getD i []) (l.getD j []) = true
  | j + 1, hij, hj => by
    have h1 := keysOk_at h hj
    simp only [keyOk, Nat.add_sub_cancel, Bool.and_eq_true, Bool.or_eq_true, decide_eq_true_eq] at h1
    have h2 : Op.bytesLess (l.getD j []) (l.getD (j + 1) []) = true := by
      rcases h1.2 with h | h
      · omega
      · exact h
    by_cases he : i = j
    · subst he; exact h2
    · exact less_trans (rising h (j := j) (by omega) (by omega)) h2
end Go.Proofs.Ytgainpikomhepaa.Page
