/- The order of texts. -/
import Derived.Test.YtlefnohibjcekaaCode
import Derived.Test.YtlefnohibjcekaaAvUse
import Derived.Test.YtlefnohibjcekaaAvTok
import Derived.Test.YtlefnohibjcekaaAvLib
set_option linter.unusedSimpArgs false
set_option linter.unusedVariables false
set_option maxRecDepth 10000
namespace Go.Proofs.Ytlefnohibjcekaa.Batch
open Go Go.Av Go.Proofs Go.Proofs.Ytlefnohibjcekaa.C

theorem lt_max {n : Nat} (h : n ≤ 9223372036854775806) : (n : Int) ≤ 9223372036854775806 := by omega

theorem less_nil_l (b : List UInt8) : Op.bytesLess [] b = decide (0 < b.length) := by cases b <;> simp [Op.bytesLess]
theorem less_nil_r (a : List UInt8) : Op.bytesLess a [] = false := by cases a <;> simp [Op.bytesLess]
theorem less_at {a b : List UInt8} {j : Nat} (ha : j < a.length) (hb : j < b.length) : Op.bytesLess (a.drop j) (b.drop j) = (decide (a.getD j 0 < b.getD j 0) || (a.getD j 0 == b.getD j 0 && Op.bytesLess (a.drop (j + 1)) (b.drop (j + 1)))) := by
  rw [List.drop_eq_getElem_cons ha, List.drop_eq_getElem_cons hb]
  simp [Op.bytesLess, List.getD, List.getElem?_eq_getElem ha, List.getElem?_eq_getElem hb]
theorem less_end {a b : List UInt8} {j : Nat} (ha : j ≤ a.length) (hb : j ≤ b.length) (h : ¬ (j < a.length ∧ j < b.length)) : Op.bytesLess (a.drop j) (b.drop j) = decide ((a.length : Int) < (b.length : Int)) := by
  by_cases h1 : j < a.length
  · have : b.drop j = [] := List.drop_eq_nil_of_le (by omega)
    rw [this, less_nil_r]; symm; simp; omega
  · have : a.drop j = [] := List.drop_eq_nil_of_le (by omega)
    rw [this, less_nil_l]; simp; omega

/-- texts as long as a machine has them -/
def Ls (l : List UInt8) : Prop := l.length ≤ 9223372036854775806

theorem below_p (a b : List UInt8) (la : Ls a) (lb : Ls b) : PCalls Try.prog 63 [.str a, .str b] (.bool (Op.bytesLess a b)) := by
  refine f63.pcalls (by simp) (allPure_ok _ rfl) (isPure_ok _ rfl) fun k m => ?_
  unfold Ls at la lb
  unfold c63
  refine Wp.seqReg (by simp only [go_sem, reduceIte, Nat.reduceEqDiff, Nat.reduceAdd, Bool.false_eq_true, Bool.true_beq, Bool.false_beq, Bool.not_true, Bool.not_false]; exact rfl) (by trivial) ?_
  refine Wp.seq ?_
  refine Wp.seqReg (by simp only [go_sem, reduceIte, Nat.reduceEqDiff, Nat.reduceAdd, Bool.false_eq_true, Bool.true_beq, Bool.false_beq, Bool.not_true, Bool.not_false]; exact rfl) (by trivial) ?_
  refine Wp.block ?_
  refine Wp.loopK [0, 1] (by simp only [go_sem, reduceIte, Nat.reduceEqDiff, Nat.reduceAdd, Bool.false_eq_true, Bool.true_beq, Bool.false_beq, Bool.not_true, Bool.not_false, List.map]; exact rfl) (fun j : Nat => [(5, .int .i64 j)]) (fun j => j ≤ a.length ∧ j ≤ b.length ∧ Op.bytesLess (a.drop j) (b.drop j) = Op.bytesLess a b) (fun j => a.length - j) 0 ⟨Nat.zero_le _, Nat.zero_le _, rfl⟩ ?_ ?_
  · simp only [AllSub, go_sem, reduceIte, Nat.reduceEqDiff, Nat.reduceAdd, Bool.false_eq_true, Bool.true_beq, Bool.false_beq, Bool.not_true, Bool.not_false]; and_intros <;> first | exact trivial | exact VSub.refl _ | exact VSub.any _ | (refine VSub.int ?_; omega)
  · intro j hj
    obtain ⟨h1, h2, h3⟩ := hj
    refine Wp.seq ?_
    by_cases hc : j < a.length ∧ j < b.length
    · have ha : decide ((j : Int) < (a.length : Int)) = true := by simp; omega
      have hb : decide ((j : Int) < (b.length : Int)) = true := by simp; omega
      have h4 : (0 : Int) ≤ (j : Int) := by omega
      have h5 : (j : Int) < (a.length : Int) := by omega
      have h6 : (j : Int) < (b.length : Int) := by omega
      refine Wp.seqReg (by simp only [go_sem, reduceIte, Nat.reduceEqDiff, Nat.reduceAdd, Bool.false_eq_true, Bool.true_beq, Bool.false_beq, Bool.not_true, Bool.not_false, ha, hb]; exact rfl) (by trivial) ?_
      refine Wp.cond_true (by simp only [go_sem, reduceIte, Nat.reduceEqDiff, Bool.false_eq_true]) ?_
      refine Wp.skip ?_
      refine Wp.seq ?_
      refine Wp.block ?_
      refine Wp.seqReg (by simp only [go_sem, reduceIte, Nat.reduceEqDiff, Nat.reduceAdd, Bool.false_eq_true, Bool.true_beq, Bool.false_beq, Bool.not_true, Bool.not_false, h4, h5, h6, and_self, if_true, Int.toNat_natCast, byte]; exact rfl) (by trivial) ?_
      have hs := less_at hc.1 hc.2
      refine Wp.cond_split (b := !decide (((a.getD j 0).toNat : Int) = ((b.getD j 0).toNat : Int))) (by simp only [go_sem, reduceIte, Nat.reduceEqDiff, Nat.reduceAdd, Bool.false_eq_true, Bool.true_beq, Bool.false_beq, Bool.not_true, Bool.not_false]) (fun hd => ?_) (fun hd => ?_)
      · refine Wp.seqReg (by simp only [go_sem, reduceIte, Nat.reduceEqDiff, Nat.reduceAdd, Bool.false_eq_true, Bool.true_beq, Bool.false_beq, Bool.not_true, Bool.not_false, h4, h5, h6, and_self, if_true, Int.toNat_natCast, byte]; exact rfl) (by trivial) ?_
        refine Wp.ret ⟨trivial, _, rfl, ?_⟩
        simp only [go_sem, reduceIte, Nat.reduceEqDiff, Nat.reduceAdd, Bool.false_eq_true, Bool.true_beq, Bool.false_beq, Bool.not_true, Bool.not_false]
        refine VSub.of_eq ?_
        congr 1
        rw [← h3, hs]
        have hne : ¬ (a.getD j 0 = b.getD j 0) := fun he => by rw [he] at hd; simp at hd
        have : (a.getD j 0 == b.getD j 0) = false := by simpa using hne
        rw [this, Bool.false_and, Bool.or_false]
        congr 1
        rw [UInt8.lt_iff_toNat_lt]
        simp
      · refine Wp.skip ?_
        refine Wp.reg1 (by simp only [go_sem, reduceIte, Nat.reduceEqDiff, Nat.reduceAdd, Bool.false_eq_true, Bool.true_beq, Bool.false_beq, Bool.not_true, Bool.not_false]; simp (disch := omega) only [IntWalk.i64_in]; exact rfl) (by trivial) ?_
        have he : a.getD j 0 = b.getD j 0 := by
          apply UInt8.toNat_inj.1
          have : ((a.getD j 0).toNat : Int) = ((b.getD j 0).toNat : Int) := by simpa using hd
          omega
        refine ⟨j + 1, ⟨by omega, by omega, ?_⟩, by omega, ?_⟩
        · rw [← h3, hs, he]; simp [UInt8.lt_irrefl]
        · refine StLe.tm (by simp only [AllSub, go_sem, reduceIte, Nat.reduceEqDiff, Nat.reduceAdd, Bool.false_eq_true, Bool.true_beq, Bool.false_beq, Bool.not_true, Bool.not_false]; and_intros <;> first | exact trivial | exact VSub.refl _ | exact VSub.any _ | (refine VSub.int ?_; omega))
    · have hx : (decide ((j : Int) < (a.length : Int)) && decide ((j : Int) < (b.length : Int))) = false := by
        by_cases h : j < a.length
        · have : ¬ j < b.length := fun h' => hc ⟨h, h'⟩
          simp; omega
        · simp; omega
      by_cases ha : j < a.length
      · have h7 : decide ((j : Int) < (a.length : Int)) = true := by simp; omega
        have h8 : decide ((j : Int) < (b.length : Int)) = false := by rw [h7, Bool.true_and] at hx; exact hx
        refine Wp.seqReg (by simp only [go_sem, reduceIte, Nat.reduceEqDiff, Nat.reduceAdd, Bool.false_eq_true, Bool.true_beq, Bool.false_beq, Bool.not_true, Bool.not_false, h7, h8]; exact rfl) (by trivial) ?_
        refine Wp.cond_false (by simp only [go_sem, reduceIte, Nat.reduceEqDiff, Bool.false_eq_true]) ?_
        refine Wp.exit ?_
        refine Wp.seqReg (by simp only [go_sem, reduceIte, Nat.reduceEqDiff, Nat.reduceAdd, Bool.false_eq_true, Bool.true_beq, Bool.false_beq, Bool.not_true, Bool.not_false]; exact rfl) (by trivial) ?_
        refine Wp.ret ⟨trivial, _, rfl, ?_⟩
        simp only [go_sem, reduceIte, Nat.reduceEqDiff, Nat.reduceAdd, Bool.false_eq_true, Bool.true_beq, Bool.false_beq, Bool.not_true, Bool.not_false]
        rw [← h3, less_end h1 h2 hc]
        exact VSub.refl _
      · have h7 : decide ((j : Int) < (a.length : Int)) = false := by simp; omega
        refine Wp.seqReg (by simp only [go_sem, reduceIte, Nat.reduceEqDiff, Nat.reduceAdd, Bool.false_eq_true, Bool.true_beq, Bool.false_beq, Bool.not_true, Bool.not_false, h7]; exact rfl) (by trivial) ?_
        refine Wp.cond_false (by simp only [go_sem, reduceIte, Nat.reduceEqDiff, Bool.false_eq_true]) ?_
        refine Wp.exit ?_
        refine Wp.seqReg (by simp only [go_sem, reduceIte, Nat.reduceEqDiff, Nat.reduceAdd, Bool.false_eq_true, Bool.true_beq, Bool.false_beq, Bool.not_true, Bool.not_false]; exact rfl) (by trivial) ?_
        refine Wp.ret ⟨trivial, _, rfl, ?_⟩
        simp only [go_sem, reduceIte, Nat.reduceEqDiff, Nat.reduceAdd, Bool.false_eq_true, Bool.true_beq, Bool.false_beq, Bool.not_true, Bool.not_false]
        rw [← h3, less_end h1 h2 hc]
        exact VSub.refl _

theorem less_irrefl : ∀ a, Op.bytesLess a a = false
  | [] => rfl
  | x :: a => by simp [Op.bytesLess, less_irrefl a, UInt8.lt_irrefl]
theorem less_trans : ∀ {a b c}, Op.bytesLess a b = true → Op.bytesLess b c = true → Op.bytesLess a c = true
  | a, b, [], _, h => by rw [less_nil_r] at h; cases h
  | a, [], c :: cs, h, _ => by rw [less_nil_r] at h; cases h
  | [], b :: bs, c :: cs, _, _ => rfl
  | a :: x, b :: y, c :: z, h1, h2 => by
    simp only [Op.bytesLess, Bool.or_eq_true, decide_eq_true_eq, Bool.and_eq_true, beq_iff_eq] at h1 h2 ⊢
    rcases h1 with h1 | ⟨rfl, h1⟩
    · rcases h2 with h2 | ⟨rfl, h2⟩
      · exact .inl (UInt8.lt_trans h1 h2)
      · exact .inl h1
    · rcases h2 with h2 | ⟨rfl, h2⟩
      · exact .inl h2
      · exact .inr ⟨rfl, less_trans h1 h2⟩
theorem less_total : ∀ a b, Op.bytesLess a b = true ∨ a = b ∨ Op.bytesLess b a = true
  | [], [] => .inr (.inl rfl)
  | [], _ :: _ => .inl rfl
  | _ :: _, [] => .inr (.inr rfl)
  | x :: a, y :: b => by
    simp only [Op.bytesLess, Bool.or_eq_true, decide_eq_true_eq, Bool.and_eq_true, beq_iff_eq, List.cons.injEq]
    rcases Nat.lt_trichotomy x.toNat y.toNat with h | h | h
    · exact .inl (.inl (UInt8.lt_iff_toNat_lt.2 h))
    · have := UInt8.toNat_inj.1 h
      subst this
      rcases less_total a b with h | h | h
      · exact .inl (.inr ⟨rfl, h⟩)
      · exact .inr (.inl ⟨rfl, h⟩)
      · exact .inr (.inr (.inr ⟨rfl, h⟩))
    · exact .inr (.inr (.inl (UInt8.lt_iff_toNat_lt.2 h)))
theorem less_asymm {a b} (h : Op.bytesLess a b = true) : Op.bytesLess b a = false := by
  cases h' : Op.bytesLess b a
  · rfl
  · have := less_trans h h'
    rw [less_irrefl] at this; cases this

end Go.Proofs.Ytlefnohibjcekaa.Batch
