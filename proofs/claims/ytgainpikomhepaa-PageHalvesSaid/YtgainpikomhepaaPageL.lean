/- Chapter 08: few. -/
import Derived.Test.YtgainpikomhepaaPageK
set_option linter.unusedSimpArgs false
set_option linter.unusedVariables false
set_option maxRecDepth 10000
namespace Go.Proofs.Ytgainpikomhepaa.Page
open Go Go.Av Go.Proofs Go.Proofs.Ytgainpikomhepaa.C

def few (n : Node) : Bool := decide (n.keys.length ≤ 500) && decide (n.vals.length ≤ 500) && decide (n.kids.length ≤ 500)

theorem few_p (n : Node) : PCalls Try.prog 11 [encNode n] (.bool (few n)) := by
  refine f11.pcalls (by simp) (allPure_ok _ (enc1_pure n)) (isPure_ok _ rfl) fun k m => ?_
  unfold c11
  refine Wp.seqReg (by simp only [go_sem, reduceIte, Nat.reduceEqDiff, Nat.reduceAdd, Bool.false_eq_true, Bool.true_beq, Bool.false_beq, Bool.not_true, Bool.not_false, encNode]; exact rfl) (by trivial) ?_
  have hz : ∀ a : Nat, decide ((a : Int) ≤ 500) = decide (a ≤ 500) := fun a => decide_eq_decide.2 (by omega)
  by_cases h1 : n.keys.length ≤ 500
  · have h1' : decide ((n.keys.length : Int) ≤ 500) = true := decide_eq_true (by omega)
    by_cases h2 : n.vals.length ≤ 500
    · have h2' : decide ((n.vals.length : Int) ≤ 500) = true := decide_eq_true (by omega)
      refine Wp.seqReg (by simp only [go_sem, reduceIte, Nat.reduceEqDiff, Nat.reduceAdd, Bool.false_eq_true, Bool.true_beq, Bool.false_beq, Bool.not_true, Bool.not_false, h1', h2']; exact rfl) (by trivial) ?_
      refine Wp.ret ⟨trivial, _, rfl, ?_⟩
      simp only [go_sem, reduceIte, Nat.reduceEqDiff, Nat.reduceAdd, Bool.false_eq_true, Bool.true_beq, Bool.false_beq, Bool.not_true, Bool.not_false]
      refine VSub.of_eq ?_
      simp [few, h1, h2, hz]
    · have h2' : decide ((n.vals.length : Int) ≤ 500) = false := decide_eq_false (by omega)
      refine Wp.seqReg (by simp only [go_sem, reduceIte, Nat.reduceEqDiff, Nat.reduceAdd, Bool.false_eq_true, Bool.true_beq, Bool.false_beq, Bool.not_true, Bool.not_false, h1', h2']; exact rfl) (by trivial) ?_
      refine Wp.ret ⟨trivial, _, rfl, ?_⟩
      simp only [go_sem, reduceIte, Nat.reduceEqDiff, Nat.reduceAdd, Bool.false_eq_true, Bool.true_beq, Bool.false_beq, Bool.not_true, Bool.not_false]
      refine VSub.of_eq ?_
      simp [few, h1, h2]
  · have h1' : decide ((n.keys.length : Int) ≤ 500) = false := decide_eq_false (by omega)
    refine Wp.seqReg (by simp only [go_sem, reduceIte, Nat.reduceEqDiff, Nat.reduceAdd, Bool.false_eq_true, Bool.true_beq, Bool.false_beq, Bool.not_true, Bool.not_false, h1']; exact rfl) (by trivial) ?_
    refine Wp.ret ⟨trivial, _, rfl, ?_⟩
    simp only [go_sem, reduceIte, Nat.reduceEqDiff, Nat.reduceAdd, Bool.false_eq_true, Bool.true_beq, Bool.false_beq, Bool.not_true, Bool.not_false]
    refine VSub.of_eq ?_
    simp [few, h1]
end Go.Proofs.Ytgainpikomhepaa.Page
