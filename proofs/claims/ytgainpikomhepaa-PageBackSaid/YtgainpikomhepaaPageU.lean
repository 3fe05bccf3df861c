/- Chapter 08: PageWrites, the walk. -/
import Derived.Test.YtgainpikomhepaaPageT
import Derived.Test.YtgainpikomhepaaPageQ
set_option linter.unusedSimpArgs false
set_option linter.unusedVariables false
set_option maxRecDepth 10000
namespace Go.Proofs.Ytgainpikomhepaa.Page
open Go Go.Av Go.Proofs Go.Proofs.Ytgainpikomhepaa.C

theorem writes_p (n : Node) (hf : few n = true → Nb n) : PCalls Try.prog 3 [encNode n] (.bool true) := by
  refine f3.pcalls (by simp) (allPure_ok _ (enc1_pure n)) (isPure_ok _ rfl) fun k m => ?_
  unfold c3
  refine Wp.seqReg (by simp only [go_sem, reduceIte, Nat.reduceEqDiff, Nat.reduceAdd, Bool.false_eq_true, Bool.true_beq, Bool.false_beq, Bool.not_true, Bool.not_false, encNode]; exact rfl) (by trivial) ?_
  refine Wp.seq ?_
  refine Wp.seqItems (by simp only [go_sem, reduceIte, Nat.reduceEqDiff, Nat.reduceAdd, Bool.false_eq_true, Bool.true_beq, Bool.false_beq, Bool.not_true, Bool.not_false]; exact rfl) ?_
  refine WpItems.pcall (by simp only [go_sem, reduceIte, Nat.reduceEqDiff, Nat.reduceAdd, Bool.false_eq_true, Bool.true_beq, Bool.false_beq, Bool.not_true, Bool.not_false]) (by simp only [go_sem, reduceIte, Nat.reduceEqDiff, Nat.reduceAdd, Bool.false_eq_true, Bool.true_beq, Bool.false_beq, Bool.not_true, Bool.not_false, List.map]; exact VSubs.refl _) (few_p n) ?_
  refine WpItems.eval (by simp only [go_sem, reduceIte, Nat.reduceEqDiff, Nat.reduceAdd, Bool.false_eq_true, Bool.true_beq, Bool.false_beq, Bool.not_true, Bool.not_false]; exact rfl) ?_
  refine WpItems.nil ⟨by trivial, ?_⟩
  refine Wp.cond_split (b := !few n) (by simp only [go_sem, reduceIte, Nat.reduceEqDiff, Nat.reduceAdd, Bool.false_eq_true, Bool.true_beq, Bool.false_beq, Bool.not_true, Bool.not_false]) (fun hd => ?_) (fun hd => ?_)
  · refine Wp.seqItems (by simp only [go_sem, reduceIte, Nat.reduceEqDiff, Nat.reduceAdd, Bool.false_eq_true, Bool.true_beq, Bool.false_beq, Bool.not_true, Bool.not_false]; exact rfl) ?_
    refine WpItems.pcall (by simp only [go_sem, reduceIte, Nat.reduceEqDiff, Nat.reduceAdd, Bool.false_eq_true, Bool.true_beq, Bool.false_beq, Bool.not_true, Bool.not_false]) (by simp only [go_sem, reduceIte, Nat.reduceEqDiff, Nat.reduceAdd, Bool.false_eq_true, Bool.true_beq, Bool.false_beq, Bool.not_true, Bool.not_false, List.map]; exact VSubs.refl _) (lives_p) ?_
    refine WpItems.eval (by simp only [go_sem, reduceIte, Nat.reduceEqDiff, Nat.reduceAdd, Bool.false_eq_true, Bool.true_beq, Bool.false_beq, Bool.not_true, Bool.not_false]; exact rfl) ?_
    refine WpItems.nil ⟨by trivial, ?_⟩
    refine Wp.ret ⟨trivial, _, rfl, ?_⟩
    simp only [go_sem, reduceIte, Nat.reduceEqDiff, Nat.reduceAdd, Bool.false_eq_true, Bool.true_beq, Bool.false_beq, Bool.not_true, Bool.not_false]
    exact VSub.refl _
  · have hn : Nb n := hf (by simpa using hd)
    refine Wp.skip ?_
    refine Wp.seqItems (by simp only [go_sem, reduceIte, Nat.reduceEqDiff, Nat.reduceAdd, Bool.false_eq_true, Bool.true_beq, Bool.false_beq, Bool.not_true, Bool.not_false]; exact rfl) ?_
    refine WpItems.pcall (by simp only [go_sem, reduceIte, Nat.reduceEqDiff, Nat.reduceAdd, Bool.false_eq_true, Bool.true_beq, Bool.false_beq, Bool.not_true, Bool.not_false]) (by simp only [go_sem, reduceIte, Nat.reduceEqDiff, Nat.reduceAdd, Bool.false_eq_true, Bool.true_beq, Bool.false_beq, Bool.not_true, Bool.not_false, List.map]; exact VSubs.refl _) (bytes_p n hn) ?_
    refine WpItems.eval (by simp only [go_sem, reduceIte, Nat.reduceEqDiff, Nat.reduceAdd, Bool.false_eq_true, Bool.true_beq, Bool.false_beq, Bool.not_true, Bool.not_false]; exact rfl) ?_
    refine WpItems.nil ⟨by trivial, ?_⟩
    refine Wp.seqItems (by simp only [go_sem, reduceIte, Nat.reduceEqDiff, Nat.reduceAdd, Bool.false_eq_true, Bool.true_beq, Bool.false_beq, Bool.not_true, Bool.not_false]; exact rfl) ?_
    refine WpItems.pcall (by simp only [go_sem, reduceIte, Nat.reduceEqDiff, Nat.reduceAdd, Bool.false_eq_true, Bool.true_beq, Bool.false_beq, Bool.not_true, Bool.not_false]) (by simp only [go_sem, reduceIte, Nat.reduceEqDiff, Nat.reduceAdd, Bool.false_eq_true, Bool.true_beq, Bool.false_beq, Bool.not_true, Bool.not_false, List.map]; exact VSubs.refl _) (bytesR_p n hn) ?_
    refine WpItems.eval (by simp only [go_sem, reduceIte, Nat.reduceEqDiff, Nat.reduceAdd, Bool.false_eq_true, Bool.true_beq, Bool.false_beq, Bool.not_true, Bool.not_false]; exact rfl) ?_
    refine WpItems.nil ⟨by trivial, ?_⟩
    refine Wp.seqItems (by simp only [go_sem, reduceIte, Nat.reduceEqDiff, Nat.reduceAdd, Bool.false_eq_true, Bool.true_beq, Bool.false_beq, Bool.not_true, Bool.not_false]; exact rfl) ?_
    refine WpItems.pcall (by simp only [go_sem, reduceIte, Nat.reduceEqDiff, Nat.reduceAdd, Bool.false_eq_true, Bool.true_beq, Bool.false_beq, Bool.not_true, Bool.not_false]) (by simp only [go_sem, reduceIte, Nat.reduceEqDiff, Nat.reduceAdd, Bool.false_eq_true, Bool.true_beq, Bool.false_beq, Bool.not_true, Bool.not_false, List.map]; exact VSubs.refl _) (size_p n hn) ?_
    refine WpItems.eval (by simp only [go_sem, reduceIte, Nat.reduceEqDiff, Nat.reduceAdd, Bool.false_eq_true, Bool.true_beq, Bool.false_beq, Bool.not_true, Bool.not_false]; exact rfl) ?_
    refine WpItems.pcall (by simp only [go_sem, reduceIte, Nat.reduceEqDiff, Nat.reduceAdd, Bool.false_eq_true, Bool.true_beq, Bool.false_beq, Bool.not_true, Bool.not_false]) (by simp only [go_sem, reduceIte, Nat.reduceEqDiff, Nat.reduceAdd, Bool.false_eq_true, Bool.true_beq, Bool.false_beq, Bool.not_true, Bool.not_false, List.map]; exact VSubs.refl _) (sizeR_p n hn) ?_
    refine WpItems.eval (by simp only [go_sem, reduceIte, Nat.reduceEqDiff, Nat.reduceAdd, Bool.false_eq_true, Bool.true_beq, Bool.false_beq, Bool.not_true, Bool.not_false, decide_true]; exact rfl) ?_
    refine WpItems.pcall (by simp only [go_sem, reduceIte, Nat.reduceEqDiff, Nat.reduceAdd, Bool.false_eq_true, Bool.true_beq, Bool.false_beq, Bool.not_true, Bool.not_false]) (by simp only [go_sem, reduceIte, Nat.reduceEqDiff, Nat.reduceAdd, Bool.false_eq_true, Bool.true_beq, Bool.false_beq, Bool.not_true, Bool.not_false, List.map]; exact VSubs.refl _) (check_p n hn) ?_
    refine WpItems.eval (by simp only [go_sem, reduceIte, Nat.reduceEqDiff, Nat.reduceAdd, Bool.false_eq_true, Bool.true_beq, Bool.false_beq, Bool.not_true, Bool.not_false]; exact rfl) ?_
    refine WpItems.pcall (by simp only [go_sem, reduceIte, Nat.reduceEqDiff, Nat.reduceAdd, Bool.false_eq_true, Bool.true_beq, Bool.false_beq, Bool.not_true, Bool.not_false]) (by simp only [go_sem, reduceIte, Nat.reduceEqDiff, Nat.reduceAdd, Bool.false_eq_true, Bool.true_beq, Bool.false_beq, Bool.not_true, Bool.not_false, List.map]; exact VSubs.refl _) (checkR_p n hn) ?_
    refine WpItems.eval (by simp only [go_sem, reduceIte, Nat.reduceEqDiff, Nat.reduceAdd, Bool.false_eq_true, Bool.true_beq, Bool.false_beq, Bool.not_true, Bool.not_false, decide_true, unBytes_bytes]; exact rfl) ?_
    refine WpItems.pcall (by simp only [go_sem, reduceIte, Nat.reduceEqDiff, Nat.reduceAdd, Bool.false_eq_true, Bool.true_beq, Bool.false_beq, Bool.not_true, Bool.not_false]) (by simp only [go_sem, reduceIte, Nat.reduceEqDiff, Nat.reduceAdd, Bool.false_eq_true, Bool.true_beq, Bool.false_beq, Bool.not_true, Bool.not_false, List.map]; exact VSubs.refl _) (lives_p) ?_
    refine WpItems.eval (by simp only [go_sem, reduceIte, Nat.reduceEqDiff, Nat.reduceAdd, Bool.false_eq_true, Bool.true_beq, Bool.false_beq, Bool.not_true, Bool.not_false]; exact rfl) ?_
    refine WpItems.nil ⟨by simp [pairsQ, pairsOk, apart, ent0], ?_⟩
    refine Wp.ret ⟨trivial, _, rfl, ?_⟩
    simp only [go_sem, reduceIte, Nat.reduceEqDiff, Nat.reduceAdd, Bool.false_eq_true, Bool.true_beq, Bool.false_beq, Bool.not_true, Bool.not_false]
    exact VSub.refl _
end Go.Proofs.Ytgainpikomhepaa.Page
