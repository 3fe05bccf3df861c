/- Chapter 15: texts of a record: the program's text, the document's piece. -/
import Derived.Test.YtlefnohibjcekaaBatchO
set_option linter.unusedSimpArgs false
set_option linter.unusedVariables false
set_option maxRecDepth 10000
namespace Go.Proofs.Ytlefnohibjcekaa.Batch
open Go Go.Av Go.Proofs Go.Proofs.Ytlefnohibjcekaa.C

def textR (s : Bs) (i : Nat) : Bs × Nat × Bool := match ptext s i with | some (k, e) => (k, e, true) | none => ([], i, false)

theorem text_p (s : Bs) (i : Nat) (hs : s.length ≤ 1000000) (hi : i ≤ 2000000) : PCalls Try.prog 91 [.str s, .int .i64 i] (.tup [.str (textR s i).1, .int .i64 (textR s i).2.1, .bool (textR s i).2.2]) := by
  refine f91.pcalls0 (by simp) rfl (by simp [isPure, allPure]) ?_
  unfold c91
  by_cases h1 : i < s.length
  · have d1 : decide ((s.length : Int) ≤ (i : Int)) = false := decide_eq_false (by omega)
    have p1 : (0 : Int) ≤ (i : Int) := by omega
    have p2 : (i : Int) < (s.length : Int) := by omega
    have hb := (bt s i).toNat_lt
    have hbt : s.getD i 0 = bt s i := rfl
    have e1 : IntKind.i64.wrap ((i : Int) + 1) = ((i + 1 : Nat) : Int) := by rw [IntWalk.i64_in _ (by omega)]; omega
    have e2 : IntKind.i64.wrap (((bt s i).toNat : Nat) : Int) = (((bt s i).toNat : Nat) : Int) := IntWalk.i64_in _ (by omega)
    have e3 : IntKind.i64.wrap (((i + 1 : Nat) : Int) + (((bt s i).toNat : Nat) : Int)) = ((i + 1 + (bt s i).toNat : Nat) : Int) := by rw [IntWalk.i64_in _ (by omega)]; omega
    by_cases h2 : i + 1 + (bt s i).toNat ≤ s.length
    · have d2 : decide ((s.length : Int) < ((i + 1 + (bt s i).toNat : Nat) : Int)) = false := decide_eq_false (by omega)
      have q1 : (0 : Int) ≤ ((i + 1 : Nat) : Int) := by omega
      have q2 : ((i + 1 : Nat) : Int) ≤ ((i + 1 + (bt s i).toNat : Nat) : Int) := by omega
      have q3 : (0 : Int) ≤ ((i + 1 + (bt s i).toNat : Nat) : Int) := by omega
      have q4 : ((i + 1 + (bt s i).toNat : Nat) : Int) ≤ (s.length : Int) := by omega
      have hp : textR s i = ((s.take (i + 1 + (bt s i).toNat)).drop (i + 1), i + 1 + (bt s i).toNat, true) := by rw [textR, ptext, if_pos ⟨h1, h2⟩]
      rw [hp]
      repeat (first
        | (refine Wp.seqItems (its := ?_) (t' := ?_) (h' := ?_) (log := ?_) ?_ ?_; rotate_left 4; (· simp only [go_sem, reduceIte, Nat.reduceEqDiff, Nat.reduceAdd, Bool.false_eq_true, Bool.true_beq, Bool.false_beq, Bool.not_true, Bool.not_false, and_self, true_and, and_true, if_true, if_false, true_or, or_true, Nat.zero_mul, Nat.one_mul, Nat.zero_le, Nat.reduceMul, Nat.reduceLeDiff, decide_true, decide_false, Int.toNat_natCast, List.length_append, List.filter_cons, List.filter_nil, ne_eq, not_true_eq_false, not_false_eq_true, d1, d2, p1, p2, hbt, byte, e1, e2, e3, q1, q2, q3, q4, Int.toNat_natCast]; exact rfl))
        | (refine Wp.items (its := ?_) (t' := ?_) (h' := ?_) (log := ?_) ?_ ?_; rotate_left 4; (· simp only [go_sem, reduceIte, Nat.reduceEqDiff, Nat.reduceAdd, Bool.false_eq_true, Bool.true_beq, Bool.false_beq, Bool.not_true, Bool.not_false, and_self, true_and, and_true, if_true, if_false, true_or, or_true, Nat.zero_mul, Nat.one_mul, Nat.zero_le, Nat.reduceMul, Nat.reduceLeDiff, decide_true, decide_false, Int.toNat_natCast, List.length_append, List.filter_cons, List.filter_nil, ne_eq, not_true_eq_false, not_false_eq_true, d1, d2, p1, p2, hbt, byte, e1, e2, e3, q1, q2, q3, q4, Int.toNat_natCast]; exact rfl))
        | (refine WpItems.nil ⟨?_, ?_⟩; (· first | trivial | simp [pairsQ, pairsOk, apart, ent0]))
        | (refine Wp.cond_true ?_ ?_; (· simp only [go_sem, reduceIte, Nat.reduceEqDiff, Nat.reduceAdd, Bool.false_eq_true, Bool.true_beq, Bool.false_beq, Bool.not_true, Bool.not_false, and_self, true_and, and_true, if_true, if_false, true_or, or_true, Nat.zero_mul, Nat.one_mul, Nat.zero_le, Nat.reduceMul, Nat.reduceLeDiff, decide_true, decide_false, Int.toNat_natCast, List.length_append, List.filter_cons, List.filter_nil, ne_eq, not_true_eq_false, not_false_eq_true, d1, d2, p1, p2, hbt, byte, e1, e2, e3, q1, q2, q3, q4, Int.toNat_natCast]))
        | (refine Wp.cond_false ?_ ?_; (· simp only [go_sem, reduceIte, Nat.reduceEqDiff, Nat.reduceAdd, Bool.false_eq_true, Bool.true_beq, Bool.false_beq, Bool.not_true, Bool.not_false, and_self, true_and, and_true, if_true, if_false, true_or, or_true, Nat.zero_mul, Nat.one_mul, Nat.zero_le, Nat.reduceMul, Nat.reduceLeDiff, decide_true, decide_false, Int.toNat_natCast, List.length_append, List.filter_cons, List.filter_nil, ne_eq, not_true_eq_false, not_false_eq_true, d1, d2, p1, p2, hbt, byte, e1, e2, e3, q1, q2, q3, q4, Int.toNat_natCast]))
        | refine Wp.skip ?_
        | refine Wp.label ?_
        | refine Wp.block ?_
        | refine Wp.exit ?_
        | refine Wp.seq ?_)
      refine Wp.ret ⟨trivial, _, rfl, ?_⟩
      simp only [go_sem, reduceIte, Nat.reduceEqDiff, Nat.reduceAdd, Bool.false_eq_true, Bool.true_beq, Bool.false_beq, Bool.not_true, Bool.not_false, Int.toNat_natCast]
      exact VSub.refl _
    · have d2 : decide ((s.length : Int) < ((i + 1 + (bt s i).toNat : Nat) : Int)) = true := decide_eq_true (by omega)
      have hp : textR s i = ([], i, false) := by rw [textR, ptext, if_neg (by omega)]
      rw [hp]
      repeat (first
        | (refine Wp.seqItems (its := ?_) (t' := ?_) (h' := ?_) (log := ?_) ?_ ?_; rotate_left 4; (· simp only [go_sem, reduceIte, Nat.reduceEqDiff, Nat.reduceAdd, Bool.false_eq_true, Bool.true_beq, Bool.false_beq, Bool.not_true, Bool.not_false, and_self, true_and, and_true, if_true, if_false, true_or, or_true, Nat.zero_mul, Nat.one_mul, Nat.zero_le, Nat.reduceMul, Nat.reduceLeDiff, decide_true, decide_false, Int.toNat_natCast, List.length_append, List.filter_cons, List.filter_nil, ne_eq, not_true_eq_false, not_false_eq_true, d1, d2, p1, p2, hbt, byte, e1, e2, e3, Int.toNat_natCast]; exact rfl))
        | (refine Wp.items (its := ?_) (t' := ?_) (h' := ?_) (log := ?_) ?_ ?_; rotate_left 4; (· simp only [go_sem, reduceIte, Nat.reduceEqDiff, Nat.reduceAdd, Bool.false_eq_true, Bool.true_beq, Bool.false_beq, Bool.not_true, Bool.not_false, and_self, true_and, and_true, if_true, if_false, true_or, or_true, Nat.zero_mul, Nat.one_mul, Nat.zero_le, Nat.reduceMul, Nat.reduceLeDiff, decide_true, decide_false, Int.toNat_natCast, List.length_append, List.filter_cons, List.filter_nil, ne_eq, not_true_eq_false, not_false_eq_true, d1, d2, p1, p2, hbt, byte, e1, e2, e3, Int.toNat_natCast]; exact rfl))
        | (refine WpItems.nil ⟨?_, ?_⟩; (· first | trivial | simp [pairsQ, pairsOk, apart, ent0]))
        | (refine Wp.cond_true ?_ ?_; (· simp only [go_sem, reduceIte, Nat.reduceEqDiff, Nat.reduceAdd, Bool.false_eq_true, Bool.true_beq, Bool.false_beq, Bool.not_true, Bool.not_false, and_self, true_and, and_true, if_true, if_false, true_or, or_true, Nat.zero_mul, Nat.one_mul, Nat.zero_le, Nat.reduceMul, Nat.reduceLeDiff, decide_true, decide_false, Int.toNat_natCast, List.length_append, List.filter_cons, List.filter_nil, ne_eq, not_true_eq_false, not_false_eq_true, d1, d2, p1, p2, hbt, byte, e1, e2, e3, Int.toNat_natCast]))
        | (refine Wp.cond_false ?_ ?_; (· simp only [go_sem, reduceIte, Nat.reduceEqDiff, Nat.reduceAdd, Bool.false_eq_true, Bool.true_beq, Bool.false_beq, Bool.not_true, Bool.not_false, and_self, true_and, and_true, if_true, if_false, true_or, or_true, Nat.zero_mul, Nat.one_mul, Nat.zero_le, Nat.reduceMul, Nat.reduceLeDiff, decide_true, decide_false, Int.toNat_natCast, List.length_append, List.filter_cons, List.filter_nil, ne_eq, not_true_eq_false, not_false_eq_true, d1, d2, p1, p2, hbt, byte, e1, e2, e3, Int.toNat_natCast]))
        | refine Wp.skip ?_
        | refine Wp.label ?_
        | refine Wp.block ?_
        | refine Wp.exit ?_
        | refine Wp.seq ?_)
      refine Wp.ret ⟨trivial, _, rfl, ?_⟩
      simp only [go_sem, reduceIte, Nat.reduceEqDiff, Nat.reduceAdd, Bool.false_eq_true, Bool.true_beq, Bool.false_beq, Bool.not_true, Bool.not_false]
      exact VSub.refl _
  · have d1 : decide ((s.length : Int) ≤ (i : Int)) = true := decide_eq_true (by omega)
    have hp : textR s i = ([], i, false) := by rw [textR, ptext, if_neg (by omega)]
    rw [hp]
    repeat (first
      | (refine Wp.seqItems (its := ?_) (t' := ?_) (h' := ?_) (log := ?_) ?_ ?_; rotate_left 4; (· simp only [go_sem, reduceIte, Nat.reduceEqDiff, Nat.reduceAdd, Bool.false_eq_true, Bool.true_beq, Bool.false_beq, Bool.not_true, Bool.not_false, and_self, true_and, and_true, if_true, if_false, true_or, or_true, Nat.zero_mul, Nat.one_mul, Nat.zero_le, Nat.reduceMul, Nat.reduceLeDiff, decide_true, decide_false, Int.toNat_natCast, List.length_append, List.filter_cons, List.filter_nil, ne_eq, not_true_eq_false, not_false_eq_true, d1]; exact rfl))
      | (refine Wp.items (its := ?_) (t' := ?_) (h' := ?_) (log := ?_) ?_ ?_; rotate_left 4; (· simp only [go_sem, reduceIte, Nat.reduceEqDiff, Nat.reduceAdd, Bool.false_eq_true, Bool.true_beq, Bool.false_beq, Bool.not_true, Bool.not_false, and_self, true_and, and_true, if_true, if_false, true_or, or_true, Nat.zero_mul, Nat.one_mul, Nat.zero_le, Nat.reduceMul, Nat.reduceLeDiff, decide_true, decide_false, Int.toNat_natCast, List.length_append, List.filter_cons, List.filter_nil, ne_eq, not_true_eq_false, not_false_eq_true, d1]; exact rfl))
      | (refine WpItems.nil ⟨?_, ?_⟩; (· first | trivial | simp [pairsQ, pairsOk, apart, ent0]))
      | (refine Wp.cond_true ?_ ?_; (· simp only [go_sem, reduceIte, Nat.reduceEqDiff, Nat.reduceAdd, Bool.false_eq_true, Bool.true_beq, Bool.false_beq, Bool.not_true, Bool.not_false, and_self, true_and, and_true, if_true, if_false, true_or, or_true, Nat.zero_mul, Nat.one_mul, Nat.zero_le, Nat.reduceMul, Nat.reduceLeDiff, decide_true, decide_false, Int.toNat_natCast, List.length_append, List.filter_cons, List.filter_nil, ne_eq, not_true_eq_false, not_false_eq_true, d1]))
      | (refine Wp.cond_false ?_ ?_; (· simp only [go_sem, reduceIte, Nat.reduceEqDiff, Nat.reduceAdd, Bool.false_eq_true, Bool.true_beq, Bool.false_beq, Bool.not_true, Bool.not_false, and_self, true_and, and_true, if_true, if_false, true_or, or_true, Nat.zero_mul, Nat.one_mul, Nat.zero_le, Nat.reduceMul, Nat.reduceLeDiff, decide_true, decide_false, Int.toNat_natCast, List.length_append, List.filter_cons, List.filter_nil, ne_eq, not_true_eq_false, not_false_eq_true, d1]))
      | refine Wp.skip ?_
      | refine Wp.label ?_
      | refine Wp.block ?_
      | refine Wp.exit ?_
      | refine Wp.seq ?_)
    refine Wp.ret ⟨trivial, _, rfl, ?_⟩
    simp only [go_sem, reduceIte, Nat.reduceEqDiff, Nat.reduceAdd, Bool.false_eq_true, Bool.true_beq, Bool.false_beq, Bool.not_true, Bool.not_false]
    exact VSub.refl _

theorem piece_p (s : Bs) (i : Int) (hs : s.length ≤ 140737488355328) (hi : -1 ≤ i ∧ i ≤ 281474976710656) : PCalls Try.prog 93 [.str s, .int .i64 i] (.tup [.str (pieceR s i).1, .int .i64 (pieceR s i).2]) := by
  refine f93.pcalls0 (by simp) rfl (by simp [isPure, allPure]) ?_
  unfold c93
  by_cases h0 : 0 ≤ i
  · obtain ⟨i, rfl⟩ : ∃ n : Nat, i = n := ⟨i.toNat, by omega⟩
    have d0 : decide ((i : Int) < 0) = false := decide_eq_false (by omega)
    by_cases h1 : i < s.length
    · have d1 : decide ((s.length : Int) ≤ (i : Int)) = false := decide_eq_false (by omega)
      have p1 : (0 : Int) ≤ (i : Int) := by omega
      have p2 : (i : Int) < (s.length : Int) := by omega
      have hb := (bt s i).toNat_lt
      have hbt : s.getD i 0 = bt s i := rfl
      have e1 : IntKind.i64.wrap ((i : Int) + 1) = ((i + 1 : Nat) : Int) := by rw [IntWalk.i64_in _ (by omega)]; omega
      have e2 : IntKind.i64.wrap (((bt s i).toNat : Nat) : Int) = (((bt s i).toNat : Nat) : Int) := IntWalk.i64_in _ (by omega)
      have e3 : IntKind.i64.wrap (((i + 1 : Nat) : Int) + (((bt s i).toNat : Nat) : Int)) = ((i + 1 + (bt s i).toNat : Nat) : Int) := by rw [IntWalk.i64_in _ (by omega)]; omega
      have e4 : IntKind.i64.wrap ((s.length : Int) - (i : Int)) = ((s.length - i : Nat) : Int) := by rw [IntWalk.i64_in _ (by omega)]; omega
      have e5 : IntKind.i64.wrap (((s.length - i : Nat) : Int) - 1) = ((s.length - i - 1 : Nat) : Int) := by rw [IntWalk.i64_in _ (by omega)]; omega
      by_cases h2 : i + 1 + (bt s i).toNat ≤ s.length
      · have d2 : decide (((s.length - i - 1 : Nat) : Int) < (((bt s i).toNat : Nat) : Int)) = false := decide_eq_false (by omega)
        have q1 : (0 : Int) ≤ ((i + 1 : Nat) : Int) := by omega
        have q2 : ((i + 1 : Nat) : Int) ≤ ((i + 1 + (bt s i).toNat : Nat) : Int) := by omega
        have q3 : (0 : Int) ≤ ((i + 1 + (bt s i).toNat : Nat) : Int) := by omega
        have q4 : ((i + 1 + (bt s i).toNat : Nat) : Int) ≤ (s.length : Int) := by omega
        have hp : pieceR s i = ((s.take (i + 1 + (bt s i).toNat)).drop (i + 1), ((i + 1 + (bt s i).toNat : Nat) : Int)) := by rw [pieceR, if_pos (by omega), Int.toNat_natCast, ptext, if_pos ⟨h1, h2⟩]
        rw [hp]
        repeat (first
          | (refine Wp.seqItems (its := ?_) (t' := ?_) (h' := ?_) (log := ?_) ?_ ?_; rotate_left 4; (· simp only [go_sem, reduceIte, Nat.reduceEqDiff, Nat.reduceAdd, Bool.false_eq_true, Bool.true_beq, Bool.false_beq, Bool.not_true, Bool.not_false, and_self, true_and, and_true, if_true, if_false, true_or, or_true, Nat.zero_mul, Nat.one_mul, Nat.zero_le, Nat.reduceMul, Nat.reduceLeDiff, decide_true, decide_false, Int.toNat_natCast, List.length_append, List.filter_cons, List.filter_nil, ne_eq, not_true_eq_false, not_false_eq_true, d0, d1, d2, p1, p2, hbt, byte, e1, e2, e3, e4, e5, q1, q2, q3, q4, Int.toNat_natCast]; exact rfl))
          | (refine Wp.items (its := ?_) (t' := ?_) (h' := ?_) (log := ?_) ?_ ?_; rotate_left 4; (· simp only [go_sem, reduceIte, Nat.reduceEqDiff, Nat.reduceAdd, Bool.false_eq_true, Bool.true_beq, Bool.false_beq, Bool.not_true, Bool.not_false, and_self, true_and, and_true, if_true, if_false, true_or, or_true, Nat.zero_mul, Nat.one_mul, Nat.zero_le, Nat.reduceMul, Nat.reduceLeDiff, decide_true, decide_false, Int.toNat_natCast, List.length_append, List.filter_cons, List.filter_nil, ne_eq, not_true_eq_false, not_false_eq_true, d0, d1, d2, p1, p2, hbt, byte, e1, e2, e3, e4, e5, q1, q2, q3, q4, Int.toNat_natCast]; exact rfl))
          | (refine WpItems.nil ⟨?_, ?_⟩; (· first | trivial | simp [pairsQ, pairsOk, apart, ent0]))
          | (refine Wp.cond_true ?_ ?_; (· simp only [go_sem, reduceIte, Nat.reduceEqDiff, Nat.reduceAdd, Bool.false_eq_true, Bool.true_beq, Bool.false_beq, Bool.not_true, Bool.not_false, and_self, true_and, and_true, if_true, if_false, true_or, or_true, Nat.zero_mul, Nat.one_mul, Nat.zero_le, Nat.reduceMul, Nat.reduceLeDiff, decide_true, decide_false, Int.toNat_natCast, List.length_append, List.filter_cons, List.filter_nil, ne_eq, not_true_eq_false, not_false_eq_true, d0, d1, d2, p1, p2, hbt, byte, e1, e2, e3, e4, e5, q1, q2, q3, q4, Int.toNat_natCast]))
          | (refine Wp.cond_false ?_ ?_; (· simp only [go_sem, reduceIte, Nat.reduceEqDiff, Nat.reduceAdd, Bool.false_eq_true, Bool.true_beq, Bool.false_beq, Bool.not_true, Bool.not_false, and_self, true_and, and_true, if_true, if_false, true_or, or_true, Nat.zero_mul, Nat.one_mul, Nat.zero_le, Nat.reduceMul, Nat.reduceLeDiff, decide_true, decide_false, Int.toNat_natCast, List.length_append, List.filter_cons, List.filter_nil, ne_eq, not_true_eq_false, not_false_eq_true, d0, d1, d2, p1, p2, hbt, byte, e1, e2, e3, e4, e5, q1, q2, q3, q4, Int.toNat_natCast]))
          | refine Wp.skip ?_
          | refine Wp.label ?_
          | refine Wp.block ?_
          | refine Wp.exit ?_
          | refine Wp.seq ?_)
        refine Wp.ret ⟨trivial, _, rfl, ?_⟩
        simp only [go_sem, reduceIte, Nat.reduceEqDiff, Nat.reduceAdd, Bool.false_eq_true, Bool.true_beq, Bool.false_beq, Bool.not_true, Bool.not_false, Int.toNat_natCast]
        exact VSub.refl _
      · have d2 : decide (((s.length - i - 1 : Nat) : Int) < (((bt s i).toNat : Nat) : Int)) = true := decide_eq_true (by omega)
        have hp : pieceR s i = ([], -1) := by rw [pieceR, if_pos (by omega), Int.toNat_natCast, ptext, if_neg (by omega)]
        rw [hp]
        repeat (first
          | (refine Wp.seqItems (its := ?_) (t' := ?_) (h' := ?_) (log := ?_) ?_ ?_; rotate_left 4; (· simp only [go_sem, reduceIte, Nat.reduceEqDiff, Nat.reduceAdd, Bool.false_eq_true, Bool.true_beq, Bool.false_beq, Bool.not_true, Bool.not_false, and_self, true_and, and_true, if_true, if_false, true_or, or_true, Nat.zero_mul, Nat.one_mul, Nat.zero_le, Nat.reduceMul, Nat.reduceLeDiff, decide_true, decide_false, Int.toNat_natCast, List.length_append, List.filter_cons, List.filter_nil, ne_eq, not_true_eq_false, not_false_eq_true, d0, d1, d2, p1, p2, hbt, byte, e1, e2, e3, e4, e5, Int.toNat_natCast]; exact rfl))
          | (refine Wp.items (its := ?_) (t' := ?_) (h' := ?_) (log := ?_) ?_ ?_; rotate_left 4; (· simp only [go_sem, reduceIte, Nat.reduceEqDiff, Nat.reduceAdd, Bool.false_eq_true, Bool.true_beq, Bool.false_beq, Bool.not_true, Bool.not_false, and_self, true_and, and_true, if_true, if_false, true_or, or_true, Nat.zero_mul, Nat.one_mul, Nat.zero_le, Nat.reduceMul, Nat.reduceLeDiff, decide_true, decide_false, Int.toNat_natCast, List.length_append, List.filter_cons, List.filter_nil, ne_eq, not_true_eq_false, not_false_eq_true, d0, d1, d2, p1, p2, hbt, byte, e1, e2, e3, e4, e5, Int.toNat_natCast]; exact rfl))
          | (refine WpItems.nil ⟨?_, ?_⟩; (· first | trivial | simp [pairsQ, pairsOk, apart, ent0]))
          | (refine Wp.cond_true ?_ ?_; (· simp only [go_sem, reduceIte, Nat.reduceEqDiff, Nat.reduceAdd, Bool.false_eq_true, Bool.true_beq, Bool.false_beq, Bool.not_true, Bool.not_false, and_self, true_and, and_true, if_true, if_false, true_or, or_true, Nat.zero_mul, Nat.one_mul, Nat.zero_le, Nat.reduceMul, Nat.reduceLeDiff, decide_true, decide_false, Int.toNat_natCast, List.length_append, List.filter_cons, List.filter_nil, ne_eq, not_true_eq_false, not_false_eq_true, d0, d1, d2, p1, p2, hbt, byte, e1, e2, e3, e4, e5, Int.toNat_natCast]))
          | (refine Wp.cond_false ?_ ?_; (· simp only [go_sem, reduceIte, Nat.reduceEqDiff, Nat.reduceAdd, Bool.false_eq_true, Bool.true_beq, Bool.false_beq, Bool.not_true, Bool.not_false, and_self, true_and, and_true, if_true, if_false, true_or, or_true, Nat.zero_mul, Nat.one_mul, Nat.zero_le, Nat.reduceMul, Nat.reduceLeDiff, decide_true, decide_false, Int.toNat_natCast, List.length_append, List.filter_cons, List.filter_nil, ne_eq, not_true_eq_false, not_false_eq_true, d0, d1, d2, p1, p2, hbt, byte, e1, e2, e3, e4, e5, Int.toNat_natCast]))
          | refine Wp.skip ?_
          | refine Wp.label ?_
          | refine Wp.block ?_
          | refine Wp.exit ?_
          | refine Wp.seq ?_)
        refine Wp.ret ⟨trivial, _, rfl, ?_⟩
        simp only [go_sem, reduceIte, Nat.reduceEqDiff, Nat.reduceAdd, Bool.false_eq_true, Bool.true_beq, Bool.false_beq, Bool.not_true, Bool.not_false]
        exact VSub.refl _
    · have d1 : decide ((s.length : Int) ≤ (i : Int)) = true := decide_eq_true (by omega)
      have hp : pieceR s i = ([], -1) := by rw [pieceR, if_pos (by omega), Int.toNat_natCast, ptext, if_neg (by omega)]
      rw [hp]
      repeat (first
        | (refine Wp.seqItems (its := ?_) (t' := ?_) (h' := ?_) (log := ?_) ?_ ?_; rotate_left 4; (· simp only [go_sem, reduceIte, Nat.reduceEqDiff, Nat.reduceAdd, Bool.false_eq_true, Bool.true_beq, Bool.false_beq, Bool.not_true, Bool.not_false, and_self, true_and, and_true, if_true, if_false, true_or, or_true, Nat.zero_mul, Nat.one_mul, Nat.zero_le, Nat.reduceMul, Nat.reduceLeDiff, decide_true, decide_false, Int.toNat_natCast, List.length_append, List.filter_cons, List.filter_nil, ne_eq, not_true_eq_false, not_false_eq_true, d0, d1]; exact rfl))
        | (refine Wp.items (its := ?_) (t' := ?_) (h' := ?_) (log := ?_) ?_ ?_; rotate_left 4; (· simp only [go_sem, reduceIte, Nat.reduceEqDiff, Nat.reduceAdd, Bool.false_eq_true, Bool.true_beq, Bool.false_beq, Bool.not_true, Bool.not_false, and_self, true_and, and_true, if_true, if_false, true_or, or_true, Nat.zero_mul, Nat.one_mul, Nat.zero_le, Nat.reduceMul, Nat.reduceLeDiff, decide_true, decide_false, Int.toNat_natCast, List.length_append, List.filter_cons, List.filter_nil, ne_eq, not_true_eq_false, not_false_eq_true, d0, d1]; exact rfl))
        | (refine WpItems.nil ⟨?_, ?_⟩; (· first | trivial | simp [pairsQ, pairsOk, apart, ent0]))
        | (refine Wp.cond_true ?_ ?_; (· simp only [go_sem, reduceIte, Nat.reduceEqDiff, Nat.reduceAdd, Bool.false_eq_true, Bool.true_beq, Bool.false_beq, Bool.not_true, Bool.not_false, and_self, true_and, and_true, if_true, if_false, true_or, or_true, Nat.zero_mul, Nat.one_mul, Nat.zero_le, Nat.reduceMul, Nat.reduceLeDiff, decide_true, decide_false, Int.toNat_natCast, List.length_append, List.filter_cons, List.filter_nil, ne_eq, not_true_eq_false, not_false_eq_true, d0, d1]))
        | (refine Wp.cond_false ?_ ?_; (· simp only [go_sem, reduceIte, Nat.reduceEqDiff, Nat.reduceAdd, Bool.false_eq_true, Bool.true_beq, Bool.false_beq, Bool.not_true, Bool.not_false, and_self, true_and, and_true, if_true, if_false, true_or, or_true, Nat.zero_mul, Nat.one_mul, Nat.zero_le, Nat.reduceMul, Nat.reduceLeDiff, decide_true, decide_false, Int.toNat_natCast, List.length_append, List.filter_cons, List.filter_nil, ne_eq, not_true_eq_false, not_false_eq_true, d0, d1]))
        | refine Wp.skip ?_
        | refine Wp.label ?_
        | refine Wp.block ?_
        | refine Wp.exit ?_
        | refine Wp.seq ?_)
      refine Wp.ret ⟨trivial, _, rfl, ?_⟩
      simp only [go_sem, reduceIte, Nat.reduceEqDiff, Nat.reduceAdd, Bool.false_eq_true, Bool.true_beq, Bool.false_beq, Bool.not_true, Bool.not_false]
      exact VSub.refl _
  · have d0 : decide (i < 0) = true := decide_eq_true (by omega)
    have hp : pieceR s i = ([], -1) := by rw [pieceR, if_neg h0]
    rw [hp]
    repeat (first
      | (refine Wp.seqItems (its := ?_) (t' := ?_) (h' := ?_) (log := ?_) ?_ ?_; rotate_left 4; (· simp only [go_sem, reduceIte, Nat.reduceEqDiff, Nat.reduceAdd, Bool.false_eq_true, Bool.true_beq, Bool.false_beq, Bool.not_true, Bool.not_false, and_self, true_and, and_true, if_true, if_false, true_or, or_true, Nat.zero_mul, Nat.one_mul, Nat.zero_le, Nat.reduceMul, Nat.reduceLeDiff, decide_true, decide_false, Int.toNat_natCast, List.length_append, List.filter_cons, List.filter_nil, ne_eq, not_true_eq_false, not_false_eq_true, d0]; exact rfl))
      | (refine Wp.items (its := ?_) (t' := ?_) (h' := ?_) (log := ?_) ?_ ?_; rotate_left 4; (· simp only [go_sem, reduceIte, Nat.reduceEqDiff, Nat.reduceAdd, Bool.false_eq_true, Bool.true_beq, Bool.false_beq, Bool.not_true, Bool.not_false, and_self, true_and, and_true, if_true, if_false, true_or, or_true, Nat.zero_mul, Nat.one_mul, Nat.zero_le, Nat.reduceMul, Nat.reduceLeDiff, decide_true, decide_false, Int.toNat_natCast, List.length_append, List.filter_cons, List.filter_nil, ne_eq, not_true_eq_false, not_false_eq_true, d0]; exact rfl))
      | (refine WpItems.nil ⟨?_, ?_⟩; (· first | trivial | simp [pairsQ, pairsOk, apart, ent0]))
      | (refine Wp.cond_true ?_ ?_; (· simp only [go_sem, reduceIte, Nat.reduceEqDiff, Nat.reduceAdd, Bool.false_eq_true, Bool.true_beq, Bool.false_beq, Bool.not_true, Bool.not_false, and_self, true_and, and_true, if_true, if_false, true_or, or_true, Nat.zero_mul, Nat.one_mul, Nat.zero_le, Nat.reduceMul, Nat.reduceLeDiff, decide_true, decide_false, Int.toNat_natCast, List.length_append, List.filter_cons, List.filter_nil, ne_eq, not_true_eq_false, not_false_eq_true, d0]))
      | (refine Wp.cond_false ?_ ?_; (· simp only [go_sem, reduceIte, Nat.reduceEqDiff, Nat.reduceAdd, Bool.false_eq_true, Bool.true_beq, Bool.false_beq, Bool.not_true, Bool.not_false, and_self, true_and, and_true, if_true, if_false, true_or, or_true, Nat.zero_mul, Nat.one_mul, Nat.zero_le, Nat.reduceMul, Nat.reduceLeDiff, decide_true, decide_false, Int.toNat_natCast, List.length_append, List.filter_cons, List.filter_nil, ne_eq, not_true_eq_false, not_false_eq_true, d0]))
      | refine Wp.skip ?_
      | refine Wp.label ?_
      | refine Wp.block ?_
      | refine Wp.exit ?_
      | refine Wp.seq ?_)
    refine Wp.ret ⟨trivial, _, rfl, ?_⟩
    simp only [go_sem, reduceIte, Nat.reduceEqDiff, Nat.reduceAdd, Bool.false_eq_true, Bool.true_beq, Bool.false_beq, Bool.not_true, Bool.not_false]
    exact VSub.refl _
end Go.Proofs.Ytlefnohibjcekaa.Batch
