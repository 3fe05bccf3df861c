/- Chapter 15: marks; the law of BatchWrites. -/
import Derived.Test.YtlefnohibjcekaaBatchK
import Derived.Test.YtlefnohibjcekaaBatchRow
set_option linter.unusedSimpArgs false
set_option linter.unusedVariables false
set_option maxRecDepth 10000
namespace Go.Proofs.Ytlefnohibjcekaa.Batch
open Go Go.Av Go.Proofs Go.Proofs.Ytlefnohibjcekaa.C

def markOk (m : Int) : Bool := decide (0 ≤ m) && decide (m ≤ 1152921504606846976)
def mOut (m : Int) : Bs := if markOk m then 77 :: be 8 m.toNat else []
def mE (m : Int) : Nat := if markOk m then 0 else 2

theorem markR_p (m : Int) : PCalls Try.prog 41 [.int .i64 m] (.tup [.str (mOut m), .int .i64 (mE m)]) := by
  refine f41.pcalls0 (by simp) rfl rfl ?_
  unfold c41
  by_cases h0 : 0 ≤ m
  · have d0 : decide (m < 0) = false := decide_eq_false (by omega)
    by_cases h1 : m ≤ 1152921504606846976
    · have d1 : decide ((1152921504606846976 : Int) < m) = false := decide_eq_false (by omega)
      have ok : markOk m = true := by simp [markOk, h0, h1]
      obtain ⟨n, rfl⟩ : ∃ n : Nat, m = n := ⟨m.toNat, by omega⟩
      have g1 : 1 + 8 < 9223372036854775808 := by omega
      have g2 : 0 + 1 + 8 < 9223372036854775808 := by omega
      repeat (first
        | (refine Wp.seqItems (its := ?_) (t' := ?_) (h' := ?_) (log := ?_) ?_ ?_; rotate_left 4; (· simp only [go_sem, reduceIte, Nat.reduceEqDiff, Nat.reduceAdd, Bool.false_eq_true, Bool.true_beq, Bool.false_beq, Bool.not_true, Bool.not_false, and_self, true_and, and_true, if_true, if_false, true_or, or_true, Nat.zero_mul, Nat.one_mul, Nat.zero_le, Nat.reduceMul, Nat.reduceLeDiff, decide_true, decide_false, Int.toNat_natCast, List.length_append, List.filter_cons, List.filter_nil, ne_eq, not_true_eq_false, not_false_eq_true, d0, d1, be_length, List.length_cons, List.length_nil, g1, g2]; exact rfl))
        | (refine Wp.items (its := ?_) (t' := ?_) (h' := ?_) (log := ?_) ?_ ?_; rotate_left 4; (· simp only [go_sem, reduceIte, Nat.reduceEqDiff, Nat.reduceAdd, Bool.false_eq_true, Bool.true_beq, Bool.false_beq, Bool.not_true, Bool.not_false, and_self, true_and, and_true, if_true, if_false, true_or, or_true, Nat.zero_mul, Nat.one_mul, Nat.zero_le, Nat.reduceMul, Nat.reduceLeDiff, decide_true, decide_false, Int.toNat_natCast, List.length_append, List.filter_cons, List.filter_nil, ne_eq, not_true_eq_false, not_false_eq_true, d0, d1, be_length, List.length_cons, List.length_nil, g1, g2]; exact rfl))
        | (refine WpItems.nil ⟨?_, ?_⟩; (· first | trivial | simp [pairsQ, pairsOk, apart, ent0]))
        | (refine WpItems.pcall ?_ ?_ (fieldR_p n (by omega) 8 (by omega)) ?_; (· simp only [go_sem, reduceIte, Nat.reduceEqDiff, Nat.reduceAdd, Bool.false_eq_true, Bool.true_beq, Bool.false_beq, Bool.not_true, Bool.not_false]); (· simp only [go_sem, reduceIte, Nat.reduceEqDiff, Nat.reduceAdd, Bool.false_eq_true, Bool.true_beq, Bool.false_beq, Bool.not_true, Bool.not_false, List.map]; first | exact VSubs.refl _ | (repeat (first | exact VSubs.nil | refine VSubs.cons (by first | exact VSub.refl _ | assumption | exact VSub.cap | exact VSub.any _) ?_))); refine WpItems.eval (its := ?_) (t' := ?_) (h' := ?_) (log' := ?_) ?_ ?_; rotate_left 4; (· simp only [go_sem, reduceIte, Nat.reduceEqDiff, Nat.reduceAdd, Bool.false_eq_true, Bool.true_beq, Bool.false_beq, Bool.not_true, Bool.not_false, and_self, true_and, and_true, if_true, if_false, true_or, or_true, Nat.zero_mul, Nat.one_mul, Nat.zero_le, Nat.reduceMul, Nat.reduceLeDiff, decide_true, decide_false, Int.toNat_natCast, List.length_append, List.filter_cons, List.filter_nil, ne_eq, not_true_eq_false, not_false_eq_true, d0, d1, be_length, List.length_cons, List.length_nil, g1, g2]; exact rfl))
        | (refine Wp.cond_true ?_ ?_; (· simp only [go_sem, reduceIte, Nat.reduceEqDiff, Nat.reduceAdd, Bool.false_eq_true, Bool.true_beq, Bool.false_beq, Bool.not_true, Bool.not_false, and_self, true_and, and_true, if_true, if_false, true_or, or_true, Nat.zero_mul, Nat.one_mul, Nat.zero_le, Nat.reduceMul, Nat.reduceLeDiff, decide_true, decide_false, Int.toNat_natCast, List.length_append, List.filter_cons, List.filter_nil, ne_eq, not_true_eq_false, not_false_eq_true, d0, d1, be_length, List.length_cons, List.length_nil, g1, g2]))
        | (refine Wp.cond_false ?_ ?_; (· simp only [go_sem, reduceIte, Nat.reduceEqDiff, Nat.reduceAdd, Bool.false_eq_true, Bool.true_beq, Bool.false_beq, Bool.not_true, Bool.not_false, and_self, true_and, and_true, if_true, if_false, true_or, or_true, Nat.zero_mul, Nat.one_mul, Nat.zero_le, Nat.reduceMul, Nat.reduceLeDiff, decide_true, decide_false, Int.toNat_natCast, List.length_append, List.filter_cons, List.filter_nil, ne_eq, not_true_eq_false, not_false_eq_true, d0, d1, be_length, List.length_cons, List.length_nil, g1, g2]))
        | refine Wp.skip ?_
        | refine Wp.label ?_
        | refine Wp.block ?_
        | refine Wp.exit ?_
        | refine Wp.seq ?_)
      refine Wp.ret ⟨trivial, _, rfl, ?_⟩
      simp only [go_sem, reduceIte, Nat.reduceEqDiff, Nat.reduceAdd, Bool.false_eq_true, Bool.true_beq, Bool.false_beq, Bool.not_true, Bool.not_false]
      exact VSub.of_eq (by simp [mOut, mE, ok])
    · have d1 : decide ((1152921504606846976 : Int) < m) = true := decide_eq_true (by omega)
      have ok : markOk m = false := by simp [markOk, h0, h1]
      repeat (first
        | (refine Wp.seqItems (its := ?_) (t' := ?_) (h' := ?_) (log := ?_) ?_ ?_; rotate_left 4; (· simp only [go_sem, reduceIte, Nat.reduceEqDiff, Nat.reduceAdd, Bool.false_eq_true, Bool.true_beq, Bool.false_beq, Bool.not_true, Bool.not_false, and_self, true_and, and_true, if_true, if_false, true_or, or_true, Nat.zero_mul, Nat.one_mul, Nat.zero_le, Nat.reduceMul, Nat.reduceLeDiff, decide_true, decide_false, Int.toNat_natCast, List.length_append, List.filter_cons, List.filter_nil, ne_eq, not_true_eq_false, not_false_eq_true, d0, d1]; exact rfl))
        | (refine Wp.items (its := ?_) (t' := ?_) (h' := ?_) (log := ?_) ?_ ?_; rotate_left 4; (· simp only [go_sem, reduceIte, Nat.reduceEqDiff, Nat.reduceAdd, Bool.false_eq_true, Bool.true_beq, Bool.false_beq, Bool.not_true, Bool.not_false, and_self, true_and, and_true, if_true, if_false, true_or, or_true, Nat.zero_mul, Nat.one_mul, Nat.zero_le, Nat.reduceMul, Nat.reduceLeDiff, decide_true, decide_false, Int.toNat_natCast, List.length_append, List.filter_cons, List.filter_nil, ne_eq, not_true_eq_false, not_false_eq_true, d0, d1]; exact rfl))
        | (refine WpItems.nil ⟨?_, ?_⟩; (· first | trivial | simp [pairsQ, pairsOk, apart, ent0]))
        | (refine Wp.cond_true ?_ ?_; (· simp only [go_sem, reduceIte, Nat.reduceEqDiff, Nat.reduceAdd, Bool.false_eq_true, Bool.true_beq, Bool.false_beq, Bool.not_true, Bool.not_false, and_self, true_and, and_true, if_true, if_false, true_or, or_true, Nat.zero_mul, Nat.one_mul, Nat.zero_le, Nat.reduceMul, Nat.reduceLeDiff, decide_true, decide_false, Int.toNat_natCast, List.length_append, List.filter_cons, List.filter_nil, ne_eq, not_true_eq_false, not_false_eq_true, d0, d1]))
        | (refine Wp.cond_false ?_ ?_; (· simp only [go_sem, reduceIte, Nat.reduceEqDiff, Nat.reduceAdd, Bool.false_eq_true, Bool.true_beq, Bool.false_beq, Bool.not_true, Bool.not_false, and_self, true_and, and_true, if_true, if_false, true_or, or_true, Nat.zero_mul, Nat.one_mul, Nat.zero_le, Nat.reduceMul, Nat.reduceLeDiff, decide_true, decide_false, Int.toNat_natCast, List.length_append, List.filter_cons, List.filter_nil, ne_eq, not_true_eq_false, not_false_eq_true, d0, d1]))
        | refine Wp.skip ?_
        | refine Wp.label ?_
        | refine Wp.block ?_
        | refine Wp.exit ?_
        | refine Wp.seq ?_)
      refine Wp.ret ⟨trivial, _, rfl, ?_⟩
      simp only [go_sem, reduceIte, Nat.reduceEqDiff, Nat.reduceAdd, Bool.false_eq_true, Bool.true_beq, Bool.false_beq, Bool.not_true, Bool.not_false]
      exact VSub.of_eq (by simp [mOut, mE, ok])
  · have d0 : decide (m < 0) = true := decide_eq_true (by omega)
    have ok : markOk m = false := by simp [markOk, h0]
    repeat (first
      | (refine Wp.seqItems (its := ?_) (t' := ?_) (h' := ?_) (log := ?_) ?_ ?_; rotate_left 4; (· simp only [go_sem, reduceIte, Nat.reduceEqDiff, Nat.reduceAdd, Bool.false_eq_true, Bool.true_beq, Bool.false_beq, Bool.not_true, Bool.not_false, and_self, true_and, and_true, if_true, if_false, true_or, or_true, Nat.zero_mul, Nat.one_mul, Nat.zero_le, Nat.reduceMul, Nat.reduceLeDiff, decide_true, decide_false, Int.toNat_natCast, List.length_append, List.filter_cons, List.filter_nil, ne_eq, not_true_eq_false, not_false_eq_true, d0]; exact rfl))
      | (refine Wp.items (its := ?_) (t' := ?_) (h' := ?_) (log := ?_) ?_ ?_; rotate_left 4; (· simp only [go_sem, reduceIte, Nat.reduceEqDiff, Nat.reduceAdd, Bool.false_eq_true, Bool.true_beq, Bool.false_beq, Bool.not_true, Bool.not_false, and_self, true_and, and_true, if_true, if_false, true_or, or_true, Nat.zero_mul, Nat.one_mul, Nat.zero_le, Nat.reduceMul, Nat.reduceLeDiff, decide_true, decide_false, Int.toNat_natCast, List.length_append, List.filter_cons, List.filter_nil, ne_eq, not_true_eq_false, not_false_eq_true, d0]; exact rfl))
      | (refine WpItems.nil ⟨?_, ?_⟩; (· first | trivial | simp [pairsQ, pairsOk, apart, ent0]))
      | (refine Wp.cond_true ?_ ?_; (· simp only [go_sem, reduceIte, Nat.reduceEqDiff, Nat.reduceAdd, Bool.false_eq_true, Bool.true_beq, Bool.false_beq, Bool.not_true, Bool.not_false, and_self, true_and, and_true, if_true, if_false, true_or, or_true, Nat.zero_mul, Nat.one_mul, Nat.zero_le, Nat.reduceMul, Nat.reduceLeDiff, decide_true, decide_false, Int.toNat_natCast, List.length_append, List.filter_cons, List.filter_nil, ne_eq, not_true_eq_false, not_false_eq_true, d0]))
      | (refine Wp.cond_false ?_ ?_; (· simp only [go_sem, reduceIte, Nat.reduceEqDiff, Nat.reduceAdd, Bool.false_eq_true, Bool.true_beq, Bool.false_beq, Bool.not_true, Bool.not_false, and_self, true_and, and_true, if_true, if_false, true_or, or_true, Nat.zero_mul, Nat.one_mul, Nat.zero_le, Nat.reduceMul, Nat.reduceLeDiff, decide_true, decide_false, Int.toNat_natCast, List.length_append, List.filter_cons, List.filter_nil, ne_eq, not_true_eq_false, not_false_eq_true, d0]))
      | refine Wp.skip ?_
      | refine Wp.label ?_
      | refine Wp.block ?_
      | refine Wp.exit ?_
      | refine Wp.seq ?_)
    refine Wp.ret ⟨trivial, _, rfl, ?_⟩
    simp only [go_sem, reduceIte, Nat.reduceEqDiff, Nat.reduceAdd, Bool.false_eq_true, Bool.true_beq, Bool.false_beq, Bool.not_true, Bool.not_false]
    exact VSub.of_eq (by simp [mOut, mE, ok])

theorem mark_p (m : Int) : PCalls Try.prog 40 [.int .i64 m] (.tup [.str (mOut m), .int .i64 (mE m)]) := by
  refine f40.pcalls0 (by simp) rfl rfl ?_
  unfold c40
  by_cases h0 : 0 ≤ m
  · have d0 : decide (m < 0) = false := decide_eq_false (by omega)
    by_cases h1 : m ≤ 1152921504606846976
    · have d1 : decide ((1152921504606846976 : Int) < m) = false := decide_eq_false (by omega)
      have ok : markOk m = true := by simp [markOk, h0, h1]
      obtain ⟨n, rfl⟩ : ∃ n : Nat, m = n := ⟨m.toNat, by omega⟩
      refine Wp.le (StLe.tok _ _) ?_
      repeat (first
        | (refine Wp.seqItems (its := ?_) (t' := ?_) (h' := ?_) (log := ?_) ?_ ?_; rotate_left 4; (· simp only [go_sem, reduceIte, Nat.reduceEqDiff, Nat.reduceAdd, Bool.false_eq_true, Bool.true_beq, Bool.false_beq, Bool.not_true, Bool.not_false, and_self, true_and, and_true, if_true, if_false, true_or, or_true, Nat.zero_mul, Nat.one_mul, Nat.zero_le, Nat.reduceMul, Nat.reduceLeDiff, decide_true, decide_false, Int.toNat_natCast, List.length_append, List.filter_cons, List.filter_nil, ne_eq, not_true_eq_false, not_false_eq_true, d0, d1]; exact rfl))
        | (refine Wp.items (its := ?_) (t' := ?_) (h' := ?_) (log := ?_) ?_ ?_; rotate_left 4; (· simp only [go_sem, reduceIte, Nat.reduceEqDiff, Nat.reduceAdd, Bool.false_eq_true, Bool.true_beq, Bool.false_beq, Bool.not_true, Bool.not_false, and_self, true_and, and_true, if_true, if_false, true_or, or_true, Nat.zero_mul, Nat.one_mul, Nat.zero_le, Nat.reduceMul, Nat.reduceLeDiff, decide_true, decide_false, Int.toNat_natCast, List.length_append, List.filter_cons, List.filter_nil, ne_eq, not_true_eq_false, not_false_eq_true, d0, d1]; exact rfl))
        | (refine WpItems.nil ⟨?_, ?_⟩; (· first | trivial | simp [pairsQ, pairsOk, apart, ent0]))
        | (refine Wp.cond_true ?_ ?_; (· simp only [go_sem, reduceIte, Nat.reduceEqDiff, Nat.reduceAdd, Bool.false_eq_true, Bool.true_beq, Bool.false_beq, Bool.not_true, Bool.not_false, and_self, true_and, and_true, if_true, if_false, true_or, or_true, Nat.zero_mul, Nat.one_mul, Nat.zero_le, Nat.reduceMul, Nat.reduceLeDiff, decide_true, decide_false, Int.toNat_natCast, List.length_append, List.filter_cons, List.filter_nil, ne_eq, not_true_eq_false, not_false_eq_true, d0, d1]))
        | (refine Wp.cond_false ?_ ?_; (· simp only [go_sem, reduceIte, Nat.reduceEqDiff, Nat.reduceAdd, Bool.false_eq_true, Bool.true_beq, Bool.false_beq, Bool.not_true, Bool.not_false, and_self, true_and, and_true, if_true, if_false, true_or, or_true, Nat.zero_mul, Nat.one_mul, Nat.zero_le, Nat.reduceMul, Nat.reduceLeDiff, decide_true, decide_false, Int.toNat_natCast, List.length_append, List.filter_cons, List.filter_nil, ne_eq, not_true_eq_false, not_false_eq_true, d0, d1]))
        | refine Wp.skip ?_
        | refine Wp.label ?_
        | refine Wp.block ?_
        | refine Wp.exit ?_
        | refine Wp.seq ?_)
      refine WpItems.tcall 0 (by simp only [go_sem]) (by simp only [go_sem, reduceIte, Nat.reduceEqDiff, List.map]; exact VSubs.cons (VSub.own_of rfl) (VSubs.refl _)) (by simp only [go_sem]) (put64_p n (by omega) [77] (by simp)) fun t1 m1 _ => ?_
      have e1 : mOut (n : Int) = [77] ++ be 8 n := by rw [mOut, if_pos ok]; rfl
      rw [e1]
      generalize ([77] ++ be 8 n : Bs) = X
      have ub : unBytes (bytesAV X) = some X := unBytes_bytes _
      refine WpItems.eval (by simp only [go_sem, reduceIte, Nat.reduceEqDiff, Nat.reduceAdd, Bool.false_eq_true, Bool.true_beq, Bool.false_beq, Bool.not_true, Bool.not_false, ub, true_or, if_true, Option.map_some]; exact rfl) ?_
      refine WpItems.nil ⟨by simp [pairsQ, pairsOk, apart, ent0], ?_⟩
      have e2 : mE (n : Int) = 0 := by rw [mE, if_pos ok]
      rw [e2]
      refine Wp.ret ⟨trivial, _, rfl, ?_⟩
      simp only [go_sem, reduceIte, Nat.reduceEqDiff, Nat.reduceAdd, Bool.false_eq_true, Bool.true_beq, Bool.false_beq, Bool.not_true, Bool.not_false]
      exact VSub.refl _
    · have d1 : decide ((1152921504606846976 : Int) < m) = true := decide_eq_true (by omega)
      have ok : markOk m = false := by simp [markOk, h0, h1]
      repeat (first
        | (refine Wp.seqItems (its := ?_) (t' := ?_) (h' := ?_) (log := ?_) ?_ ?_; rotate_left 4; (· simp only [go_sem, reduceIte, Nat.reduceEqDiff, Nat.reduceAdd, Bool.false_eq_true, Bool.true_beq, Bool.false_beq, Bool.not_true, Bool.not_false, and_self, true_and, and_true, if_true, if_false, true_or, or_true, Nat.zero_mul, Nat.one_mul, Nat.zero_le, Nat.reduceMul, Nat.reduceLeDiff, decide_true, decide_false, Int.toNat_natCast, List.length_append, List.filter_cons, List.filter_nil, ne_eq, not_true_eq_false, not_false_eq_true, d0, d1]; exact rfl))
        | (refine Wp.items (its := ?_) (t' := ?_) (h' := ?_) (log := ?_) ?_ ?_; rotate_left 4; (· simp only [go_sem, reduceIte, Nat.reduceEqDiff, Nat.reduceAdd, Bool.false_eq_true, Bool.true_beq, Bool.false_beq, Bool.not_true, Bool.not_false, and_self, true_and, and_true, if_true, if_false, true_or, or_true, Nat.zero_mul, Nat.one_mul, Nat.zero_le, Nat.reduceMul, Nat.reduceLeDiff, decide_true, decide_false, Int.toNat_natCast, List.length_append, List.filter_cons, List.filter_nil, ne_eq, not_true_eq_false, not_false_eq_true, d0, d1]; exact rfl))
        | (refine WpItems.nil ⟨?_, ?_⟩; (· first | trivial | simp [pairsQ, pairsOk, apart, ent0]))
        | (refine Wp.cond_true ?_ ?_; (· simp only [go_sem, reduceIte, Nat.reduceEqDiff, Nat.reduceAdd, Bool.false_eq_true, Bool.true_beq, Bool.false_beq, Bool.not_true, Bool.not_false, and_self, true_and, and_true, if_true, if_false, true_or, or_true, Nat.zero_mul, Nat.one_mul, Nat.zero_le, Nat.reduceMul, Nat.reduceLeDiff, decide_true, decide_false, Int.toNat_natCast, List.length_append, List.filter_cons, List.filter_nil, ne_eq, not_true_eq_false, not_false_eq_true, d0, d1]))
        | (refine Wp.cond_false ?_ ?_; (· simp only [go_sem, reduceIte, Nat.reduceEqDiff, Nat.reduceAdd, Bool.false_eq_true, Bool.true_beq, Bool.false_beq, Bool.not_true, Bool.not_false, and_self, true_and, and_true, if_true, if_false, true_or, or_true, Nat.zero_mul, Nat.one_mul, Nat.zero_le, Nat.reduceMul, Nat.reduceLeDiff, decide_true, decide_false, Int.toNat_natCast, List.length_append, List.filter_cons, List.filter_nil, ne_eq, not_true_eq_false, not_false_eq_true, d0, d1]))
        | refine Wp.skip ?_
        | refine Wp.label ?_
        | refine Wp.block ?_
        | refine Wp.exit ?_
        | refine Wp.seq ?_)
      refine Wp.ret ⟨trivial, _, rfl, ?_⟩
      simp only [go_sem, reduceIte, Nat.reduceEqDiff, Nat.reduceAdd, Bool.false_eq_true, Bool.true_beq, Bool.false_beq, Bool.not_true, Bool.not_false]
      exact VSub.of_eq (by simp [mOut, mE, ok])
  · have d0 : decide (m < 0) = true := decide_eq_true (by omega)
    have ok : markOk m = false := by simp [markOk, h0]
    repeat (first
      | (refine Wp.seqItems (its := ?_) (t' := ?_) (h' := ?_) (log := ?_) ?_ ?_; rotate_left 4; (· simp only [go_sem, reduceIte, Nat.reduceEqDiff, Nat.reduceAdd, Bool.false_eq_true, Bool.true_beq, Bool.false_beq, Bool.not_true, Bool.not_false, and_self, true_and, and_true, if_true, if_false, true_or, or_true, Nat.zero_mul, Nat.one_mul, Nat.zero_le, Nat.reduceMul, Nat.reduceLeDiff, decide_true, decide_false, Int.toNat_natCast, List.length_append, List.filter_cons, List.filter_nil, ne_eq, not_true_eq_false, not_false_eq_true, d0]; exact rfl))
      | (refine Wp.items (its := ?_) (t' := ?_) (h' := ?_) (log := ?_) ?_ ?_; rotate_left 4; (· simp only [go_sem, reduceIte, Nat.reduceEqDiff, Nat.reduceAdd, Bool.false_eq_true, Bool.true_beq, Bool.false_beq, Bool.not_true, Bool.not_false, and_self, true_and, and_true, if_true, if_false, true_or, or_true, Nat.zero_mul, Nat.one_mul, Nat.zero_le, Nat.reduceMul, Nat.reduceLeDiff, decide_true, decide_false, Int.toNat_natCast, List.length_append, List.filter_cons, List.filter_nil, ne_eq, not_true_eq_false, not_false_eq_true, d0]; exact rfl))
      | (refine WpItems.nil ⟨?_, ?_⟩; (· first | trivial | simp [pairsQ, pairsOk, apart, ent0]))
      | (refine Wp.cond_true ?_ ?_; (· simp only [go_sem, reduceIte, Nat.reduceEqDiff, Nat.reduceAdd, Bool.false_eq_true, Bool.true_beq, Bool.false_beq, Bool.not_true, Bool.not_false, and_self, true_and, and_true, if_true, if_false, true_or, or_true, Nat.zero_mul, Nat.one_mul, Nat.zero_le, Nat.reduceMul, Nat.reduceLeDiff, decide_true, decide_false, Int.toNat_natCast, List.length_append, List.filter_cons, List.filter_nil, ne_eq, not_true_eq_false, not_false_eq_true, d0]))
      | (refine Wp.cond_false ?_ ?_; (· simp only [go_sem, reduceIte, Nat.reduceEqDiff, Nat.reduceAdd, Bool.false_eq_true, Bool.true_beq, Bool.false_beq, Bool.not_true, Bool.not_false, and_self, true_and, and_true, if_true, if_false, true_or, or_true, Nat.zero_mul, Nat.one_mul, Nat.zero_le, Nat.reduceMul, Nat.reduceLeDiff, decide_true, decide_false, Int.toNat_natCast, List.length_append, List.filter_cons, List.filter_nil, ne_eq, not_true_eq_false, not_false_eq_true, d0]))
      | refine Wp.skip ?_
      | refine Wp.label ?_
      | refine Wp.block ?_
      | refine Wp.exit ?_
      | refine Wp.seq ?_)
    refine Wp.ret ⟨trivial, _, rfl, ?_⟩
    simp only [go_sem, reduceIte, Nat.reduceEqDiff, Nat.reduceAdd, Bool.false_eq_true, Bool.true_beq, Bool.false_beq, Bool.not_true, Bool.not_false]
    exact VSub.of_eq (by simp [mOut, mE, ok])

theorem writes_p (t : Int) (l : List Ch) (m : Int) : PCalls Try.prog 9 [encBatch t l, .int .i64 m] (.bool true) := by
  refine f9.pcalls0 (by simp) (by simp [allPure, encBatch_pure, isPure]) rfl ?_
  unfold c9
  by_cases h : l.length ≤ 300
  · have d1 : decide ((300 : Int) < (l.length : Int)) = false := decide_eq_false (by omega)
    have hb := bytes_p t l (by omega)
    have hbr := bytesR_p t l
    have hc := check_p t l (by omega)
    have hcr := checkR_p t l
    have hm := mark_p m
    have hmr := markR_p m
    generalize bOut t l = A at *
    generalize bCheck t l = B at *
    generalize mOut m = C at *
    generalize mE m = D at *
    have s1 : decide (A = A) = true := decide_eq_true rfl
    have s2 : decide ((B : Int) = (B : Int)) = true := decide_eq_true rfl
    have s3 : decide (C = C) = true := decide_eq_true rfl
    have s4 : decide ((D : Int) = (D : Int)) = true := decide_eq_true rfl
    repeat (first
      | (refine Wp.seqItems (its := ?_) (t' := ?_) (h' := ?_) (log := ?_) ?_ ?_; rotate_left 4; (· simp only [go_sem, reduceIte, Nat.reduceEqDiff, Nat.reduceAdd, Bool.false_eq_true, Bool.true_beq, Bool.false_beq, Bool.not_true, Bool.not_false, and_self, true_and, and_true, if_true, if_false, true_or, or_true, Nat.zero_mul, Nat.one_mul, Nat.zero_le, Nat.reduceMul, Nat.reduceLeDiff, decide_true, decide_false, Int.toNat_natCast, List.length_append, List.filter_cons, List.filter_nil, ne_eq, not_true_eq_false, not_false_eq_true, encBatch, chs_length, d1, s1, s2, s3, s4, decide_true]; exact rfl))
      | (refine Wp.items (its := ?_) (t' := ?_) (h' := ?_) (log := ?_) ?_ ?_; rotate_left 4; (· simp only [go_sem, reduceIte, Nat.reduceEqDiff, Nat.reduceAdd, Bool.false_eq_true, Bool.true_beq, Bool.false_beq, Bool.not_true, Bool.not_false, and_self, true_and, and_true, if_true, if_false, true_or, or_true, Nat.zero_mul, Nat.one_mul, Nat.zero_le, Nat.reduceMul, Nat.reduceLeDiff, decide_true, decide_false, Int.toNat_natCast, List.length_append, List.filter_cons, List.filter_nil, ne_eq, not_true_eq_false, not_false_eq_true, encBatch, chs_length, d1, s1, s2, s3, s4, decide_true]; exact rfl))
      | (refine WpItems.nil ⟨?_, ?_⟩; (· first | trivial | simp [pairsQ, pairsOk, apart, ent0]))
      | (refine WpItems.pcall ?_ ?_ (hb) ?_; (· simp only [go_sem, reduceIte, Nat.reduceEqDiff, Nat.reduceAdd, Bool.false_eq_true, Bool.true_beq, Bool.false_beq, Bool.not_true, Bool.not_false]); (· simp only [go_sem, reduceIte, Nat.reduceEqDiff, Nat.reduceAdd, Bool.false_eq_true, Bool.true_beq, Bool.false_beq, Bool.not_true, Bool.not_false, List.map]; first | exact VSubs.refl _ | (repeat (first | exact VSubs.nil | refine VSubs.cons (by first | exact VSub.refl _ | assumption | exact VSub.cap | exact VSub.any _) ?_))); refine WpItems.eval (its := ?_) (t' := ?_) (h' := ?_) (log' := ?_) ?_ ?_; rotate_left 4; (· simp only [go_sem, reduceIte, Nat.reduceEqDiff, Nat.reduceAdd, Bool.false_eq_true, Bool.true_beq, Bool.false_beq, Bool.not_true, Bool.not_false, and_self, true_and, and_true, if_true, if_false, true_or, or_true, Nat.zero_mul, Nat.one_mul, Nat.zero_le, Nat.reduceMul, Nat.reduceLeDiff, decide_true, decide_false, Int.toNat_natCast, List.length_append, List.filter_cons, List.filter_nil, ne_eq, not_true_eq_false, not_false_eq_true, encBatch, chs_length, d1, s1, s2, s3, s4, decide_true]; exact rfl))
      | (refine WpItems.pcall ?_ ?_ (hbr) ?_; (· simp only [go_sem, reduceIte, Nat.reduceEqDiff, Nat.reduceAdd, Bool.false_eq_true, Bool.true_beq, Bool.false_beq, Bool.not_true, Bool.not_false]); (· simp only [go_sem, reduceIte, Nat.reduceEqDiff, Nat.reduceAdd, Bool.false_eq_true, Bool.true_beq, Bool.false_beq, Bool.not_true, Bool.not_false, List.map]; first | exact VSubs.refl _ | (repeat (first | exact VSubs.nil | refine VSubs.cons (by first | exact VSub.refl _ | assumption | exact VSub.cap | exact VSub.any _) ?_))); refine WpItems.eval (its := ?_) (t' := ?_) (h' := ?_) (log' := ?_) ?_ ?_; rotate_left 4; (· simp only [go_sem, reduceIte, Nat.reduceEqDiff, Nat.reduceAdd, Bool.false_eq_true, Bool.true_beq, Bool.false_beq, Bool.not_true, Bool.not_false, and_self, true_and, and_true, if_true, if_false, true_or, or_true, Nat.zero_mul, Nat.one_mul, Nat.zero_le, Nat.reduceMul, Nat.reduceLeDiff, decide_true, decide_false, Int.toNat_natCast, List.length_append, List.filter_cons, List.filter_nil, ne_eq, not_true_eq_false, not_false_eq_true, encBatch, chs_length, d1, s1, s2, s3, s4, decide_true]; exact rfl))
      | (refine WpItems.pcall ?_ ?_ (hc) ?_; (· simp only [go_sem, reduceIte, Nat.reduceEqDiff, Nat.reduceAdd, Bool.false_eq_true, Bool.true_beq, Bool.false_beq, Bool.not_true, Bool.not_false]); (· simp only [go_sem, reduceIte, Nat.reduceEqDiff, Nat.reduceAdd, Bool.false_eq_true, Bool.true_beq, Bool.false_beq, Bool.not_true, Bool.not_false, List.map]; first | exact VSubs.refl _ | (repeat (first | exact VSubs.nil | refine VSubs.cons (by first | exact VSub.refl _ | assumption | exact VSub.cap | exact VSub.any _) ?_))); refine WpItems.eval (its := ?_) (t' := ?_) (h' := ?_) (log' := ?_) ?_ ?_; rotate_left 4; (· simp only [go_sem, reduceIte, Nat.reduceEqDiff, Nat.reduceAdd, Bool.false_eq_true, Bool.true_beq, Bool.false_beq, Bool.not_true, Bool.not_false, and_self, true_and, and_true, if_true, if_false, true_or, or_true, Nat.zero_mul, Nat.one_mul, Nat.zero_le, Nat.reduceMul, Nat.reduceLeDiff, decide_true, decide_false, Int.toNat_natCast, List.length_append, List.filter_cons, List.filter_nil, ne_eq, not_true_eq_false, not_false_eq_true, encBatch, chs_length, d1, s1, s2, s3, s4, decide_true]; exact rfl))
      | (refine WpItems.pcall ?_ ?_ (hcr) ?_; (· simp only [go_sem, reduceIte, Nat.reduceEqDiff, Nat.reduceAdd, Bool.false_eq_true, Bool.true_beq, Bool.false_beq, Bool.not_true, Bool.not_false]); (· simp only [go_sem, reduceIte, Nat.reduceEqDiff, Nat.reduceAdd, Bool.false_eq_true, Bool.true_beq, Bool.false_beq, Bool.not_true, Bool.not_false, List.map]; first | exact VSubs.refl _ | (repeat (first | exact VSubs.nil | refine VSubs.cons (by first | exact VSub.refl _ | assumption | exact VSub.cap | exact VSub.any _) ?_))); refine WpItems.eval (its := ?_) (t' := ?_) (h' := ?_) (log' := ?_) ?_ ?_; rotate_left 4; (· simp only [go_sem, reduceIte, Nat.reduceEqDiff, Nat.reduceAdd, Bool.false_eq_true, Bool.true_beq, Bool.false_beq, Bool.not_true, Bool.not_false, and_self, true_and, and_true, if_true, if_false, true_or, or_true, Nat.zero_mul, Nat.one_mul, Nat.zero_le, Nat.reduceMul, Nat.reduceLeDiff, decide_true, decide_false, Int.toNat_natCast, List.length_append, List.filter_cons, List.filter_nil, ne_eq, not_true_eq_false, not_false_eq_true, encBatch, chs_length, d1, s1, s2, s3, s4, decide_true]; exact rfl))
      | (refine WpItems.pcall ?_ ?_ (hm) ?_; (· simp only [go_sem, reduceIte, Nat.reduceEqDiff, Nat.reduceAdd, Bool.false_eq_true, Bool.true_beq, Bool.false_beq, Bool.not_true, Bool.not_false]); (· simp only [go_sem, reduceIte, Nat.reduceEqDiff, Nat.reduceAdd, Bool.false_eq_true, Bool.true_beq, Bool.false_beq, Bool.not_true, Bool.not_false, List.map]; first | exact VSubs.refl _ | (repeat (first | exact VSubs.nil | refine VSubs.cons (by first | exact VSub.refl _ | assumption | exact VSub.cap | exact VSub.any _) ?_))); refine WpItems.eval (its := ?_) (t' := ?_) (h' := ?_) (log' := ?_) ?_ ?_; rotate_left 4; (· simp only [go_sem, reduceIte, Nat.reduceEqDiff, Nat.reduceAdd, Bool.false_eq_true, Bool.true_beq, Bool.false_beq, Bool.not_true, Bool.not_false, and_self, true_and, and_true, if_true, if_false, true_or, or_true, Nat.zero_mul, Nat.one_mul, Nat.zero_le, Nat.reduceMul, Nat.reduceLeDiff, decide_true, decide_false, Int.toNat_natCast, List.length_append, List.filter_cons, List.filter_nil, ne_eq, not_true_eq_false, not_false_eq_true, encBatch, chs_length, d1, s1, s2, s3, s4, decide_true]; exact rfl))
      | (refine WpItems.pcall ?_ ?_ (hmr) ?_; (· simp only [go_sem, reduceIte, Nat.reduceEqDiff, Nat.reduceAdd, Bool.false_eq_true, Bool.true_beq, Bool.false_beq, Bool.not_true, Bool.not_false]); (· simp only [go_sem, reduceIte, Nat.reduceEqDiff, Nat.reduceAdd, Bool.false_eq_true, Bool.true_beq, Bool.false_beq, Bool.not_true, Bool.not_false, List.map]; first | exact VSubs.refl _ | (repeat (first | exact VSubs.nil | refine VSubs.cons (by first | exact VSub.refl _ | assumption | exact VSub.cap | exact VSub.any _) ?_))); refine WpItems.eval (its := ?_) (t' := ?_) (h' := ?_) (log' := ?_) ?_ ?_; rotate_left 4; (· simp only [go_sem, reduceIte, Nat.reduceEqDiff, Nat.reduceAdd, Bool.false_eq_true, Bool.true_beq, Bool.false_beq, Bool.not_true, Bool.not_false, and_self, true_and, and_true, if_true, if_false, true_or, or_true, Nat.zero_mul, Nat.one_mul, Nat.zero_le, Nat.reduceMul, Nat.reduceLeDiff, decide_true, decide_false, Int.toNat_natCast, List.length_append, List.filter_cons, List.filter_nil, ne_eq, not_true_eq_false, not_false_eq_true, encBatch, chs_length, d1, s1, s2, s3, s4, decide_true]; exact rfl))
      | (refine WpItems.pcall ?_ ?_ (lives_p) ?_; (· simp only [go_sem, reduceIte, Nat.reduceEqDiff, Nat.reduceAdd, Bool.false_eq_true, Bool.true_beq, Bool.false_beq, Bool.not_true, Bool.not_false]); (· simp only [go_sem, reduceIte, Nat.reduceEqDiff, Nat.reduceAdd, Bool.false_eq_true, Bool.true_beq, Bool.false_beq, Bool.not_true, Bool.not_false, List.map]; first | exact VSubs.refl _ | (repeat (first | exact VSubs.nil | refine VSubs.cons (by first | exact VSub.refl _ | assumption | exact VSub.cap | exact VSub.any _) ?_))); refine WpItems.eval (its := ?_) (t' := ?_) (h' := ?_) (log' := ?_) ?_ ?_; rotate_left 4; (· simp only [go_sem, reduceIte, Nat.reduceEqDiff, Nat.reduceAdd, Bool.false_eq_true, Bool.true_beq, Bool.false_beq, Bool.not_true, Bool.not_false, and_self, true_and, and_true, if_true, if_false, true_or, or_true, Nat.zero_mul, Nat.one_mul, Nat.zero_le, Nat.reduceMul, Nat.reduceLeDiff, decide_true, decide_false, Int.toNat_natCast, List.length_append, List.filter_cons, List.filter_nil, ne_eq, not_true_eq_false, not_false_eq_true, encBatch, chs_length, d1, s1, s2, s3, s4, decide_true]; exact rfl))
      | (refine Wp.cond_true ?_ ?_; (· simp only [go_sem, reduceIte, Nat.reduceEqDiff, Nat.reduceAdd, Bool.false_eq_true, Bool.true_beq, Bool.false_beq, Bool.not_true, Bool.not_false, and_self, true_and, and_true, if_true, if_false, true_or, or_true, Nat.zero_mul, Nat.one_mul, Nat.zero_le, Nat.reduceMul, Nat.reduceLeDiff, decide_true, decide_false, Int.toNat_natCast, List.length_append, List.filter_cons, List.filter_nil, ne_eq, not_true_eq_false, not_false_eq_true, encBatch, chs_length, d1, s1, s2, s3, s4, decide_true]))
      | (refine Wp.cond_false ?_ ?_; (· simp only [go_sem, reduceIte, Nat.reduceEqDiff, Nat.reduceAdd, Bool.false_eq_true, Bool.true_beq, Bool.false_beq, Bool.not_true, Bool.not_false, and_self, true_and, and_true, if_true, if_false, true_or, or_true, Nat.zero_mul, Nat.one_mul, Nat.zero_le, Nat.reduceMul, Nat.reduceLeDiff, decide_true, decide_false, Int.toNat_natCast, List.length_append, List.filter_cons, List.filter_nil, ne_eq, not_true_eq_false, not_false_eq_true, encBatch, chs_length, d1, s1, s2, s3, s4, decide_true]))
      | refine Wp.skip ?_
      | refine Wp.label ?_
      | refine Wp.block ?_
      | refine Wp.exit ?_
      | refine Wp.seq ?_)
    refine Wp.ret ⟨trivial, _, rfl, ?_⟩
    simp only [go_sem, reduceIte, Nat.reduceEqDiff, Nat.reduceAdd, Bool.false_eq_true, Bool.true_beq, Bool.false_beq, Bool.not_true, Bool.not_false]
    exact VSub.refl _
  · have d1 : decide ((300 : Int) < (l.length : Int)) = true := decide_eq_true (by omega)
    repeat (first
      | (refine Wp.seqItems (its := ?_) (t' := ?_) (h' := ?_) (log := ?_) ?_ ?_; rotate_left 4; (· simp only [go_sem, reduceIte, Nat.reduceEqDiff, Nat.reduceAdd, Bool.false_eq_true, Bool.true_beq, Bool.false_beq, Bool.not_true, Bool.not_false, and_self, true_and, and_true, if_true, if_false, true_or, or_true, Nat.zero_mul, Nat.one_mul, Nat.zero_le, Nat.reduceMul, Nat.reduceLeDiff, decide_true, decide_false, Int.toNat_natCast, List.length_append, List.filter_cons, List.filter_nil, ne_eq, not_true_eq_false, not_false_eq_true, encBatch, chs_length, d1]; exact rfl))
      | (refine Wp.items (its := ?_) (t' := ?_) (h' := ?_) (log := ?_) ?_ ?_; rotate_left 4; (· simp only [go_sem, reduceIte, Nat.reduceEqDiff, Nat.reduceAdd, Bool.false_eq_true, Bool.true_beq, Bool.false_beq, Bool.not_true, Bool.not_false, and_self, true_and, and_true, if_true, if_false, true_or, or_true, Nat.zero_mul, Nat.one_mul, Nat.zero_le, Nat.reduceMul, Nat.reduceLeDiff, decide_true, decide_false, Int.toNat_natCast, List.length_append, List.filter_cons, List.filter_nil, ne_eq, not_true_eq_false, not_false_eq_true, encBatch, chs_length, d1]; exact rfl))
      | (refine WpItems.nil ⟨?_, ?_⟩; (· first | trivial | simp [pairsQ, pairsOk, apart, ent0]))
      | (refine WpItems.pcall ?_ ?_ (lives_p) ?_; (· simp only [go_sem, reduceIte, Nat.reduceEqDiff, Nat.reduceAdd, Bool.false_eq_true, Bool.true_beq, Bool.false_beq, Bool.not_true, Bool.not_false]); (· simp only [go_sem, reduceIte, Nat.reduceEqDiff, Nat.reduceAdd, Bool.false_eq_true, Bool.true_beq, Bool.false_beq, Bool.not_true, Bool.not_false, List.map]; first | exact VSubs.refl _ | (repeat (first | exact VSubs.nil | refine VSubs.cons (by first | exact VSub.refl _ | assumption | exact VSub.cap | exact VSub.any _) ?_))); refine WpItems.eval (its := ?_) (t' := ?_) (h' := ?_) (log' := ?_) ?_ ?_; rotate_left 4; (· simp only [go_sem, reduceIte, Nat.reduceEqDiff, Nat.reduceAdd, Bool.false_eq_true, Bool.true_beq, Bool.false_beq, Bool.not_true, Bool.not_false, and_self, true_and, and_true, if_true, if_false, true_or, or_true, Nat.zero_mul, Nat.one_mul, Nat.zero_le, Nat.reduceMul, Nat.reduceLeDiff, decide_true, decide_false, Int.toNat_natCast, List.length_append, List.filter_cons, List.filter_nil, ne_eq, not_true_eq_false, not_false_eq_true, encBatch, chs_length, d1]; exact rfl))
      | (refine Wp.cond_true ?_ ?_; (· simp only [go_sem, reduceIte, Nat.reduceEqDiff, Nat.reduceAdd, Bool.false_eq_true, Bool.true_beq, Bool.false_beq, Bool.not_true, Bool.not_false, and_self, true_and, and_true, if_true, if_false, true_or, or_true, Nat.zero_mul, Nat.one_mul, Nat.zero_le, Nat.reduceMul, Nat.reduceLeDiff, decide_true, decide_false, Int.toNat_natCast, List.length_append, List.filter_cons, List.filter_nil, ne_eq, not_true_eq_false, not_false_eq_true, encBatch, chs_length, d1]))
      | (refine Wp.cond_false ?_ ?_; (· simp only [go_sem, reduceIte, Nat.reduceEqDiff, Nat.reduceAdd, Bool.false_eq_true, Bool.true_beq, Bool.false_beq, Bool.not_true, Bool.not_false, and_self, true_and, and_true, if_true, if_false, true_or, or_true, Nat.zero_mul, Nat.one_mul, Nat.zero_le, Nat.reduceMul, Nat.reduceLeDiff, decide_true, decide_false, Int.toNat_natCast, List.length_append, List.filter_cons, List.filter_nil, ne_eq, not_true_eq_false, not_false_eq_true, encBatch, chs_length, d1]))
      | refine Wp.skip ?_
      | refine Wp.label ?_
      | refine Wp.block ?_
      | refine Wp.exit ?_
      | refine Wp.seq ?_)
    refine Wp.ret ⟨trivial, _, rfl, ?_⟩
    simp only [go_sem, reduceIte, Nat.reduceEqDiff, Nat.reduceAdd, Bool.false_eq_true, Bool.true_beq, Bool.false_beq, Bool.not_true, Bool.not_false]
    exact VSub.refl _

theorem open_batch {a : AV} (h : ArgFits Try.prog 5 61 a) : ∃ (t : Int) (l : List Ch), a = encBatch t l ∧ (∀ c ∈ l, ChOk c) ∧ l.length ≤ reachBytes ∧ (Lit.int .i64 t).wf = true := by
  obtain ⟨cs, h, rfl⟩ := h
  have hw : ∀ cs, wrapE Try.prog 61 cs = .agg cs := fun cs => by
    unfold wrapE; rw [if_pos (by kernel_rfl)]
  rw [hw]
  unfold Fits at h
  rw [Try.underlying61] at h
  obtain ⟨xss, rfl, h⟩ := h
  cases h with | cons h0 h => cases h with | cons h1 h =>
  cases h
  unfold Fits at h0 h1
  simp only at h0 h1
  rw [Try.underlying3] at h0
  rw [Try.underlying45] at h1
  obtain ⟨t, rfl, ht⟩ := h0
  obtain ⟨ys, rfl, hl, he⟩ := h1
  obtain ⟨l, rfl, hq⟩ := all_of (fun cs h => change_fits h) he
  have b1 : Try.prog.bytesOf 87 = 40 := by kernel_rfl
  have c1 : Try.prog.cellsOf 87 = 3 := by kernel_rfl
  rw [b1, List.length_map] at hl
  refine ⟨t, l, ?_, hq, by omega, ht⟩
  simp [encBatch, chs, c1]

theorem law_BatchWrites {b : Nat} (avs : List AV) (h : All2 (ArgFits Try.prog 5) Try.f9.params.toList avs) (_ : bulkAs avs ≤ b) : PCalls Try.prog 9 avs (.bool true) := by
  rw [Try.params9] at h
  cases h with | cons h0 h =>
  cases h with | cons h1 h =>
  cases h
  obtain ⟨t, l, rfl, -⟩ := open_batch h0
  obtain ⟨m, rfl, -⟩ := open_i h1
  exact writes_p t l m
end Go.Proofs.Ytlefnohibjcekaa.Batch
