/- Chapter 15: rows of pairs: whether they rise; changes held against each other. -/
import Derived.Test.YtlefnohibjcekaaBatchA
import Derived.Test.YtlefnohibjcekaaBatchT
import Derived.Test.YtlefnohibjcekaaAvLoop
set_option linter.unusedSimpArgs false
set_option linter.unusedVariables false
set_option maxRecDepth 10000
namespace Go.Proofs.Ytlefnohibjcekaa.Batch
open Go Go.Av Go.Proofs Go.Proofs.Ytlefnohibjcekaa.C

theorem all_true {n : Nat} {p : Nat → Bool} (h : ∀ i, i < n → p i = true) : (List.range n).all p = true := by
  rw [List.all_eq_true]; intro i hi; exact h i (List.mem_range.1 hi)
theorem all_false {n : Nat} {p : Nat → Bool} {i : Nat} (hi : i < n) (h : p i = false) : (List.range n).all p = false := by
  rw [List.all_eq_false]; exact ⟨i, List.mem_range.2 hi, by simp [h]⟩
theorem all_at {n : Nat} {p : Nat → Bool} (h : (List.range n).all p = true) {i : Nat} (hi : i < n) : p i = true := by
  rw [List.all_eq_true] at h; exact h i (List.mem_range.2 hi)

theorem rises_p (l : List Pr) (hl : l.length ≤ 4611686018427387904) : PCalls Try.prog 103 [.sl 2 (prs l) .any] (.bool (rises l)) := by
  refine f103.pcalls0 (by simp) (by simp [allPure, isPure, capPure, prs_pure]) rfl ?_
  unfold c103
  repeat (first
    | (refine Wp.seqItems (its := ?_) (t' := ?_) (h' := ?_) (log := ?_) ?_ ?_; rotate_left 4; (· simp only [go_sem, reduceIte, Nat.reduceEqDiff, Nat.reduceAdd, Bool.false_eq_true, Bool.true_beq, Bool.false_beq, Bool.not_true, Bool.not_false, and_self, true_and, and_true, if_true, if_false, true_or, or_true, Nat.zero_mul, Nat.one_mul, Nat.zero_le, Nat.reduceMul, Nat.reduceLeDiff, decide_true, decide_false, Int.toNat_natCast, List.length_append, List.filter_cons, List.filter_nil, ne_eq, not_true_eq_false, not_false_eq_true, prs_length]; exact rfl))
    | (refine Wp.items (its := ?_) (t' := ?_) (h' := ?_) (log := ?_) ?_ ?_; rotate_left 4; (· simp only [go_sem, reduceIte, Nat.reduceEqDiff, Nat.reduceAdd, Bool.false_eq_true, Bool.true_beq, Bool.false_beq, Bool.not_true, Bool.not_false, and_self, true_and, and_true, if_true, if_false, true_or, or_true, Nat.zero_mul, Nat.one_mul, Nat.zero_le, Nat.reduceMul, Nat.reduceLeDiff, decide_true, decide_false, Int.toNat_natCast, List.length_append, List.filter_cons, List.filter_nil, ne_eq, not_true_eq_false, not_false_eq_true, prs_length]; exact rfl))
    | (refine WpItems.nil ⟨?_, ?_⟩; (· first | trivial | simp [pairsQ, pairsOk, apart, ent0]))
    | (refine Wp.cond_true ?_ ?_; (· simp only [go_sem, reduceIte, Nat.reduceEqDiff, Nat.reduceAdd, Bool.false_eq_true, Bool.true_beq, Bool.false_beq, Bool.not_true, Bool.not_false, and_self, true_and, and_true, if_true, if_false, true_or, or_true, Nat.zero_mul, Nat.one_mul, Nat.zero_le, Nat.reduceMul, Nat.reduceLeDiff, decide_true, decide_false, Int.toNat_natCast, List.length_append, List.filter_cons, List.filter_nil, ne_eq, not_true_eq_false, not_false_eq_true, prs_length]))
    | (refine Wp.cond_false ?_ ?_; (· simp only [go_sem, reduceIte, Nat.reduceEqDiff, Nat.reduceAdd, Bool.false_eq_true, Bool.true_beq, Bool.false_beq, Bool.not_true, Bool.not_false, and_self, true_and, and_true, if_true, if_false, true_or, or_true, Nat.zero_mul, Nat.one_mul, Nat.zero_le, Nat.reduceMul, Nat.reduceLeDiff, decide_true, decide_false, Int.toNat_natCast, List.length_append, List.filter_cons, List.filter_nil, ne_eq, not_true_eq_false, not_false_eq_true, prs_length]))
    | refine Wp.skip ?_
    | refine Wp.label ?_
    | refine Wp.block ?_
    | refine Wp.exit ?_
    | refine Wp.seq ?_)
  refine Wp.loopK [0, 5] (by simp only [go_sem, reduceIte, Nat.reduceEqDiff, Nat.reduceAdd, Bool.false_eq_true, Bool.true_beq, Bool.false_beq, Bool.not_true, Bool.not_false, List.map]; exact rfl) (fun j : Nat => [(6, .int .i64 j)]) (fun j => j ≤ l.length ∧ ∀ i, i < j → riseAt l i = true) (fun j => l.length - j) 0 ⟨Nat.zero_le _, fun i h => absurd h (by omega)⟩ ?_ ?_
  · simp only [AllSub, go_sem, reduceIte, Nat.reduceEqDiff, Nat.reduceAdd, Bool.false_eq_true, Bool.true_beq, Bool.false_beq, Bool.not_true, Bool.not_false, prs_length]; and_intros <;> first | exact trivial | exact VSub.refl _ | exact VSub.any _ | (refine VSub.int ?_; omega)
  · rintro j ⟨hj, hr⟩
    by_cases hc : j < l.length
    · have d1 : decide ((j : Int) < (l.length : Int)) = true := decide_eq_true (by omega)
      have h2 : (0 : Int) ≤ (j : Int) := by omega
      have h3 : (j : Int) < (l.length : Int) := by omega
      have e1 : IntKind.i64.wrap ((j : Int) + 1) = ((j + 1 : Nat) : Int) := by rw [IntWalk.i64_in _ (by omega)]; omega
      by_cases h0 : j = 0
      · subst h0
        have d2 : decide ((0 : Int) < ((0 : Nat) : Int)) = false := by decide
        repeat (first
          | (refine Wp.seqItems (its := ?_) (t' := ?_) (h' := ?_) (log := ?_) ?_ ?_; rotate_left 4; (· simp only [go_sem, reduceIte, Nat.reduceEqDiff, Nat.reduceAdd, Bool.false_eq_true, Bool.true_beq, Bool.false_beq, Bool.not_true, Bool.not_false, and_self, true_and, and_true, if_true, if_false, true_or, or_true, Nat.zero_mul, Nat.one_mul, Nat.zero_le, Nat.reduceMul, Nat.reduceLeDiff, decide_true, decide_false, Int.toNat_natCast, List.length_append, List.filter_cons, List.filter_nil, ne_eq, not_true_eq_false, not_false_eq_true, prs_length, d1, d2, e1]; exact rfl))
          | (refine Wp.items (its := ?_) (t' := ?_) (h' := ?_) (log := ?_) ?_ ?_; rotate_left 4; (· simp only [go_sem, reduceIte, Nat.reduceEqDiff, Nat.reduceAdd, Bool.false_eq_true, Bool.true_beq, Bool.false_beq, Bool.not_true, Bool.not_false, and_self, true_and, and_true, if_true, if_false, true_or, or_true, Nat.zero_mul, Nat.one_mul, Nat.zero_le, Nat.reduceMul, Nat.reduceLeDiff, decide_true, decide_false, Int.toNat_natCast, List.length_append, List.filter_cons, List.filter_nil, ne_eq, not_true_eq_false, not_false_eq_true, prs_length, d1, d2, e1]; exact rfl))
          | (refine WpItems.nil ⟨?_, ?_⟩; (· first | trivial | simp [pairsQ, pairsOk, apart, ent0]))
          | (refine Wp.cond_true ?_ ?_; (· simp only [go_sem, reduceIte, Nat.reduceEqDiff, Nat.reduceAdd, Bool.false_eq_true, Bool.true_beq, Bool.false_beq, Bool.not_true, Bool.not_false, and_self, true_and, and_true, if_true, if_false, true_or, or_true, Nat.zero_mul, Nat.one_mul, Nat.zero_le, Nat.reduceMul, Nat.reduceLeDiff, decide_true, decide_false, Int.toNat_natCast, List.length_append, List.filter_cons, List.filter_nil, ne_eq, not_true_eq_false, not_false_eq_true, prs_length, d1, d2, e1]))
          | (refine Wp.cond_false ?_ ?_; (· simp only [go_sem, reduceIte, Nat.reduceEqDiff, Nat.reduceAdd, Bool.false_eq_true, Bool.true_beq, Bool.false_beq, Bool.not_true, Bool.not_false, and_self, true_and, and_true, if_true, if_false, true_or, or_true, Nat.zero_mul, Nat.one_mul, Nat.zero_le, Nat.reduceMul, Nat.reduceLeDiff, decide_true, decide_false, Int.toNat_natCast, List.length_append, List.filter_cons, List.filter_nil, ne_eq, not_true_eq_false, not_false_eq_true, prs_length, d1, d2, e1]))
          | refine Wp.skip ?_
          | refine Wp.label ?_
          | refine Wp.block ?_
          | refine Wp.exit ?_
          | refine Wp.seq ?_)
        refine ⟨1, ⟨by omega, fun i hi => ?_⟩, by omega, ?_⟩
        · obtain rfl : i = 0 := by omega
          simp [riseAt]
        · refine StLe.tm (by simp only [AllSub, go_sem, reduceIte, Nat.reduceEqDiff, Nat.reduceAdd, Bool.false_eq_true, Bool.true_beq, Bool.false_beq, Bool.not_true, Bool.not_false]; and_intros <;> first | exact trivial | exact VSub.refl _ | exact VSub.any _ | (refine VSub.int ?_; omega))
      · have d2 : decide ((0 : Int) < (j : Int)) = true := decide_eq_true (by omega)
        have e2 : IntKind.i64.wrap ((j : Int) - 1) = ((j - 1 : Nat) : Int) := by rw [IntWalk.i64_in _ (by omega)]; omega
        have h4 : (0 : Int) ≤ ((j - 1 : Nat) : Int) := by omega
        have h5 : ((j - 1 : Nat) : Int) < (l.length : Int) := by omega
        have h6 : j - 1 < l.length := by omega
        have hra : riseAt l j = Op.bytesLess (l.getD (j - 1) default).k (l.getD j default).k := by simp [riseAt, h0]
        cases hb : Op.bytesLess (l.getD (j - 1) default).k (l.getD j default).k with
        | true =>
          repeat (first
            | (refine Wp.seqItems (its := ?_) (t' := ?_) (h' := ?_) (log := ?_) ?_ ?_; rotate_left 4; (· simp only [go_sem, reduceIte, Nat.reduceEqDiff, Nat.reduceAdd, Bool.false_eq_true, Bool.true_beq, Bool.false_beq, Bool.not_true, Bool.not_false, and_self, true_and, and_true, if_true, if_false, true_or, or_true, Nat.zero_mul, Nat.one_mul, Nat.zero_le, Nat.reduceMul, Nat.reduceLeDiff, decide_true, decide_false, Int.toNat_natCast, List.length_append, List.filter_cons, List.filter_nil, ne_eq, not_true_eq_false, not_false_eq_true, prs_length, d1, d2, e1, e2, h2, h3, h4, h5, Int.toNat_natCast, prs_getD _ _ _ h6, prs_getD _ _ _ hc, encPr, hb]; exact rfl))
            | (refine Wp.items (its := ?_) (t' := ?_) (h' := ?_) (log := ?_) ?_ ?_; rotate_left 4; (· simp only [go_sem, reduceIte, Nat.reduceEqDiff, Nat.reduceAdd, Bool.false_eq_true, Bool.true_beq, Bool.false_beq, Bool.not_true, Bool.not_false, and_self, true_and, and_true, if_true, if_false, true_or, or_true, Nat.zero_mul, Nat.one_mul, Nat.zero_le, Nat.reduceMul, Nat.reduceLeDiff, decide_true, decide_false, Int.toNat_natCast, List.length_append, List.filter_cons, List.filter_nil, ne_eq, not_true_eq_false, not_false_eq_true, prs_length, d1, d2, e1, e2, h2, h3, h4, h5, Int.toNat_natCast, prs_getD _ _ _ h6, prs_getD _ _ _ hc, encPr, hb]; exact rfl))
            | (refine WpItems.nil ⟨?_, ?_⟩; (· first | trivial | simp [pairsQ, pairsOk, apart, ent0]))
            | (refine Wp.cond_true ?_ ?_; (· simp only [go_sem, reduceIte, Nat.reduceEqDiff, Nat.reduceAdd, Bool.false_eq_true, Bool.true_beq, Bool.false_beq, Bool.not_true, Bool.not_false, and_self, true_and, and_true, if_true, if_false, true_or, or_true, Nat.zero_mul, Nat.one_mul, Nat.zero_le, Nat.reduceMul, Nat.reduceLeDiff, decide_true, decide_false, Int.toNat_natCast, List.length_append, List.filter_cons, List.filter_nil, ne_eq, not_true_eq_false, not_false_eq_true, prs_length, d1, d2, e1, e2, h2, h3, h4, h5, Int.toNat_natCast, prs_getD _ _ _ h6, prs_getD _ _ _ hc, encPr, hb]))
            | (refine Wp.cond_false ?_ ?_; (· simp only [go_sem, reduceIte, Nat.reduceEqDiff, Nat.reduceAdd, Bool.false_eq_true, Bool.true_beq, Bool.false_beq, Bool.not_true, Bool.not_false, and_self, true_and, and_true, if_true, if_false, true_or, or_true, Nat.zero_mul, Nat.one_mul, Nat.zero_le, Nat.reduceMul, Nat.reduceLeDiff, decide_true, decide_false, Int.toNat_natCast, List.length_append, List.filter_cons, List.filter_nil, ne_eq, not_true_eq_false, not_false_eq_true, prs_length, d1, d2, e1, e2, h2, h3, h4, h5, Int.toNat_natCast, prs_getD _ _ _ h6, prs_getD _ _ _ hc, encPr, hb]))
            | refine Wp.skip ?_
            | refine Wp.label ?_
            | refine Wp.block ?_
            | refine Wp.exit ?_
            | refine Wp.seq ?_)
          refine ⟨j + 1, ⟨by omega, fun i hi => ?_⟩, by omega, ?_⟩
          · by_cases he : i = j
            · subst he; rw [hra, hb]
            · exact hr i (by omega)
          · refine StLe.tm (by simp only [AllSub, go_sem, reduceIte, Nat.reduceEqDiff, Nat.reduceAdd, Bool.false_eq_true, Bool.true_beq, Bool.false_beq, Bool.not_true, Bool.not_false]; and_intros <;> first | exact trivial | exact VSub.refl _ | exact VSub.any _ | (refine VSub.int ?_; omega))
        | false =>
          have hf : rises l = false := all_false hc (by rw [hra, hb])
          repeat (first
            | (refine Wp.seqItems (its := ?_) (t' := ?_) (h' := ?_) (log := ?_) ?_ ?_; rotate_left 4; (· simp only [go_sem, reduceIte, Nat.reduceEqDiff, Nat.reduceAdd, Bool.false_eq_true, Bool.true_beq, Bool.false_beq, Bool.not_true, Bool.not_false, and_self, true_and, and_true, if_true, if_false, true_or, or_true, Nat.zero_mul, Nat.one_mul, Nat.zero_le, Nat.reduceMul, Nat.reduceLeDiff, decide_true, decide_false, Int.toNat_natCast, List.length_append, List.filter_cons, List.filter_nil, ne_eq, not_true_eq_false, not_false_eq_true, prs_length, d1, d2, e1, e2, h2, h3, h4, h5, Int.toNat_natCast, prs_getD _ _ _ h6, prs_getD _ _ _ hc, encPr, hb]; exact rfl))
            | (refine Wp.items (its := ?_) (t' := ?_) (h' := ?_) (log := ?_) ?_ ?_; rotate_left 4; (· simp only [go_sem, reduceIte, Nat.reduceEqDiff, Nat.reduceAdd, Bool.false_eq_true, Bool.true_beq, Bool.false_beq, Bool.not_true, Bool.not_false, and_self, true_and, and_true, if_true, if_false, true_or, or_true, Nat.zero_mul, Nat.one_mul, Nat.zero_le, Nat.reduceMul, Nat.reduceLeDiff, decide_true, decide_false, Int.toNat_natCast, List.length_append, List.filter_cons, List.filter_nil, ne_eq, not_true_eq_false, not_false_eq_true, prs_length, d1, d2, e1, e2, h2, h3, h4, h5, Int.toNat_natCast, prs_getD _ _ _ h6, prs_getD _ _ _ hc, encPr, hb]; exact rfl))
            | (refine WpItems.nil ⟨?_, ?_⟩; (· first | trivial | simp [pairsQ, pairsOk, apart, ent0]))
            | (refine Wp.cond_true ?_ ?_; (· simp only [go_sem, reduceIte, Nat.reduceEqDiff, Nat.reduceAdd, Bool.false_eq_true, Bool.true_beq, Bool.false_beq, Bool.not_true, Bool.not_false, and_self, true_and, and_true, if_true, if_false, true_or, or_true, Nat.zero_mul, Nat.one_mul, Nat.zero_le, Nat.reduceMul, Nat.reduceLeDiff, decide_true, decide_false, Int.toNat_natCast, List.length_append, List.filter_cons, List.filter_nil, ne_eq, not_true_eq_false, not_false_eq_true, prs_length, d1, d2, e1, e2, h2, h3, h4, h5, Int.toNat_natCast, prs_getD _ _ _ h6, prs_getD _ _ _ hc, encPr, hb]))
            | (refine Wp.cond_false ?_ ?_; (· simp only [go_sem, reduceIte, Nat.reduceEqDiff, Nat.reduceAdd, Bool.false_eq_true, Bool.true_beq, Bool.false_beq, Bool.not_true, Bool.not_false, and_self, true_and, and_true, if_true, if_false, true_or, or_true, Nat.zero_mul, Nat.one_mul, Nat.zero_le, Nat.reduceMul, Nat.reduceLeDiff, decide_true, decide_false, Int.toNat_natCast, List.length_append, List.filter_cons, List.filter_nil, ne_eq, not_true_eq_false, not_false_eq_true, prs_length, d1, d2, e1, e2, h2, h3, h4, h5, Int.toNat_natCast, prs_getD _ _ _ h6, prs_getD _ _ _ hc, encPr, hb]))
            | refine Wp.skip ?_
            | refine Wp.label ?_
            | refine Wp.block ?_
            | refine Wp.exit ?_
            | refine Wp.seq ?_)
          refine Wp.ret ⟨trivial, _, rfl, ?_⟩
          simp only [go_sem, reduceIte, Nat.reduceEqDiff, Nat.reduceAdd, Bool.false_eq_true, Bool.true_beq, Bool.false_beq, Bool.not_true, Bool.not_false]
          rw [hf]; exact VSub.refl _
    · obtain rfl : j = l.length := by omega
      have d1 : decide ((l.length : Int) < (l.length : Int)) = false := decide_eq_false (by omega)
      have ht : rises l = true := all_true hr
      repeat (first
        | (refine Wp.seqItems (its := ?_) (t' := ?_) (h' := ?_) (log := ?_) ?_ ?_; rotate_left 4; (· simp only [go_sem, reduceIte, Nat.reduceEqDiff, Nat.reduceAdd, Bool.false_eq_true, Bool.true_beq, Bool.false_beq, Bool.not_true, Bool.not_false, and_self, true_and, and_true, if_true, if_false, true_or, or_true, Nat.zero_mul, Nat.one_mul, Nat.zero_le, Nat.reduceMul, Nat.reduceLeDiff, decide_true, decide_false, Int.toNat_natCast, List.length_append, List.filter_cons, List.filter_nil, ne_eq, not_true_eq_false, not_false_eq_true, d1]; exact rfl))
        | (refine Wp.items (its := ?_) (t' := ?_) (h' := ?_) (log := ?_) ?_ ?_; rotate_left 4; (· simp only [go_sem, reduceIte, Nat.reduceEqDiff, Nat.reduceAdd, Bool.false_eq_true, Bool.true_beq, Bool.false_beq, Bool.not_true, Bool.not_false, and_self, true_and, and_true, if_true, if_false, true_or, or_true, Nat.zero_mul, Nat.one_mul, Nat.zero_le, Nat.reduceMul, Nat.reduceLeDiff, decide_true, decide_false, Int.toNat_natCast, List.length_append, List.filter_cons, List.filter_nil, ne_eq, not_true_eq_false, not_false_eq_true, d1]; exact rfl))
        | (refine WpItems.nil ⟨?_, ?_⟩; (· first | trivial | simp [pairsQ, pairsOk, apart, ent0]))
        | (refine Wp.cond_true ?_ ?_; (· simp only [go_sem, reduceIte, Nat.reduceEqDiff, Nat.reduceAdd, Bool.false_eq_true, Bool.true_beq, Bool.false_beq, Bool.not_true, Bool.not_false, and_self, true_and, and_true, if_true, if_false, true_or, or_true, Nat.zero_mul, Nat.one_mul, Nat.zero_le, Nat.reduceMul, Nat.reduceLeDiff, decide_true, decide_false, Int.toNat_natCast, List.length_append, List.filter_cons, List.filter_nil, ne_eq, not_true_eq_false, not_false_eq_true, d1]))
        | (refine Wp.cond_false ?_ ?_; (· simp only [go_sem, reduceIte, Nat.reduceEqDiff, Nat.reduceAdd, Bool.false_eq_true, Bool.true_beq, Bool.false_beq, Bool.not_true, Bool.not_false, and_self, true_and, and_true, if_true, if_false, true_or, or_true, Nat.zero_mul, Nat.one_mul, Nat.zero_le, Nat.reduceMul, Nat.reduceLeDiff, decide_true, decide_false, Int.toNat_natCast, List.length_append, List.filter_cons, List.filter_nil, ne_eq, not_true_eq_false, not_false_eq_true, d1]))
        | refine Wp.skip ?_
        | refine Wp.label ?_
        | refine Wp.block ?_
        | refine Wp.exit ?_
        | refine Wp.seq ?_)
      refine Wp.ret ⟨trivial, _, rfl, ?_⟩
      simp only [go_sem, reduceIte, Nat.reduceEqDiff, Nat.reduceAdd, Bool.false_eq_true, Bool.true_beq, Bool.false_beq, Bool.not_true, Bool.not_false]
      rw [ht]; exact VSub.refl _

theorem risesR_p (l : List Pr) (hl : l.length ≤ 4611686018427387904) (hk : ∀ p ∈ l, Ls p.k) : PCalls Try.prog 104 [.sl 2 (prs l) .any] (.bool (rises l)) := by
  refine f104.pcalls0 (by simp) (by simp [allPure, isPure, capPure, prs_pure]) rfl ?_
  unfold c104
  have hls : ∀ i, Ls (l.getD i default).k := fun i => by
    by_cases h : i < l.length
    · rw [List.getD_eq_getElem?_getD, List.getElem?_eq_getElem h]; exact hk _ (List.getElem_mem h)
    · rw [List.getD_eq_getElem?_getD, List.getElem?_eq_none (by omega)]; exact Nat.zero_le _
  repeat (first
    | (refine Wp.seqItems (its := ?_) (t' := ?_) (h' := ?_) (log := ?_) ?_ ?_; rotate_left 4; (· simp only [go_sem, reduceIte, Nat.reduceEqDiff, Nat.reduceAdd, Bool.false_eq_true, Bool.true_beq, Bool.false_beq, Bool.not_true, Bool.not_false, and_self, true_and, and_true, if_true, if_false, true_or, or_true, Nat.zero_mul, Nat.one_mul, Nat.zero_le, Nat.reduceMul, Nat.reduceLeDiff, decide_true, decide_false, Int.toNat_natCast, List.length_append, List.filter_cons, List.filter_nil, ne_eq, not_true_eq_false, not_false_eq_true, prs_length]; exact rfl))
    | (refine Wp.items (its := ?_) (t' := ?_) (h' := ?_) (log := ?_) ?_ ?_; rotate_left 4; (· simp only [go_sem, reduceIte, Nat.reduceEqDiff, Nat.reduceAdd, Bool.false_eq_true, Bool.true_beq, Bool.false_beq, Bool.not_true, Bool.not_false, and_self, true_and, and_true, if_true, if_false, true_or, or_true, Nat.zero_mul, Nat.one_mul, Nat.zero_le, Nat.reduceMul, Nat.reduceLeDiff, decide_true, decide_false, Int.toNat_natCast, List.length_append, List.filter_cons, List.filter_nil, ne_eq, not_true_eq_false, not_false_eq_true, prs_length]; exact rfl))
    | (refine WpItems.nil ⟨?_, ?_⟩; (· first | trivial | simp [pairsQ, pairsOk, apart, ent0]))
    | (refine Wp.cond_true ?_ ?_; (· simp only [go_sem, reduceIte, Nat.reduceEqDiff, Nat.reduceAdd, Bool.false_eq_true, Bool.true_beq, Bool.false_beq, Bool.not_true, Bool.not_false, and_self, true_and, and_true, if_true, if_false, true_or, or_true, Nat.zero_mul, Nat.one_mul, Nat.zero_le, Nat.reduceMul, Nat.reduceLeDiff, decide_true, decide_false, Int.toNat_natCast, List.length_append, List.filter_cons, List.filter_nil, ne_eq, not_true_eq_false, not_false_eq_true, prs_length]))
    | (refine Wp.cond_false ?_ ?_; (· simp only [go_sem, reduceIte, Nat.reduceEqDiff, Nat.reduceAdd, Bool.false_eq_true, Bool.true_beq, Bool.false_beq, Bool.not_true, Bool.not_false, and_self, true_and, and_true, if_true, if_false, true_or, or_true, Nat.zero_mul, Nat.one_mul, Nat.zero_le, Nat.reduceMul, Nat.reduceLeDiff, decide_true, decide_false, Int.toNat_natCast, List.length_append, List.filter_cons, List.filter_nil, ne_eq, not_true_eq_false, not_false_eq_true, prs_length]))
    | refine Wp.skip ?_
    | refine Wp.label ?_
    | refine Wp.block ?_
    | refine Wp.exit ?_
    | refine Wp.seq ?_)
  refine Wp.loopK [0] (by simp only [go_sem, reduceIte, Nat.reduceEqDiff, Nat.reduceAdd, Bool.false_eq_true, Bool.true_beq, Bool.false_beq, Bool.not_true, Bool.not_false, List.map]; exact rfl) (fun j : Nat => [(3, .int .i64 j)]) (fun j => 1 ≤ j ∧ j ≤ l.length + 1 ∧ ∀ i, i < j → i < l.length → riseAt l i = true) (fun j => l.length + 1 - j) 1 ⟨Nat.le_refl _, by omega, fun i h _ => by (obtain rfl : i = 0 := by omega); simp [riseAt]⟩ ?_ ?_
  · simp only [AllSub, go_sem, reduceIte, Nat.reduceEqDiff, Nat.reduceAdd, Bool.false_eq_true, Bool.true_beq, Bool.false_beq, Bool.not_true, Bool.not_false, prs_length]; and_intros <;> first | exact trivial | exact VSub.refl _ | exact VSub.any _ | (refine VSub.int ?_; omega)
  · rintro j ⟨hj1, hj, hr⟩
    by_cases hc : j < l.length
    · have d1 : decide ((j : Int) < (l.length : Int)) = true := decide_eq_true (by omega)
      have h2 : (0 : Int) ≤ (j : Int) := by omega
      have h3 : (j : Int) < (l.length : Int) := by omega
      have e1 : IntKind.i64.wrap ((j : Int) + 1) = ((j + 1 : Nat) : Int) := by rw [IntWalk.i64_in _ (by omega)]; omega
      have e2 : IntKind.i64.wrap ((j : Int) - 1) = ((j - 1 : Nat) : Int) := by rw [IntWalk.i64_in _ (by omega)]; omega
      have h4 : (0 : Int) ≤ ((j - 1 : Nat) : Int) := by omega
      have h5 : ((j - 1 : Nat) : Int) < (l.length : Int) := by omega
      have h6 : j - 1 < l.length := by omega
      have hra : riseAt l j = Op.bytesLess (l.getD (j - 1) default).k (l.getD j default).k := by simp [riseAt]; omega
      cases hb : Op.bytesLess (l.getD (j - 1) default).k (l.getD j default).k with
      | true =>
        repeat (first
          | (refine Wp.seqItems (its := ?_) (t' := ?_) (h' := ?_) (log := ?_) ?_ ?_; rotate_left 4; (· simp only [go_sem, reduceIte, Nat.reduceEqDiff, Nat.reduceAdd, Bool.false_eq_true, Bool.true_beq, Bool.false_beq, Bool.not_true, Bool.not_false, and_self, true_and, and_true, if_true, if_false, true_or, or_true, Nat.zero_mul, Nat.one_mul, Nat.zero_le, Nat.reduceMul, Nat.reduceLeDiff, decide_true, decide_false, Int.toNat_natCast, List.length_append, List.filter_cons, List.filter_nil, ne_eq, not_true_eq_false, not_false_eq_true, prs_length, d1, e1, e2, h2, h3, h4, h5, Int.toNat_natCast, prs_getD _ _ _ h6, prs_getD _ _ _ hc, encPr, hb]; exact rfl))
          | (refine Wp.items (its := ?_) (t' := ?_) (h' := ?_) (log := ?_) ?_ ?_; rotate_left 4; (· simp only [go_sem, reduceIte, Nat.reduceEqDiff, Nat.reduceAdd, Bool.false_eq_true, Bool.true_beq, Bool.false_beq, Bool.not_true, Bool.not_false, and_self, true_and, and_true, if_true, if_false, true_or, or_true, Nat.zero_mul, Nat.one_mul, Nat.zero_le, Nat.reduceMul, Nat.reduceLeDiff, decide_true, decide_false, Int.toNat_natCast, List.length_append, List.filter_cons, List.filter_nil, ne_eq, not_true_eq_false, not_false_eq_true, prs_length, d1, e1, e2, h2, h3, h4, h5, Int.toNat_natCast, prs_getD _ _ _ h6, prs_getD _ _ _ hc, encPr, hb]; exact rfl))
          | (refine WpItems.nil ⟨?_, ?_⟩; (· first | trivial | simp [pairsQ, pairsOk, apart, ent0]))
          | (refine WpItems.pcall ?_ ?_ (below_p (l.getD (j - 1) default).k (l.getD j default).k (hls _) (hls _)) ?_; (· simp only [go_sem, reduceIte, Nat.reduceEqDiff, Nat.reduceAdd, Bool.false_eq_true, Bool.true_beq, Bool.false_beq, Bool.not_true, Bool.not_false]); (· simp only [go_sem, reduceIte, Nat.reduceEqDiff, Nat.reduceAdd, Bool.false_eq_true, Bool.true_beq, Bool.false_beq, Bool.not_true, Bool.not_false, List.map]; first | exact VSubs.refl _ | (repeat (first | exact VSubs.nil | refine VSubs.cons (by first | exact VSub.refl _ | assumption | exact VSub.cap | exact VSub.any _) ?_))); refine WpItems.eval (its := ?_) (t' := ?_) (h' := ?_) (log' := ?_) ?_ ?_; rotate_left 4; (· simp only [go_sem, reduceIte, Nat.reduceEqDiff, Nat.reduceAdd, Bool.false_eq_true, Bool.true_beq, Bool.false_beq, Bool.not_true, Bool.not_false, and_self, true_and, and_true, if_true, if_false, true_or, or_true, Nat.zero_mul, Nat.one_mul, Nat.zero_le, Nat.reduceMul, Nat.reduceLeDiff, decide_true, decide_false, Int.toNat_natCast, List.length_append, List.filter_cons, List.filter_nil, ne_eq, not_true_eq_false, not_false_eq_true, prs_length, d1, e1, e2, h2, h3, h4, h5, Int.toNat_natCast, prs_getD _ _ _ h6, prs_getD _ _ _ hc, encPr, hb]; exact rfl))
          | (refine Wp.cond_true ?_ ?_; (· simp only [go_sem, reduceIte, Nat.reduceEqDiff, Nat.reduceAdd, Bool.false_eq_true, Bool.true_beq, Bool.false_beq, Bool.not_true, Bool.not_false, and_self, true_and, and_true, if_true, if_false, true_or, or_true, Nat.zero_mul, Nat.one_mul, Nat.zero_le, Nat.reduceMul, Nat.reduceLeDiff, decide_true, decide_false, Int.toNat_natCast, List.length_append, List.filter_cons, List.filter_nil, ne_eq, not_true_eq_false, not_false_eq_true, prs_length, d1, e1, e2, h2, h3, h4, h5, Int.toNat_natCast, prs_getD _ _ _ h6, prs_getD _ _ _ hc, encPr, hb]))
          | (refine Wp.cond_false ?_ ?_; (· simp only [go_sem, reduceIte, Nat.reduceEqDiff, Nat.reduceAdd, Bool.false_eq_true, Bool.true_beq, Bool.false_beq, Bool.not_true, Bool.not_false, and_self, true_and, and_true, if_true, if_false, true_or, or_true, Nat.zero_mul, Nat.one_mul, Nat.zero_le, Nat.reduceMul, Nat.reduceLeDiff, decide_true, decide_false, Int.toNat_natCast, List.length_append, List.filter_cons, List.filter_nil, ne_eq, not_true_eq_false, not_false_eq_true, prs_length, d1, e1, e2, h2, h3, h4, h5, Int.toNat_natCast, prs_getD _ _ _ h6, prs_getD _ _ _ hc, encPr, hb]))
          | refine Wp.skip ?_
          | refine Wp.label ?_
          | refine Wp.block ?_
          | refine Wp.exit ?_
          | refine Wp.seq ?_)
        refine ⟨j + 1, ⟨by omega, by omega, fun i hi hil => ?_⟩, by omega, ?_⟩
        · by_cases he : i = j
          · subst he; rw [hra, hb]
          · exact hr i (by omega) hil
        · refine StLe.tm (by simp only [AllSub, go_sem, reduceIte, Nat.reduceEqDiff, Nat.reduceAdd, Bool.false_eq_true, Bool.true_beq, Bool.false_beq, Bool.not_true, Bool.not_false]; and_intros <;> first | exact trivial | exact VSub.refl _ | exact VSub.any _ | (refine VSub.int ?_; omega))
      | false =>
        have hf : rises l = false := all_false hc (by rw [hra, hb])
        repeat (first
          | (refine Wp.seqItems (its := ?_) (t' := ?_) (h' := ?_) (log := ?_) ?_ ?_; rotate_left 4; (· simp only [go_sem, reduceIte, Nat.reduceEqDiff, Nat.reduceAdd, Bool.false_eq_true, Bool.true_beq, Bool.false_beq, Bool.not_true, Bool.not_false, and_self, true_and, and_true, if_true, if_false, true_or, or_true, Nat.zero_mul, Nat.one_mul, Nat.zero_le, Nat.reduceMul, Nat.reduceLeDiff, decide_true, decide_false, Int.toNat_natCast, List.length_append, List.filter_cons, List.filter_nil, ne_eq, not_true_eq_false, not_false_eq_true, prs_length, d1, e1, e2, h2, h3, h4, h5, Int.toNat_natCast, prs_getD _ _ _ h6, prs_getD _ _ _ hc, encPr, hb]; exact rfl))
          | (refine Wp.items (its := ?_) (t' := ?_) (h' := ?_) (log := ?_) ?_ ?_; rotate_left 4; (· simp only [go_sem, reduceIte, Nat.reduceEqDiff, Nat.reduceAdd, Bool.false_eq_true, Bool.true_beq, Bool.false_beq, Bool.not_true, Bool.not_false, and_self, true_and, and_true, if_true, if_false, true_or, or_true, Nat.zero_mul, Nat.one_mul, Nat.zero_le, Nat.reduceMul, Nat.reduceLeDiff, decide_true, decide_false, Int.toNat_natCast, List.length_append, List.filter_cons, List.filter_nil, ne_eq, not_true_eq_false, not_false_eq_true, prs_length, d1, e1, e2, h2, h3, h4, h5, Int.toNat_natCast, prs_getD _ _ _ h6, prs_getD _ _ _ hc, encPr, hb]; exact rfl))
          | (refine WpItems.nil ⟨?_, ?_⟩; (· first | trivial | simp [pairsQ, pairsOk, apart, ent0]))
          | (refine WpItems.pcall ?_ ?_ (below_p (l.getD (j - 1) default).k (l.getD j default).k (hls _) (hls _)) ?_; (· simp only [go_sem, reduceIte, Nat.reduceEqDiff, Nat.reduceAdd, Bool.false_eq_true, Bool.true_beq, Bool.false_beq, Bool.not_true, Bool.not_false]); (· simp only [go_sem, reduceIte, Nat.reduceEqDiff, Nat.reduceAdd, Bool.false_eq_true, Bool.true_beq, Bool.false_beq, Bool.not_true, Bool.not_false, List.map]; first | exact VSubs.refl _ | (repeat (first | exact VSubs.nil | refine VSubs.cons (by first | exact VSub.refl _ | assumption | exact VSub.cap | exact VSub.any _) ?_))); refine WpItems.eval (its := ?_) (t' := ?_) (h' := ?_) (log' := ?_) ?_ ?_; rotate_left 4; (· simp only [go_sem, reduceIte, Nat.reduceEqDiff, Nat.reduceAdd, Bool.false_eq_true, Bool.true_beq, Bool.false_beq, Bool.not_true, Bool.not_false, and_self, true_and, and_true, if_true, if_false, true_or, or_true, Nat.zero_mul, Nat.one_mul, Nat.zero_le, Nat.reduceMul, Nat.reduceLeDiff, decide_true, decide_false, Int.toNat_natCast, List.length_append, List.filter_cons, List.filter_nil, ne_eq, not_true_eq_false, not_false_eq_true, prs_length, d1, e1, e2, h2, h3, h4, h5, Int.toNat_natCast, prs_getD _ _ _ h6, prs_getD _ _ _ hc, encPr, hb]; exact rfl))
          | (refine Wp.cond_true ?_ ?_; (· simp only [go_sem, reduceIte, Nat.reduceEqDiff, Nat.reduceAdd, Bool.false_eq_true, Bool.true_beq, Bool.false_beq, Bool.not_true, Bool.not_false, and_self, true_and, and_true, if_true, if_false, true_or, or_true, Nat.zero_mul, Nat.one_mul, Nat.zero_le, Nat.reduceMul, Nat.reduceLeDiff, decide_true, decide_false, Int.toNat_natCast, List.length_append, List.filter_cons, List.filter_nil, ne_eq, not_true_eq_false, not_false_eq_true, prs_length, d1, e1, e2, h2, h3, h4, h5, Int.toNat_natCast, prs_getD _ _ _ h6, prs_getD _ _ _ hc, encPr, hb]))
          | (refine Wp.cond_false ?_ ?_; (· simp only [go_sem, reduceIte, Nat.reduceEqDiff, Nat.reduceAdd, Bool.false_eq_true, Bool.true_beq, Bool.false_beq, Bool.not_true, Bool.not_false, and_self, true_and, and_true, if_true, if_false, true_or, or_true, Nat.zero_mul, Nat.one_mul, Nat.zero_le, Nat.reduceMul, Nat.reduceLeDiff, decide_true, decide_false, Int.toNat_natCast, List.length_append, List.filter_cons, List.filter_nil, ne_eq, not_true_eq_false, not_false_eq_true, prs_length, d1, e1, e2, h2, h3, h4, h5, Int.toNat_natCast, prs_getD _ _ _ h6, prs_getD _ _ _ hc, encPr, hb]))
          | refine Wp.skip ?_
          | refine Wp.label ?_
          | refine Wp.block ?_
          | refine Wp.exit ?_
          | refine Wp.seq ?_)
        refine Wp.ret ⟨trivial, _, rfl, ?_⟩
        simp only [go_sem, reduceIte, Nat.reduceEqDiff, Nat.reduceAdd, Bool.false_eq_true, Bool.true_beq, Bool.false_beq, Bool.not_true, Bool.not_false]
        rw [hf]; exact VSub.refl _
    · have d1 : decide ((j : Int) < (l.length : Int)) = false := decide_eq_false (by omega)
      have ht : rises l = true := all_true fun i hi => hr i (by omega) hi
      repeat (first
        | (refine Wp.seqItems (its := ?_) (t' := ?_) (h' := ?_) (log := ?_) ?_ ?_; rotate_left 4; (· simp only [go_sem, reduceIte, Nat.reduceEqDiff, Nat.reduceAdd, Bool.false_eq_true, Bool.true_beq, Bool.false_beq, Bool.not_true, Bool.not_false, and_self, true_and, and_true, if_true, if_false, true_or, or_true, Nat.zero_mul, Nat.one_mul, Nat.zero_le, Nat.reduceMul, Nat.reduceLeDiff, decide_true, decide_false, Int.toNat_natCast, List.length_append, List.filter_cons, List.filter_nil, ne_eq, not_true_eq_false, not_false_eq_true, d1, prs_length]; exact rfl))
        | (refine Wp.items (its := ?_) (t' := ?_) (h' := ?_) (log := ?_) ?_ ?_; rotate_left 4; (· simp only [go_sem, reduceIte, Nat.reduceEqDiff, Nat.reduceAdd, Bool.false_eq_true, Bool.true_beq, Bool.false_beq, Bool.not_true, Bool.not_false, and_self, true_and, and_true, if_true, if_false, true_or, or_true, Nat.zero_mul, Nat.one_mul, Nat.zero_le, Nat.reduceMul, Nat.reduceLeDiff, decide_true, decide_false, Int.toNat_natCast, List.length_append, List.filter_cons, List.filter_nil, ne_eq, not_true_eq_false, not_false_eq_true, d1, prs_length]; exact rfl))
        | (refine WpItems.nil ⟨?_, ?_⟩; (· first | trivial | simp [pairsQ, pairsOk, apart, ent0]))
        | (refine Wp.cond_true ?_ ?_; (· simp only [go_sem, reduceIte, Nat.reduceEqDiff, Nat.reduceAdd, Bool.false_eq_true, Bool.true_beq, Bool.false_beq, Bool.not_true, Bool.not_false, and_self, true_and, and_true, if_true, if_false, true_or, or_true, Nat.zero_mul, Nat.one_mul, Nat.zero_le, Nat.reduceMul, Nat.reduceLeDiff, decide_true, decide_false, Int.toNat_natCast, List.length_append, List.filter_cons, List.filter_nil, ne_eq, not_true_eq_false, not_false_eq_true, d1, prs_length]))
        | (refine Wp.cond_false ?_ ?_; (· simp only [go_sem, reduceIte, Nat.reduceEqDiff, Nat.reduceAdd, Bool.false_eq_true, Bool.true_beq, Bool.false_beq, Bool.not_true, Bool.not_false, and_self, true_and, and_true, if_true, if_false, true_or, or_true, Nat.zero_mul, Nat.one_mul, Nat.zero_le, Nat.reduceMul, Nat.reduceLeDiff, decide_true, decide_false, Int.toNat_natCast, List.length_append, List.filter_cons, List.filter_nil, ne_eq, not_true_eq_false, not_false_eq_true, d1, prs_length]))
        | refine Wp.skip ?_
        | refine Wp.label ?_
        | refine Wp.block ?_
        | refine Wp.exit ?_
        | refine Wp.seq ?_)
      refine Wp.ret ⟨trivial, _, rfl, ?_⟩
      simp only [go_sem, reduceIte, Nat.reduceEqDiff, Nat.reduceAdd, Bool.false_eq_true, Bool.true_beq, Bool.false_beq, Bool.not_true, Bool.not_false]
      rw [ht]; exact VSub.refl _

theorem sameChanges_p (l : List Ch) (hl : l.length ≤ 4611686018427387904) : PCalls Try.prog 44 [.sl 3 (chs l) .any, .sl 3 (chs l) .any] (.bool true) := by
  refine f44.pcalls0 (by simp) (by simp [allPure, isPure, capPure, chs_pure]) rfl ?_
  unfold c44
  repeat (first
    | (refine Wp.seqItems (its := ?_) (t' := ?_) (h' := ?_) (log := ?_) ?_ ?_; rotate_left 4; (· simp only [go_sem, reduceIte, Nat.reduceEqDiff, Nat.reduceAdd, Bool.false_eq_true, Bool.true_beq, Bool.false_beq, Bool.not_true, Bool.not_false, and_self, true_and, and_true, if_true, if_false, true_or, or_true, Nat.zero_mul, Nat.one_mul, Nat.zero_le, Nat.reduceMul, Nat.reduceLeDiff, decide_true, decide_false, Int.toNat_natCast, List.length_append, List.filter_cons, List.filter_nil, ne_eq, not_true_eq_false, not_false_eq_true, chs_length]; exact rfl))
    | (refine Wp.items (its := ?_) (t' := ?_) (h' := ?_) (log := ?_) ?_ ?_; rotate_left 4; (· simp only [go_sem, reduceIte, Nat.reduceEqDiff, Nat.reduceAdd, Bool.false_eq_true, Bool.true_beq, Bool.false_beq, Bool.not_true, Bool.not_false, and_self, true_and, and_true, if_true, if_false, true_or, or_true, Nat.zero_mul, Nat.one_mul, Nat.zero_le, Nat.reduceMul, Nat.reduceLeDiff, decide_true, decide_false, Int.toNat_natCast, List.length_append, List.filter_cons, List.filter_nil, ne_eq, not_true_eq_false, not_false_eq_true, chs_length]; exact rfl))
    | (refine WpItems.nil ⟨?_, ?_⟩; (· first | trivial | simp [pairsQ, pairsOk, apart, ent0]))
    | (refine Wp.cond_true ?_ ?_; (· simp only [go_sem, reduceIte, Nat.reduceEqDiff, Nat.reduceAdd, Bool.false_eq_true, Bool.true_beq, Bool.false_beq, Bool.not_true, Bool.not_false, and_self, true_and, and_true, if_true, if_false, true_or, or_true, Nat.zero_mul, Nat.one_mul, Nat.zero_le, Nat.reduceMul, Nat.reduceLeDiff, decide_true, decide_false, Int.toNat_natCast, List.length_append, List.filter_cons, List.filter_nil, ne_eq, not_true_eq_false, not_false_eq_true, chs_length]))
    | (refine Wp.cond_false ?_ ?_; (· simp only [go_sem, reduceIte, Nat.reduceEqDiff, Nat.reduceAdd, Bool.false_eq_true, Bool.true_beq, Bool.false_beq, Bool.not_true, Bool.not_false, and_self, true_and, and_true, if_true, if_false, true_or, or_true, Nat.zero_mul, Nat.one_mul, Nat.zero_le, Nat.reduceMul, Nat.reduceLeDiff, decide_true, decide_false, Int.toNat_natCast, List.length_append, List.filter_cons, List.filter_nil, ne_eq, not_true_eq_false, not_false_eq_true, chs_length]))
    | refine Wp.skip ?_
    | refine Wp.label ?_
    | refine Wp.block ?_
    | refine Wp.exit ?_
    | refine Wp.seq ?_)
  refine Wp.loopK [0, 1] (by simp only [go_sem, reduceIte, Nat.reduceEqDiff, Nat.reduceAdd, Bool.false_eq_true, Bool.true_beq, Bool.false_beq, Bool.not_true, Bool.not_false, List.map]; exact rfl) (fun j : Nat => [(5, .int .i64 j)]) (fun j => j ≤ l.length) (fun j => l.length - j) 0 (Nat.zero_le _) ?_ ?_
  · simp only [AllSub, go_sem, reduceIte, Nat.reduceEqDiff, Nat.reduceAdd, Bool.false_eq_true, Bool.true_beq, Bool.false_beq, Bool.not_true, Bool.not_false]; and_intros <;> first | exact trivial | exact VSub.refl _ | exact VSub.any _ | (refine VSub.int ?_; omega)
  · intro j hj
    by_cases hc : j < l.length
    · have d1 : decide ((j : Int) < (l.length : Int)) = true := decide_eq_true (by omega)
      have h2 : (0 : Int) ≤ (j : Int) := by omega
      have h3 : (j : Int) < (l.length : Int) := by omega
      have e1 : IntKind.i64.wrap ((j : Int) + 1) = ((j + 1 : Nat) : Int) := by rw [IntWalk.i64_in _ (by omega)]; omega
      repeat (first
        | (refine Wp.seqItems (its := ?_) (t' := ?_) (h' := ?_) (log := ?_) ?_ ?_; rotate_left 4; (· simp only [go_sem, reduceIte, Nat.reduceEqDiff, Nat.reduceAdd, Bool.false_eq_true, Bool.true_beq, Bool.false_beq, Bool.not_true, Bool.not_false, and_self, true_and, and_true, if_true, if_false, true_or, or_true, Nat.zero_mul, Nat.one_mul, Nat.zero_le, Nat.reduceMul, Nat.reduceLeDiff, decide_true, decide_false, Int.toNat_natCast, List.length_append, List.filter_cons, List.filter_nil, ne_eq, not_true_eq_false, not_false_eq_true, chs_length, d1, e1, h2, h3, Int.toNat_natCast, chs_getD _ _ _ hc, encCh, beq_self_eq_true, Bool.and_self, Option.map_some]; exact rfl))
        | (refine Wp.items (its := ?_) (t' := ?_) (h' := ?_) (log := ?_) ?_ ?_; rotate_left 4; (· simp only [go_sem, reduceIte, Nat.reduceEqDiff, Nat.reduceAdd, Bool.false_eq_true, Bool.true_beq, Bool.false_beq, Bool.not_true, Bool.not_false, and_self, true_and, and_true, if_true, if_false, true_or, or_true, Nat.zero_mul, Nat.one_mul, Nat.zero_le, Nat.reduceMul, Nat.reduceLeDiff, decide_true, decide_false, Int.toNat_natCast, List.length_append, List.filter_cons, List.filter_nil, ne_eq, not_true_eq_false, not_false_eq_true, chs_length, d1, e1, h2, h3, Int.toNat_natCast, chs_getD _ _ _ hc, encCh, beq_self_eq_true, Bool.and_self, Option.map_some]; exact rfl))
        | (refine WpItems.nil ⟨?_, ?_⟩; (· first | trivial | simp [pairsQ, pairsOk, apart, ent0]))
        | (refine Wp.cond_true ?_ ?_; (· simp only [go_sem, reduceIte, Nat.reduceEqDiff, Nat.reduceAdd, Bool.false_eq_true, Bool.true_beq, Bool.false_beq, Bool.not_true, Bool.not_false, and_self, true_and, and_true, if_true, if_false, true_or, or_true, Nat.zero_mul, Nat.one_mul, Nat.zero_le, Nat.reduceMul, Nat.reduceLeDiff, decide_true, decide_false, Int.toNat_natCast, List.length_append, List.filter_cons, List.filter_nil, ne_eq, not_true_eq_false, not_false_eq_true, chs_length, d1, e1, h2, h3, Int.toNat_natCast, chs_getD _ _ _ hc, encCh, beq_self_eq_true, Bool.and_self, Option.map_some]))
        | (refine Wp.cond_false ?_ ?_; (· simp only [go_sem, reduceIte, Nat.reduceEqDiff, Nat.reduceAdd, Bool.false_eq_true, Bool.true_beq, Bool.false_beq, Bool.not_true, Bool.not_false, and_self, true_and, and_true, if_true, if_false, true_or, or_true, Nat.zero_mul, Nat.one_mul, Nat.zero_le, Nat.reduceMul, Nat.reduceLeDiff, decide_true, decide_false, Int.toNat_natCast, List.length_append, List.filter_cons, List.filter_nil, ne_eq, not_true_eq_false, not_false_eq_true, chs_length, d1, e1, h2, h3, Int.toNat_natCast, chs_getD _ _ _ hc, encCh, beq_self_eq_true, Bool.and_self, Option.map_some]))
        | refine Wp.skip ?_
        | refine Wp.label ?_
        | refine Wp.block ?_
        | refine Wp.exit ?_
        | refine Wp.seq ?_)
      refine ⟨j + 1, by omega, by omega, ?_⟩
      refine StLe.tm (by simp only [AllSub, go_sem, reduceIte, Nat.reduceEqDiff, Nat.reduceAdd, Bool.false_eq_true, Bool.true_beq, Bool.false_beq, Bool.not_true, Bool.not_false]; and_intros <;> first | exact trivial | exact VSub.refl _ | exact VSub.any _ | (refine VSub.int ?_; omega))
    · have d1 : decide ((j : Int) < (l.length : Int)) = false := decide_eq_false (by omega)
      repeat (first
        | (refine Wp.seqItems (its := ?_) (t' := ?_) (h' := ?_) (log := ?_) ?_ ?_; rotate_left 4; (· simp only [go_sem, reduceIte, Nat.reduceEqDiff, Nat.reduceAdd, Bool.false_eq_true, Bool.true_beq, Bool.false_beq, Bool.not_true, Bool.not_false, and_self, true_and, and_true, if_true, if_false, true_or, or_true, Nat.zero_mul, Nat.one_mul, Nat.zero_le, Nat.reduceMul, Nat.reduceLeDiff, decide_true, decide_false, Int.toNat_natCast, List.length_append, List.filter_cons, List.filter_nil, ne_eq, not_true_eq_false, not_false_eq_true, d1, chs_length]; exact rfl))
        | (refine Wp.items (its := ?_) (t' := ?_) (h' := ?_) (log := ?_) ?_ ?_; rotate_left 4; (· simp only [go_sem, reduceIte, Nat.reduceEqDiff, Nat.reduceAdd, Bool.false_eq_true, Bool.true_beq, Bool.false_beq, Bool.not_true, Bool.not_false, and_self, true_and, and_true, if_true, if_false, true_or, or_true, Nat.zero_mul, Nat.one_mul, Nat.zero_le, Nat.reduceMul, Nat.reduceLeDiff, decide_true, decide_false, Int.toNat_natCast, List.length_append, List.filter_cons, List.filter_nil, ne_eq, not_true_eq_false, not_false_eq_true, d1, chs_length]; exact rfl))
        | (refine WpItems.nil ⟨?_, ?_⟩; (· first | trivial | simp [pairsQ, pairsOk, apart, ent0]))
        | (refine Wp.cond_true ?_ ?_; (· simp only [go_sem, reduceIte, Nat.reduceEqDiff, Nat.reduceAdd, Bool.false_eq_true, Bool.true_beq, Bool.false_beq, Bool.not_true, Bool.not_false, and_self, true_and, and_true, if_true, if_false, true_or, or_true, Nat.zero_mul, Nat.one_mul, Nat.zero_le, Nat.reduceMul, Nat.reduceLeDiff, decide_true, decide_false, Int.toNat_natCast, List.length_append, List.filter_cons, List.filter_nil, ne_eq, not_true_eq_false, not_false_eq_true, d1, chs_length]))
        | (refine Wp.cond_false ?_ ?_; (· simp only [go_sem, reduceIte, Nat.reduceEqDiff, Nat.reduceAdd, Bool.false_eq_true, Bool.true_beq, Bool.false_beq, Bool.not_true, Bool.not_false, and_self, true_and, and_true, if_true, if_false, true_or, or_true, Nat.zero_mul, Nat.one_mul, Nat.zero_le, Nat.reduceMul, Nat.reduceLeDiff, decide_true, decide_false, Int.toNat_natCast, List.length_append, List.filter_cons, List.filter_nil, ne_eq, not_true_eq_false, not_false_eq_true, d1, chs_length]))
        | refine Wp.skip ?_
        | refine Wp.label ?_
        | refine Wp.block ?_
        | refine Wp.exit ?_
        | refine Wp.seq ?_)
      refine Wp.ret ⟨trivial, _, rfl, ?_⟩
      simp only [go_sem, reduceIte, Nat.reduceEqDiff, Nat.reduceAdd, Bool.false_eq_true, Bool.true_beq, Bool.false_beq, Bool.not_true, Bool.not_false]
      exact VSub.refl _
end Go.Proofs.Ytlefnohibjcekaa.Batch
