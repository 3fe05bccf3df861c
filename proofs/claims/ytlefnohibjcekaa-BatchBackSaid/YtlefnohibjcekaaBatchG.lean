/- Chapter 15: changes that can be kept, a batch's size; a search over changes. -/
import Derived.Test.YtlefnohibjcekaaBatchB
set_option linter.unusedSimpArgs false
set_option linter.unusedVariables false
set_option maxRecDepth 10000
namespace Go.Proofs.Ytlefnohibjcekaa.Batch
open Go Go.Av Go.Proofs Go.Proofs.Ytlefnohibjcekaa.C

def kept (c : Ch) : Bool := decide (c.k.length ≤ 120) && decide (c.v.length ≤ 199) && (!c.d || decide (c.v = []))

theorem kept_gen {f : FuncId} (hF : FnIs Try.prog f 23 c100 [.tmp 2]) (c : Ch) : PCalls Try.prog f [encCh c] (.bool (kept c)) := by
  refine hF.pcalls0 (by simp) (by simp [allPure, isPure, encCh]) rfl ?_
  unfold c100
  by_cases h1 : c.k.length ≤ 120
  · have d1 : decide ((c.k.length : Int) ≤ 120) = true := decide_eq_true (by omega)
    by_cases h2 : c.v.length ≤ 199
    · have d2 : decide ((c.v.length : Int) ≤ 199) = true := decide_eq_true (by omega)
      cases h3 : c.d with
      | true =>
        repeat (first
          | (refine Wp.seqItems (its := ?_) (t' := ?_) (h' := ?_) (log := ?_) ?_ ?_; rotate_left 4; (· simp only [go_sem, reduceIte, Nat.reduceEqDiff, Nat.reduceAdd, Bool.false_eq_true, Bool.true_beq, Bool.false_beq, Bool.not_true, Bool.not_false, and_self, true_and, and_true, if_true, if_false, true_or, or_true, Nat.zero_mul, Nat.one_mul, Nat.zero_le, Nat.reduceMul, Nat.reduceLeDiff, decide_true, decide_false, Int.toNat_natCast, List.length_append, List.filter_cons, List.filter_nil, ne_eq, not_true_eq_false, not_false_eq_true, encCh, d1, d2, h3]; exact rfl))
          | (refine Wp.items (its := ?_) (t' := ?_) (h' := ?_) (log := ?_) ?_ ?_; rotate_left 4; (· simp only [go_sem, reduceIte, Nat.reduceEqDiff, Nat.reduceAdd, Bool.false_eq_true, Bool.true_beq, Bool.false_beq, Bool.not_true, Bool.not_false, and_self, true_and, and_true, if_true, if_false, true_or, or_true, Nat.zero_mul, Nat.one_mul, Nat.zero_le, Nat.reduceMul, Nat.reduceLeDiff, decide_true, decide_false, Int.toNat_natCast, List.length_append, List.filter_cons, List.filter_nil, ne_eq, not_true_eq_false, not_false_eq_true, encCh, d1, d2, h3]; exact rfl))
          | (refine WpItems.nil ⟨?_, ?_⟩; (· first | trivial | simp [pairsQ, pairsOk, apart, ent0]))
          | (refine Wp.cond_true ?_ ?_; (· simp only [go_sem, reduceIte, Nat.reduceEqDiff, Nat.reduceAdd, Bool.false_eq_true, Bool.true_beq, Bool.false_beq, Bool.not_true, Bool.not_false, and_self, true_and, and_true, if_true, if_false, true_or, or_true, Nat.zero_mul, Nat.one_mul, Nat.zero_le, Nat.reduceMul, Nat.reduceLeDiff, decide_true, decide_false, Int.toNat_natCast, List.length_append, List.filter_cons, List.filter_nil, ne_eq, not_true_eq_false, not_false_eq_true, encCh, d1, d2, h3]))
          | (refine Wp.cond_false ?_ ?_; (· simp only [go_sem, reduceIte, Nat.reduceEqDiff, Nat.reduceAdd, Bool.false_eq_true, Bool.true_beq, Bool.false_beq, Bool.not_true, Bool.not_false, and_self, true_and, and_true, if_true, if_false, true_or, or_true, Nat.zero_mul, Nat.one_mul, Nat.zero_le, Nat.reduceMul, Nat.reduceLeDiff, decide_true, decide_false, Int.toNat_natCast, List.length_append, List.filter_cons, List.filter_nil, ne_eq, not_true_eq_false, not_false_eq_true, encCh, d1, d2, h3]))
          | refine Wp.skip ?_
          | refine Wp.label ?_
          | refine Wp.block ?_
          | refine Wp.exit ?_
          | refine Wp.seq ?_)
        refine Wp.ret ⟨trivial, _, rfl, ?_⟩
        simp only [go_sem, reduceIte, Nat.reduceEqDiff, Nat.reduceAdd, Bool.false_eq_true, Bool.true_beq, Bool.false_beq, Bool.not_true, Bool.not_false]
        simp only [kept, h1, h2, h3, decide_true, Bool.true_and, Bool.not_true, Bool.false_or]
        exact VSub.refl _
      | false =>
        repeat (first
          | (refine Wp.seqItems (its := ?_) (t' := ?_) (h' := ?_) (log := ?_) ?_ ?_; rotate_left 4; (· simp only [go_sem, reduceIte, Nat.reduceEqDiff, Nat.reduceAdd, Bool.false_eq_true, Bool.true_beq, Bool.false_beq, Bool.not_true, Bool.not_false, and_self, true_and, and_true, if_true, if_false, true_or, or_true, Nat.zero_mul, Nat.one_mul, Nat.zero_le, Nat.reduceMul, Nat.reduceLeDiff, decide_true, decide_false, Int.toNat_natCast, List.length_append, List.filter_cons, List.filter_nil, ne_eq, not_true_eq_false, not_false_eq_true, encCh, d1, d2, h3]; exact rfl))
          | (refine Wp.items (its := ?_) (t' := ?_) (h' := ?_) (log := ?_) ?_ ?_; rotate_left 4; (· simp only [go_sem, reduceIte, Nat.reduceEqDiff, Nat.reduceAdd, Bool.false_eq_true, Bool.true_beq, Bool.false_beq, Bool.not_true, Bool.not_false, and_self, true_and, and_true, if_true, if_false, true_or, or_true, Nat.zero_mul, Nat.one_mul, Nat.zero_le, Nat.reduceMul, Nat.reduceLeDiff, decide_true, decide_false, Int.toNat_natCast, List.length_append, List.filter_cons, List.filter_nil, ne_eq, not_true_eq_false, not_false_eq_true, encCh, d1, d2, h3]; exact rfl))
          | (refine WpItems.nil ⟨?_, ?_⟩; (· first | trivial | simp [pairsQ, pairsOk, apart, ent0]))
          | (refine Wp.cond_true ?_ ?_; (· simp only [go_sem, reduceIte, Nat.reduceEqDiff, Nat.reduceAdd, Bool.false_eq_true, Bool.true_beq, Bool.false_beq, Bool.not_true, Bool.not_false, and_self, true_and, and_true, if_true, if_false, true_or, or_true, Nat.zero_mul, Nat.one_mul, Nat.zero_le, Nat.reduceMul, Nat.reduceLeDiff, decide_true, decide_false, Int.toNat_natCast, List.length_append, List.filter_cons, List.filter_nil, ne_eq, not_true_eq_false, not_false_eq_true, encCh, d1, d2, h3]))
          | (refine Wp.cond_false ?_ ?_; (· simp only [go_sem, reduceIte, Nat.reduceEqDiff, Nat.reduceAdd, Bool.false_eq_true, Bool.true_beq, Bool.false_beq, Bool.not_true, Bool.not_false, and_self, true_and, and_true, if_true, if_false, true_or, or_true, Nat.zero_mul, Nat.one_mul, Nat.zero_le, Nat.reduceMul, Nat.reduceLeDiff, decide_true, decide_false, Int.toNat_natCast, List.length_append, List.filter_cons, List.filter_nil, ne_eq, not_true_eq_false, not_false_eq_true, encCh, d1, d2, h3]))
          | refine Wp.skip ?_
          | refine Wp.label ?_
          | refine Wp.block ?_
          | refine Wp.exit ?_
          | refine Wp.seq ?_)
        refine Wp.ret ⟨trivial, _, rfl, ?_⟩
        simp only [go_sem, reduceIte, Nat.reduceEqDiff, Nat.reduceAdd, Bool.false_eq_true, Bool.true_beq, Bool.false_beq, Bool.not_true, Bool.not_false]
        simp only [kept, h1, h2, h3, decide_true, Bool.true_and, Bool.not_false, Bool.true_or]
        exact VSub.refl _
    · have d2 : decide ((c.v.length : Int) ≤ 199) = false := decide_eq_false (by omega)
      repeat (first
        | (refine Wp.seqItems (its := ?_) (t' := ?_) (h' := ?_) (log := ?_) ?_ ?_; rotate_left 4; (· simp only [go_sem, reduceIte, Nat.reduceEqDiff, Nat.reduceAdd, Bool.false_eq_true, Bool.true_beq, Bool.false_beq, Bool.not_true, Bool.not_false, and_self, true_and, and_true, if_true, if_false, true_or, or_true, Nat.zero_mul, Nat.one_mul, Nat.zero_le, Nat.reduceMul, Nat.reduceLeDiff, decide_true, decide_false, Int.toNat_natCast, List.length_append, List.filter_cons, List.filter_nil, ne_eq, not_true_eq_false, not_false_eq_true, encCh, d1, d2]; exact rfl))
        | (refine Wp.items (its := ?_) (t' := ?_) (h' := ?_) (log := ?_) ?_ ?_; rotate_left 4; (· simp only [go_sem, reduceIte, Nat.reduceEqDiff, Nat.reduceAdd, Bool.false_eq_true, Bool.true_beq, Bool.false_beq, Bool.not_true, Bool.not_false, and_self, true_and, and_true, if_true, if_false, true_or, or_true, Nat.zero_mul, Nat.one_mul, Nat.zero_le, Nat.reduceMul, Nat.reduceLeDiff, decide_true, decide_false, Int.toNat_natCast, List.length_append, List.filter_cons, List.filter_nil, ne_eq, not_true_eq_false, not_false_eq_true, encCh, d1, d2]; exact rfl))
        | (refine WpItems.nil ⟨?_, ?_⟩; (· first | trivial | simp [pairsQ, pairsOk, apart, ent0]))
        | (refine Wp.cond_true ?_ ?_; (· simp only [go_sem, reduceIte, Nat.reduceEqDiff, Nat.reduceAdd, Bool.false_eq_true, Bool.true_beq, Bool.false_beq, Bool.not_true, Bool.not_false, and_self, true_and, and_true, if_true, if_false, true_or, or_true, Nat.zero_mul, Nat.one_mul, Nat.zero_le, Nat.reduceMul, Nat.reduceLeDiff, decide_true, decide_false, Int.toNat_natCast, List.length_append, List.filter_cons, List.filter_nil, ne_eq, not_true_eq_false, not_false_eq_true, encCh, d1, d2]))
        | (refine Wp.cond_false ?_ ?_; (· simp only [go_sem, reduceIte, Nat.reduceEqDiff, Nat.reduceAdd, Bool.false_eq_true, Bool.true_beq, Bool.false_beq, Bool.not_true, Bool.not_false, and_self, true_and, and_true, if_true, if_false, true_or, or_true, Nat.zero_mul, Nat.one_mul, Nat.zero_le, Nat.reduceMul, Nat.reduceLeDiff, decide_true, decide_false, Int.toNat_natCast, List.length_append, List.filter_cons, List.filter_nil, ne_eq, not_true_eq_false, not_false_eq_true, encCh, d1, d2]))
        | refine Wp.skip ?_
        | refine Wp.label ?_
        | refine Wp.block ?_
        | refine Wp.exit ?_
        | refine Wp.seq ?_)
      refine Wp.ret ⟨trivial, _, rfl, ?_⟩
      simp only [go_sem, reduceIte, Nat.reduceEqDiff, Nat.reduceAdd, Bool.false_eq_true, Bool.true_beq, Bool.false_beq, Bool.not_true, Bool.not_false]
      simp only [kept, h1, decide_eq_false h2, decide_true, Bool.true_and, Bool.false_and]
      exact VSub.refl _
  · have d1 : decide ((c.k.length : Int) ≤ 120) = false := decide_eq_false (by omega)
    repeat (first
      | (refine Wp.seqItems (its := ?_) (t' := ?_) (h' := ?_) (log := ?_) ?_ ?_; rotate_left 4; (· simp only [go_sem, reduceIte, Nat.reduceEqDiff, Nat.reduceAdd, Bool.false_eq_true, Bool.true_beq, Bool.false_beq, Bool.not_true, Bool.not_false, and_self, true_and, and_true, if_true, if_false, true_or, or_true, Nat.zero_mul, Nat.one_mul, Nat.zero_le, Nat.reduceMul, Nat.reduceLeDiff, decide_true, decide_false, Int.toNat_natCast, List.length_append, List.filter_cons, List.filter_nil, ne_eq, not_true_eq_false, not_false_eq_true, encCh, d1]; exact rfl))
      | (refine Wp.items (its := ?_) (t' := ?_) (h' := ?_) (log := ?_) ?_ ?_; rotate_left 4; (· simp only [go_sem, reduceIte, Nat.reduceEqDiff, Nat.reduceAdd, Bool.false_eq_true, Bool.true_beq, Bool.false_beq, Bool.not_true, Bool.not_false, and_self, true_and, and_true, if_true, if_false, true_or, or_true, Nat.zero_mul, Nat.one_mul, Nat.zero_le, Nat.reduceMul, Nat.reduceLeDiff, decide_true, decide_false, Int.toNat_natCast, List.length_append, List.filter_cons, List.filter_nil, ne_eq, not_true_eq_false, not_false_eq_true, encCh, d1]; exact rfl))
      | (refine WpItems.nil ⟨?_, ?_⟩; (· first | trivial | simp [pairsQ, pairsOk, apart, ent0]))
      | (refine Wp.cond_true ?_ ?_; (· simp only [go_sem, reduceIte, Nat.reduceEqDiff, Nat.reduceAdd, Bool.false_eq_true, Bool.true_beq, Bool.false_beq, Bool.not_true, Bool.not_false, and_self, true_and, and_true, if_true, if_false, true_or, or_true, Nat.zero_mul, Nat.one_mul, Nat.zero_le, Nat.reduceMul, Nat.reduceLeDiff, decide_true, decide_false, Int.toNat_natCast, List.length_append, List.filter_cons, List.filter_nil, ne_eq, not_true_eq_false, not_false_eq_true, encCh, d1]))
      | (refine Wp.cond_false ?_ ?_; (· simp only [go_sem, reduceIte, Nat.reduceEqDiff, Nat.reduceAdd, Bool.false_eq_true, Bool.true_beq, Bool.false_beq, Bool.not_true, Bool.not_false, and_self, true_and, and_true, if_true, if_false, true_or, or_true, Nat.zero_mul, Nat.one_mul, Nat.zero_le, Nat.reduceMul, Nat.reduceLeDiff, decide_true, decide_false, Int.toNat_natCast, List.length_append, List.filter_cons, List.filter_nil, ne_eq, not_true_eq_false, not_false_eq_true, encCh, d1]))
      | refine Wp.skip ?_
      | refine Wp.label ?_
      | refine Wp.block ?_
      | refine Wp.exit ?_
      | refine Wp.seq ?_)
    refine Wp.ret ⟨trivial, _, rfl, ?_⟩
    simp only [go_sem, reduceIte, Nat.reduceEqDiff, Nat.reduceAdd, Bool.false_eq_true, Bool.true_beq, Bool.false_beq, Bool.not_true, Bool.not_false]
    simp only [kept, decide_eq_false h1, Bool.false_and]
    exact VSub.refl _
theorem kept_p (c : Ch) : PCalls Try.prog 100 [encCh c] (.bool (kept c)) := kept_gen f100 c
theorem keptR_p (c : Ch) : PCalls Try.prog 142 [encCh c] (.bool (kept c)) := kept_gen f142 c

def csize (c : Ch) : Nat := 3 + c.k.length + c.v.length
def sizes (l : List Ch) : Nat := (l.map csize).sum
def bsize (l : List Ch) : Nat := 10 + sizes l
theorem sizes_snoc (l : List Ch) (k : Nat) (h : k < l.length) : sizes (l.take (k + 1)) = sizes (l.take k) + csize (l.getD k default) := by
  rw [List.take_succ_eq_append_getElem h, List.getD_eq_getElem?_getD, List.getElem?_eq_getElem h]
  simp only [sizes, List.map_append, List.map_cons, List.map_nil, List.sum_append, List.sum_cons, List.sum_nil, Nat.add_zero, Option.getD_some]
theorem sizes_take (l : List Ch) (k : Nat) : sizes (l.take k) ≤ sizes l := by
  have : l = l.take k ++ l.drop k := by simp
  conv => rhs; rw [this]
  simp only [sizes, List.map_append, List.sum_append]; omega

def encBatch (t : Int) (l : List Ch) : AV := .agg [.int .i64 t, .sl 3 (chs l) .any]
theorem encBatch_pure (t : Int) (l : List Ch) : isPure (encBatch t l) = true := by simp [encBatch, isPure, allPure, capPure, chs_pure]

theorem size_p (t : Int) (l : List Ch) (hl : l.length ≤ 1000000) (hs : sizes l ≤ 1099511627776) : PCalls Try.prog 101 [encBatch t l] (.int .i64 (bsize l)) := by
  refine f101.pcalls0 (by simp) (by simp [allPure, encBatch_pure]) rfl ?_
  unfold c101
  repeat (first
    | (refine Wp.seqItems (its := ?_) (t' := ?_) (h' := ?_) (log := ?_) ?_ ?_; rotate_left 4; (· simp only [go_sem, reduceIte, Nat.reduceEqDiff, Nat.reduceAdd, Bool.false_eq_true, Bool.true_beq, Bool.false_beq, Bool.not_true, Bool.not_false, and_self, true_and, and_true, if_true, if_false, true_or, or_true, Nat.zero_mul, Nat.one_mul, Nat.zero_le, Nat.reduceMul, Nat.reduceLeDiff, decide_true, decide_false, Int.toNat_natCast, List.length_append, List.filter_cons, List.filter_nil, ne_eq, not_true_eq_false, not_false_eq_true, encBatch, chs_length]; exact rfl))
    | (refine Wp.items (its := ?_) (t' := ?_) (h' := ?_) (log := ?_) ?_ ?_; rotate_left 4; (· simp only [go_sem, reduceIte, Nat.reduceEqDiff, Nat.reduceAdd, Bool.false_eq_true, Bool.true_beq, Bool.false_beq, Bool.not_true, Bool.not_false, and_self, true_and, and_true, if_true, if_false, true_or, or_true, Nat.zero_mul, Nat.one_mul, Nat.zero_le, Nat.reduceMul, Nat.reduceLeDiff, decide_true, decide_false, Int.toNat_natCast, List.length_append, List.filter_cons, List.filter_nil, ne_eq, not_true_eq_false, not_false_eq_true, encBatch, chs_length]; exact rfl))
    | (refine WpItems.nil ⟨?_, ?_⟩; (· first | trivial | simp [pairsQ, pairsOk, apart, ent0]))
    | (refine Wp.cond_true ?_ ?_; (· simp only [go_sem, reduceIte, Nat.reduceEqDiff, Nat.reduceAdd, Bool.false_eq_true, Bool.true_beq, Bool.false_beq, Bool.not_true, Bool.not_false, and_self, true_and, and_true, if_true, if_false, true_or, or_true, Nat.zero_mul, Nat.one_mul, Nat.zero_le, Nat.reduceMul, Nat.reduceLeDiff, decide_true, decide_false, Int.toNat_natCast, List.length_append, List.filter_cons, List.filter_nil, ne_eq, not_true_eq_false, not_false_eq_true, encBatch, chs_length]))
    | (refine Wp.cond_false ?_ ?_; (· simp only [go_sem, reduceIte, Nat.reduceEqDiff, Nat.reduceAdd, Bool.false_eq_true, Bool.true_beq, Bool.false_beq, Bool.not_true, Bool.not_false, and_self, true_and, and_true, if_true, if_false, true_or, or_true, Nat.zero_mul, Nat.one_mul, Nat.zero_le, Nat.reduceMul, Nat.reduceLeDiff, decide_true, decide_false, Int.toNat_natCast, List.length_append, List.filter_cons, List.filter_nil, ne_eq, not_true_eq_false, not_false_eq_true, encBatch, chs_length]))
    | refine Wp.skip ?_
    | refine Wp.label ?_
    | refine Wp.block ?_
    | refine Wp.exit ?_
    | refine Wp.seq ?_)
  refine Wp.loopN [7, 8] (by simp only [go_sem, reduceIte, Nat.reduceEqDiff, List.map, chs_length]; exact rfl) (fun j : Nat => [(3, .int .i64 (10 + sizes (l.take j) : Nat)), (9, .int .i64 j)]) (fun j => j ≤ l.length) (fun j => l.length - j) 0 (Nat.zero_le _) ?_ ?_
  · simp only [AllSub, go_sem, reduceIte, Nat.reduceEqDiff, Nat.reduceAdd, Bool.false_eq_true, Bool.true_beq, Bool.false_beq, Bool.not_true, Bool.not_false]; and_intros <;> first | exact trivial | exact VSub.refl _ | exact VSub.any _ | exact VSub.of_eq (by simp [sizes]) | (refine VSub.int ?_; omega)
  · intro j n hn hj
    have h2 : (0 : Int) ≤ (j : Int) := by omega
    by_cases hc : j < l.length
    · have d1 : decide ((j : Int) < (l.length : Int)) = true := decide_eq_true (by omega)
      have h3 : (j : Int) < (l.length : Int) := by omega
      have s1 := sizes_snoc l j hc
      have s2 := sizes_take l (j + 1)
      have s3 : csize (l.getD j default) = 3 + (l.getD j default).k.length + (l.getD j default).v.length := rfl
      have e1 : IntKind.i64.wrap ((j : Int) + 1) = ((j + 1 : Nat) : Int) := by rw [IntWalk.i64_in _ (by omega)]; omega
      have e2 : IntKind.i64.wrap (3 + ((l.getD j default).k.length : Int)) = ((3 + (l.getD j default).k.length : Nat) : Int) := by rw [IntWalk.i64_in _ (by omega)]; omega
      have e3 : IntKind.i64.wrap (((3 + (l.getD j default).k.length : Nat) : Int) + ((l.getD j default).v.length : Int)) = ((3 + (l.getD j default).k.length + (l.getD j default).v.length : Nat) : Int) := by rw [IntWalk.i64_in _ (by omega)]; omega
      have e4 : IntKind.i64.wrap (((10 + sizes (l.take j) : Nat) : Int) + ((3 + (l.getD j default).k.length + (l.getD j default).v.length : Nat) : Int)) = ((10 + sizes (l.take (j + 1)) : Nat) : Int) := by rw [IntWalk.i64_in _ (by omega)]; omega
      have n0 : ¬ (0 = n) := by have : 1 ≤ n := hn; omega
      have n1 : ¬ (n = 0) := by omega
      repeat (first
        | (refine Wp.seqItems (its := ?_) (t' := ?_) (h' := ?_) (log := ?_) ?_ ?_; rotate_left 4; (· simp only [go_sem, reduceIte, Nat.reduceEqDiff, Nat.reduceAdd, Bool.false_eq_true, Bool.true_beq, Bool.false_beq, Bool.not_true, Bool.not_false, and_self, true_and, and_true, if_true, if_false, true_or, or_true, Nat.zero_mul, Nat.one_mul, Nat.zero_le, Nat.reduceMul, Nat.reduceLeDiff, decide_true, decide_false, Int.toNat_natCast, List.length_append, List.filter_cons, List.filter_nil, ne_eq, not_true_eq_false, not_false_eq_true, chs_length, d1, h2, h3, e1, e2, e3, e4, n0, n1, Int.toNat_natCast, chs_getD _ _ _ hc, encCh]; exact rfl))
        | (refine Wp.items (its := ?_) (t' := ?_) (h' := ?_) (log := ?_) ?_ ?_; rotate_left 4; (· simp only [go_sem, reduceIte, Nat.reduceEqDiff, Nat.reduceAdd, Bool.false_eq_true, Bool.true_beq, Bool.false_beq, Bool.not_true, Bool.not_false, and_self, true_and, and_true, if_true, if_false, true_or, or_true, Nat.zero_mul, Nat.one_mul, Nat.zero_le, Nat.reduceMul, Nat.reduceLeDiff, decide_true, decide_false, Int.toNat_natCast, List.length_append, List.filter_cons, List.filter_nil, ne_eq, not_true_eq_false, not_false_eq_true, chs_length, d1, h2, h3, e1, e2, e3, e4, n0, n1, Int.toNat_natCast, chs_getD _ _ _ hc, encCh]; exact rfl))
        | (refine WpItems.nil ⟨?_, ?_⟩; (· first | trivial | simp [pairsQ, pairsOk, apart, ent0]))
        | (refine Wp.cond_true ?_ ?_; (· simp only [go_sem, reduceIte, Nat.reduceEqDiff, Nat.reduceAdd, Bool.false_eq_true, Bool.true_beq, Bool.false_beq, Bool.not_true, Bool.not_false, and_self, true_and, and_true, if_true, if_false, true_or, or_true, Nat.zero_mul, Nat.one_mul, Nat.zero_le, Nat.reduceMul, Nat.reduceLeDiff, decide_true, decide_false, Int.toNat_natCast, List.length_append, List.filter_cons, List.filter_nil, ne_eq, not_true_eq_false, not_false_eq_true, chs_length, d1, h2, h3, e1, e2, e3, e4, n0, n1, Int.toNat_natCast, chs_getD _ _ _ hc, encCh]))
        | (refine Wp.cond_false ?_ ?_; (· simp only [go_sem, reduceIte, Nat.reduceEqDiff, Nat.reduceAdd, Bool.false_eq_true, Bool.true_beq, Bool.false_beq, Bool.not_true, Bool.not_false, and_self, true_and, and_true, if_true, if_false, true_or, or_true, Nat.zero_mul, Nat.one_mul, Nat.zero_le, Nat.reduceMul, Nat.reduceLeDiff, decide_true, decide_false, Int.toNat_natCast, List.length_append, List.filter_cons, List.filter_nil, ne_eq, not_true_eq_false, not_false_eq_true, chs_length, d1, h2, h3, e1, e2, e3, e4, n0, n1, Int.toNat_natCast, chs_getD _ _ _ hc, encCh]))
        | refine Wp.skip ?_
        | refine Wp.label ?_
        | refine Wp.block ?_
        | refine Wp.exit ?_
        | refine Wp.seq ?_)
      refine ⟨j + 1, n + 1, by have : 1 ≤ n := hn; show 1 ≤ n + 1; omega, by omega, by omega, ?_⟩
      refine StLe.tmN (by omega) (OLe.at (by simp [upd, none', n0, n1])) (by simp only [AllSub, go_sem, reduceIte, Nat.reduceEqDiff, Nat.reduceAdd, Bool.false_eq_true, Bool.true_beq, Bool.false_beq, Bool.not_true, Bool.not_false, n0, n1]; and_intros <;> first | exact trivial | exact VSub.refl _ | exact VSub.any _ | (refine VSub.int ?_; omega))
    · obtain rfl : j = l.length := by omega
      have d1 : decide ((l.length : Int) < (l.length : Int)) = false := decide_eq_false (by omega)
      repeat (first
        | (refine Wp.seqItems (its := ?_) (t' := ?_) (h' := ?_) (log := ?_) ?_ ?_; rotate_left 4; (· simp only [go_sem, reduceIte, Nat.reduceEqDiff, Nat.reduceAdd, Bool.false_eq_true, Bool.true_beq, Bool.false_beq, Bool.not_true, Bool.not_false, and_self, true_and, and_true, if_true, if_false, true_or, or_true, Nat.zero_mul, Nat.one_mul, Nat.zero_le, Nat.reduceMul, Nat.reduceLeDiff, decide_true, decide_false, Int.toNat_natCast, List.length_append, List.filter_cons, List.filter_nil, ne_eq, not_true_eq_false, not_false_eq_true, d1, List.take_length]; exact rfl))
        | (refine Wp.items (its := ?_) (t' := ?_) (h' := ?_) (log := ?_) ?_ ?_; rotate_left 4; (· simp only [go_sem, reduceIte, Nat.reduceEqDiff, Nat.reduceAdd, Bool.false_eq_true, Bool.true_beq, Bool.false_beq, Bool.not_true, Bool.not_false, and_self, true_and, and_true, if_true, if_false, true_or, or_true, Nat.zero_mul, Nat.one_mul, Nat.zero_le, Nat.reduceMul, Nat.reduceLeDiff, decide_true, decide_false, Int.toNat_natCast, List.length_append, List.filter_cons, List.filter_nil, ne_eq, not_true_eq_false, not_false_eq_true, d1, List.take_length]; exact rfl))
        | (refine WpItems.nil ⟨?_, ?_⟩; (· first | trivial | simp [pairsQ, pairsOk, apart, ent0]))
        | (refine Wp.cond_true ?_ ?_; (· simp only [go_sem, reduceIte, Nat.reduceEqDiff, Nat.reduceAdd, Bool.false_eq_true, Bool.true_beq, Bool.false_beq, Bool.not_true, Bool.not_false, and_self, true_and, and_true, if_true, if_false, true_or, or_true, Nat.zero_mul, Nat.one_mul, Nat.zero_le, Nat.reduceMul, Nat.reduceLeDiff, decide_true, decide_false, Int.toNat_natCast, List.length_append, List.filter_cons, List.filter_nil, ne_eq, not_true_eq_false, not_false_eq_true, d1, List.take_length]))
        | (refine Wp.cond_false ?_ ?_; (· simp only [go_sem, reduceIte, Nat.reduceEqDiff, Nat.reduceAdd, Bool.false_eq_true, Bool.true_beq, Bool.false_beq, Bool.not_true, Bool.not_false, and_self, true_and, and_true, if_true, if_false, true_or, or_true, Nat.zero_mul, Nat.one_mul, Nat.zero_le, Nat.reduceMul, Nat.reduceLeDiff, decide_true, decide_false, Int.toNat_natCast, List.length_append, List.filter_cons, List.filter_nil, ne_eq, not_true_eq_false, not_false_eq_true, d1, List.take_length]))
        | refine Wp.skip ?_
        | refine Wp.label ?_
        | refine Wp.block ?_
        | refine Wp.exit ?_
        | refine Wp.seq ?_)
      refine Wp.ret ⟨trivial, _, rfl, ?_⟩
      simp only [go_sem, reduceIte, Nat.reduceEqDiff, Nat.reduceAdd, Bool.false_eq_true, Bool.true_beq, Bool.false_beq, Bool.not_true, Bool.not_false]
      exact VSub.refl _

def ix {α : Type} (p : α → Bool) (l : List α) : Int := if l.any p then (l.findIdx p : Nat) else -1
theorem ix_found {α : Type} {p : α → Bool} {l : List α} {j : Nat} (hj : j < l.length) (h : p l[j] = true) (hs : ∀ i (hi : i < l.length), i < j → p l[i] = false) : ix p l = j := by
  have h1 : l.any p = true := List.any_eq_true.2 ⟨l[j], List.getElem_mem hj, h⟩
  have h2 : l.findIdx p = j := (List.findIdx_eq hj).2 ⟨h, fun i hi => hs i (by omega) hi⟩
  simp [ix, h1, h2]
theorem ix_none {α : Type} {p : α → Bool} {l : List α} (hs : ∀ i (hi : i < l.length), p l[i] = false) : ix p l = -1 := by
  have h1 : l.any p = false := by
    rw [List.any_eq_false]
    intro x hx
    obtain ⟨i, hi, rfl⟩ := List.mem_iff_getElem.1 hx
    simp [hs i hi]
  simp [ix, h1]
theorem ix_nonneg {α : Type} {p : α → Bool} {l : List α} : decide (0 ≤ ix p l) = l.any p := by
  unfold ix
  cases l.any p <;> simp

theorem getD_el {α : Type} [Inhabited α] {l : List α} {i : Nat} (h : i < l.length) : l.getD i default = l[i] := by
  rw [List.getD_eq_getElem?_getD, List.getElem?_eq_getElem h]; rfl

theorem indexCh_p (l : List Ch) (hl : l.length ≤ 4611686018427387904) (p : Ch → Bool) {g : FuncId} {fn : Func} (hf : Try.prog.funcs[g]? = some fn) (hb : fn.body.isSome = true) (hn : fn.name ≠ "runtime.NumGoroutine") (caps : List AV) (objs : Nat → Option Av.Obj) (ids : List Nat) (hi : ∀ id, (objs id).isSome → id ∈ ids)
    (hp : ∀ c ∈ l, RCalls Try.prog g (encCh c :: caps) objs (.bool (p c))) :
    RCalls Try.prog 126 [.sl 3 (chs l) .any, .clo (.func g) [] caps] objs (.int .i64 (ix p l)) := by
  refine f126.rcalls (by simp) fun n m => ?_
  unfold c126
  refine Wp.seqReg (by simp only [go_sem, reduceIte, Nat.reduceEqDiff, Nat.reduceAdd, Bool.false_eq_true, Bool.true_beq, Bool.false_beq, Bool.not_true, Bool.not_false]; exact rfl) (by trivial) ?_
  refine Wp.seq ?_
  refine Wp.seqReg (by simp only [go_sem, reduceIte, Nat.reduceEqDiff, Nat.reduceAdd, Bool.false_eq_true, Bool.true_beq, Bool.false_beq, Bool.not_true, Bool.not_false, chs_length]; exact rfl) (by trivial) ?_
  refine Wp.block ?_
  refine Wp.loopK [0, 1, 7] (by simp only [go_sem, reduceIte, Nat.reduceEqDiff, Nat.reduceAdd, Bool.false_eq_true, Bool.true_beq, Bool.false_beq, Bool.not_true, Bool.not_false, List.map]; exact rfl) (fun j : Nat => [(8, .int .i64 j)]) (fun j => j ≤ l.length ∧ ∀ i (hi : i < l.length), i < j → p l[i] = false) (fun j => l.length - j) 0 ⟨Nat.zero_le _, fun i hi h => absurd h (by omega)⟩ ?_ ?_
  · simp only [AllSub, go_sem, reduceIte, Nat.reduceEqDiff, Nat.reduceAdd, Bool.false_eq_true, Bool.true_beq, Bool.false_beq, Bool.not_true, Bool.not_false]; and_intros <;> first | exact trivial | exact VSub.refl _ | exact VSub.any _ | (refine VSub.int ?_; omega)
  · rintro j ⟨hj, hs⟩
    refine Wp.seqReg (by simp only [go_sem, reduceIte, Nat.reduceEqDiff, Nat.reduceAdd, Bool.false_eq_true, Bool.true_beq, Bool.false_beq, Bool.not_true, Bool.not_false]; exact rfl) (by trivial) ?_
    refine Wp.seq ?_
    refine Wp.cond_split (b := decide ((j : Int) < (l.length : Int))) (by simp only [go_sem, reduceIte, Nat.reduceEqDiff, Nat.reduceAdd, Bool.false_eq_true, Bool.true_beq, Bool.false_beq, Bool.not_true, Bool.not_false]) (fun hc => ?_) (fun hc => ?_)
    · have h1 : (0 : Int) ≤ (j : Int) := by omega
      have h2 : (j : Int) < (l.length : Int) := by simpa using hc
      have h3 : j < l.length := by omega
      have hq := hp _ (List.getElem_mem h3)
      rw [← getD_el h3] at hq
      refine Wp.skip ?_
      refine Wp.seq ?_
      refine Wp.block ?_
      refine Wp.seqReg (by simp only [go_sem, reduceIte, Nat.reduceEqDiff, Nat.reduceAdd, Bool.false_eq_true, Bool.true_beq, Bool.false_beq, Bool.not_true, Bool.not_false]; exact rfl) (by trivial) ?_
      refine Wp.seqItems (by simp only [go_sem, reduceIte, Nat.reduceEqDiff, Nat.reduceAdd, Bool.false_eq_true, Bool.true_beq, Bool.false_beq, Bool.not_true, Bool.not_false, chs_length, h1, h2, and_self, if_true, Int.toNat_natCast, chs_getD _ _ _ h3, encCh]; exact rfl) ?_
      refine WpItems.rcallv ids (by simp only [go_sem]) (by simp only [go_sem, reduceIte, Nat.reduceEqDiff]; exact rfl) hf hb hn (by simp only [go_sem, reduceIte, Nat.reduceEqDiff, List.map]; exact VSubs.refl _) (fun id o h => h) hi hq ?_
      refine WpItems.eval (by simp only [go_sem, reduceIte, Nat.reduceEqDiff, Nat.reduceAdd, Bool.false_eq_true, Bool.true_beq, Bool.false_beq, Bool.not_true, Bool.not_false]; exact rfl) ?_
      refine WpItems.nil ⟨by trivial, ?_⟩
      rw [getD_el h3]
      refine Wp.cond_split (b := p l[j]) (by simp only [go_sem, reduceIte, Nat.reduceEqDiff, Nat.reduceAdd, Bool.false_eq_true, Bool.true_beq, Bool.false_beq, Bool.not_true, Bool.not_false]) (fun hd => ?_) (fun hd => ?_)
      · refine Wp.seqReg (by simp only [go_sem, reduceIte, Nat.reduceEqDiff, Nat.reduceAdd, Bool.false_eq_true, Bool.true_beq, Bool.false_beq, Bool.not_true, Bool.not_false]; exact rfl) (by trivial) ?_
        refine Wp.ret ⟨trivial, _, rfl, ?_, rfl⟩
        simp only [go_sem, reduceIte, Nat.reduceEqDiff]
        rw [ix_found h3 hd hs]
      · refine Wp.skip ?_
        refine Wp.reg1 (by simp only [go_sem, reduceIte, Nat.reduceEqDiff, Nat.reduceAdd, Bool.false_eq_true, Bool.true_beq, Bool.false_beq, Bool.not_true, Bool.not_false]; simp (disch := omega) only [IntWalk.i64_in]; exact rfl) (by trivial) ?_
        refine ⟨j + 1, ⟨by omega, fun i hi h => ?_⟩, by omega, ?_⟩
        · by_cases he : i = j
          · subst he; exact hd
          · exact hs i hi (by omega)
        · refine StLe.tm (by simp only [AllSub, go_sem, reduceIte, Nat.reduceEqDiff, Nat.reduceAdd, Bool.false_eq_true, Bool.true_beq, Bool.false_beq, Bool.not_true, Bool.not_false]; and_intros <;> first | exact trivial | exact VSub.refl _ | exact VSub.any _ | (refine VSub.int ?_; omega))
    · have : ¬ (j : Int) < (l.length : Int) := by simpa using hc
      refine Wp.exit ?_
      refine Wp.seqReg (by simp only [go_sem, reduceIte, Nat.reduceEqDiff, Nat.reduceAdd, Bool.false_eq_true, Bool.true_beq, Bool.false_beq, Bool.not_true, Bool.not_false]; exact rfl) (by trivial) ?_
      refine Wp.ret ⟨trivial, _, rfl, ?_, rfl⟩
      simp only [go_sem, reduceIte, Nat.reduceEqDiff]
      rw [ix_none fun i hi => hs i hi (by omega)]

theorem containsCh_p (l : List Ch) (hl : l.length ≤ 4611686018427387904) (p : Ch → Bool) {g : FuncId} {fn : Func} (hf : Try.prog.funcs[g]? = some fn) (hb : fn.body.isSome = true) (hn : fn.name ≠ "runtime.NumGoroutine") (caps : List AV) (objs : Nat → Option Av.Obj) (ids : List Nat) (hi : ∀ id, (objs id).isSome → id ∈ ids)
    (hp : ∀ c ∈ l, RCalls Try.prog g (encCh c :: caps) objs (.bool (p c))) :
    RCalls Try.prog 73 [.sl 3 (chs l) .any, .clo (.func g) [] caps] objs (.bool (l.any p)) := by
  refine f73.rcalls (by simp) fun n m => ?_
  unfold c73
  refine Wp.seqReg (by simp only [go_sem, reduceIte, Nat.reduceEqDiff, Nat.reduceAdd, Bool.false_eq_true, Bool.true_beq, Bool.false_beq, Bool.not_true, Bool.not_false]; exact rfl) (by trivial) ?_
  refine Wp.seqItems (by simp only [go_sem, reduceIte, Nat.reduceEqDiff, Nat.reduceAdd, Bool.false_eq_true, Bool.true_beq, Bool.false_beq, Bool.not_true, Bool.not_false]; exact rfl) ?_
  refine WpItems.rcall ids (by simp only [go_sem]) (by simp only [go_sem, reduceIte, Nat.reduceEqDiff, List.map]; exact VSubs.refl _) (fun id o h => h) hi (indexCh_p l hl p hf hb hn caps objs ids hi hp) ?_
  refine WpItems.eval (by simp only [go_sem, reduceIte, Nat.reduceEqDiff, Nat.reduceAdd, Bool.false_eq_true, Bool.true_beq, Bool.false_beq, Bool.not_true, Bool.not_false]; exact rfl) ?_
  refine WpItems.nil ⟨by trivial, ?_⟩
  refine Wp.ret ⟨trivial, _, rfl, ?_, rfl⟩
  simp only [go_sem, reduceIte, Nat.reduceEqDiff]
  rw [← ix_nonneg]

/-- the test of Check: is it this key? -/
theorem same_p (c x : Ch) (id : Nat) : RCalls Try.prog 99 [encCh x, .ptr id 0] (upd none' id (some (.cells [.str c.k, .str c.v, .bool c.d]))) (.bool (decide (x.k = c.k))) := by
  refine f99.rcalls0 (by simp) (id + 1) (fun j hj => ?_) (fun j o ho => ?_) (fun G w vs h => ?_) rfl ?_
  · simp only [upd, none'] at hj
    split at hj
    · omega
    · cases hj
  · simp only [upd, none'] at ho
    split at ho
    · cases ho; exact ⟨_, rfl, by simp [allPure, isPure]⟩
    · cases ho
  · simp only [VRels] at h ⊢
    obtain ⟨v, us, e1, h1, v2, us2, e2, h2, e3⟩ := h
    refine ⟨v, us, e1, ?_, v2, us2, e2, ?_, e3⟩
    · exact isPure_ok _ (by simp [encCh, isPure, allPure]) G _ w v rfl rfl h1
    · simp only [VRel] at h2 ⊢
      exact ⟨by simp [cutG, upd], h2.2⟩
  · unfold c99
    have n0 : ¬ (id = id + 1) := by omega
    have n1 : ¬ (id + 1 = id) := by omega
    repeat (first
      | (refine Wp.seqItems (its := ?_) (t' := ?_) (h' := ?_) (log := ?_) ?_ ?_; rotate_left 4; (· simp only [go_sem, reduceIte, Nat.reduceEqDiff, Nat.reduceAdd, Bool.false_eq_true, Bool.true_beq, Bool.false_beq, Bool.not_true, Bool.not_false, and_self, true_and, and_true, if_true, if_false, true_or, or_true, Nat.zero_mul, Nat.one_mul, Nat.zero_le, Nat.reduceMul, Nat.reduceLeDiff, decide_true, decide_false, Int.toNat_natCast, List.length_append, List.filter_cons, List.filter_nil, ne_eq, not_true_eq_false, not_false_eq_true, encCh, n0, n1]; exact rfl))
      | (refine Wp.items (its := ?_) (t' := ?_) (h' := ?_) (log := ?_) ?_ ?_; rotate_left 4; (· simp only [go_sem, reduceIte, Nat.reduceEqDiff, Nat.reduceAdd, Bool.false_eq_true, Bool.true_beq, Bool.false_beq, Bool.not_true, Bool.not_false, and_self, true_and, and_true, if_true, if_false, true_or, or_true, Nat.zero_mul, Nat.one_mul, Nat.zero_le, Nat.reduceMul, Nat.reduceLeDiff, decide_true, decide_false, Int.toNat_natCast, List.length_append, List.filter_cons, List.filter_nil, ne_eq, not_true_eq_false, not_false_eq_true, encCh, n0, n1]; exact rfl))
      | (refine WpItems.nil ⟨?_, ?_⟩; (· first | trivial | simp [pairsQ, pairsOk, apart, ent0]))
      | (refine Wp.cond_true ?_ ?_; (· simp only [go_sem, reduceIte, Nat.reduceEqDiff, Nat.reduceAdd, Bool.false_eq_true, Bool.true_beq, Bool.false_beq, Bool.not_true, Bool.not_false, and_self, true_and, and_true, if_true, if_false, true_or, or_true, Nat.zero_mul, Nat.one_mul, Nat.zero_le, Nat.reduceMul, Nat.reduceLeDiff, decide_true, decide_false, Int.toNat_natCast, List.length_append, List.filter_cons, List.filter_nil, ne_eq, not_true_eq_false, not_false_eq_true, encCh, n0, n1]))
      | (refine Wp.cond_false ?_ ?_; (· simp only [go_sem, reduceIte, Nat.reduceEqDiff, Nat.reduceAdd, Bool.false_eq_true, Bool.true_beq, Bool.false_beq, Bool.not_true, Bool.not_false, and_self, true_and, and_true, if_true, if_false, true_or, or_true, Nat.zero_mul, Nat.one_mul, Nat.zero_le, Nat.reduceMul, Nat.reduceLeDiff, decide_true, decide_false, Int.toNat_natCast, List.length_append, List.filter_cons, List.filter_nil, ne_eq, not_true_eq_false, not_false_eq_true, encCh, n0, n1]))
      | refine Wp.skip ?_
      | refine Wp.label ?_
      | refine Wp.block ?_
      | refine Wp.exit ?_
      | refine Wp.seq ?_)
    refine Wp.ret ⟨trivial, _, rfl, ?_, ?_⟩
    · simp only [go_sem, reduceIte, Nat.reduceEqDiff]
      exact VSub.refl _
    · intro j o ho
      simp only [upd, none'] at ho ⊢
      split at ho
      · rename_i e; subst e; rw [if_neg n0, if_pos rfl]; exact ho
      · cases ho
end Go.Proofs.Ytlefnohibjcekaa.Batch
