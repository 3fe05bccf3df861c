/- Chapter 08: Find of the reference, the walk. Chapter 08: Drop and with of the reference. -/
import Derived.Test.YtgainpikomhepaaPagePa
set_option linter.unusedSimpArgs false
set_option linter.unusedVariables false
set_option maxRecDepth 10000
namespace Go.Proofs.Ytgainpikomhepaa.Page
open Go Go.Av Go.Proofs Go.Proofs.Ytgainpikomhepaa.C

def stop (leaf : Bool) (key k : List UInt8) : Bool := !(Op.bytesLess k key || (!leaf && decide (k = key)))

theorem place_stop (n : Node) (key : List UInt8) : place n key = n.keys.findIdx (stop n.leaf key) := by
  unfold place
  cases n.leaf with
  | true => simp only [if_true]; exact congrArg (fun p => n.keys.findIdx p) (funext fun k => by simp [least, stop])
  | false => simp only [if_false, Bool.false_eq_true]; exact congrArg (fun p => n.keys.findIdx p) (funext fun k => by simp [above, stop])

theorem place_at {n : Node} {key : List UInt8} {j : Nat} (hj : j < n.keys.length) (h : ∀ i, i < j → stop n.leaf key (n.keys.getD i []) = false) (hs : stop n.leaf key (n.keys.getD j []) = true) : place n key = j := by
  rw [place_stop]
  refine (List.findIdx_eq hj).2 ⟨?_, fun i hi => ?_⟩
  · rw [List.getD_eq_getElem?_getD, List.getElem?_eq_getElem hj] at hs; exact hs
  · have := h i hi
    rw [List.getD_eq_getElem?_getD, List.getElem?_eq_getElem (by omega)] at this; exact this

theorem place_end {n : Node} {key : List UInt8} (h : ∀ i, i < n.keys.length → stop n.leaf key (n.keys.getD i []) = false) : place n key = n.keys.length := by
  rw [place_stop]
  refine List.findIdx_eq_length.2 fun k hk => ?_
  obtain ⟨i, hi, rfl⟩ := List.getElem_of_mem hk
  have := h i hi
  rw [List.getD_eq_getElem?_getD, List.getElem?_eq_getElem hi] at this; exact this

theorem findR_p (n : Node) (hn : Nb n) (key : List UInt8) (hkey : Ls key) : PCalls Try.prog 25 [encNode n, .str key] (.tup [.int .i64 (outPlace n key), .bool (outFound n key)]) := by
  refine f25.pcalls0 (by simp) (by simp [allPure, encNode_pure, isPure]) rfl ?_
  have hlen : ∀ i, (n.keys.getD i []).length ≤ 1152921504606846976 := fun i => by
    by_cases h : i < n.keys.length
    · have h1 := tot_snoc n.keys i h
      have h2 := tot_take n.keys (i + 1)
      have h3 := hn.tk
      omega
    · rw [List.getD_eq_getElem?_getD, List.getElem?_eq_none (by omega)]; simp
  have hk := hn.k
  unfold c25
  refine Wp.seqReg (by simp only [go_sem, reduceIte, Nat.reduceEqDiff, Nat.reduceAdd, Bool.false_eq_true, Bool.true_beq, Bool.false_beq, Bool.not_true, Bool.not_false, encNode]; exact rfl) (by trivial) ?_
  refine Wp.seq ?_
  refine Wp.seqItems (by simp only [go_sem, reduceIte, Nat.reduceEqDiff, Nat.reduceAdd, Bool.false_eq_true, Bool.true_beq, Bool.false_beq, Bool.not_true, Bool.not_false]; exact rfl) ?_
  refine WpItems.pcall (by simp only [go_sem, reduceIte, Nat.reduceEqDiff, Nat.reduceAdd, Bool.false_eq_true, Bool.true_beq, Bool.false_beq, Bool.not_true, Bool.not_false]) (by simp only [go_sem, reduceIte, Nat.reduceEqDiff, Nat.reduceAdd, Bool.false_eq_true, Bool.true_beq, Bool.false_beq, Bool.not_true, Bool.not_false, List.map]; exact VSubs.refl _) (standsR_p n hn) ?_
  refine WpItems.eval (by simp only [go_sem, reduceIte, Nat.reduceEqDiff, Nat.reduceAdd, Bool.false_eq_true, Bool.true_beq, Bool.false_beq, Bool.not_true, Bool.not_false]; exact rfl) ?_
  refine WpItems.nil ⟨by trivial, ?_⟩
  refine Wp.cond_split (b := !right n) (by simp only [go_sem, reduceIte, Nat.reduceEqDiff, Nat.reduceAdd, Bool.false_eq_true, Bool.true_beq, Bool.false_beq, Bool.not_true, Bool.not_false]) (fun hd => ?_) (fun hd => ?_)
  · have hr : right n = false := by simpa using hd
    refine Wp.seqReg (by simp only [go_sem, reduceIte, Nat.reduceEqDiff, Nat.reduceAdd, Bool.false_eq_true, Bool.true_beq, Bool.false_beq, Bool.not_true, Bool.not_false]; exact rfl) (by trivial) ?_
    refine Wp.ret ⟨trivial, _, rfl, ?_⟩
    simp only [go_sem, reduceIte, Nat.reduceEqDiff, Nat.reduceAdd, Bool.false_eq_true, Bool.true_beq, Bool.false_beq, Bool.not_true, Bool.not_false]
    simp only [outPlace, outFound, hr, Bool.false_eq_true, if_false, Bool.false_and]
    exact VSub.refl _
  · have hr : right n = true := by simpa using hd
    simp only [outPlace, outFound, hr, if_true, Bool.true_and]
    refine Wp.skip ?_
    refine Wp.seqReg (by simp only [go_sem, reduceIte, Nat.reduceEqDiff, Nat.reduceAdd, Bool.false_eq_true, Bool.true_beq, Bool.false_beq, Bool.not_true, Bool.not_false]; exact rfl) (by trivial) ?_
    refine Wp.seq ?_
    refine Wp.block ?_
    refine Wp.loopK [1, 2] (by simp only [go_sem, reduceIte, Nat.reduceEqDiff, Nat.reduceAdd, Bool.false_eq_true, Bool.true_beq, Bool.false_beq, Bool.not_true, Bool.not_false, List.map]; exact rfl) (fun j : Nat => [(6, .int .i64 j)]) (fun j => j ≤ n.keys.length ∧ ∀ i, i < j → stop n.leaf key (n.keys.getD i []) = false) (fun j => n.keys.length - j) 0 ⟨Nat.zero_le _, fun i h => absurd h (by omega)⟩ ?_ ?_
    · simp only [AllSub, go_sem, reduceIte, Nat.reduceEqDiff, Nat.reduceAdd, Bool.false_eq_true, Bool.true_beq, Bool.false_beq, Bool.not_true, Bool.not_false]; and_intros <;> first | exact trivial | exact VSub.refl _ | exact VSub.any _ | (refine VSub.int ?_; omega)
    · intro j hj
      obtain ⟨hj, hs⟩ := hj
      refine Wp.seq ?_
      by_cases hc : j < n.keys.length
      · have h1 : decide ((j : Int) < (n.keys.length : Int)) = true := decide_eq_true (by omega)
        have h2 : (0 : Int) ≤ (j : Int) := by omega
        have h3 : (j : Int) < (n.keys.length : Int) := by omega
        refine Wp.seqItems (by simp only [go_sem, reduceIte, Nat.reduceEqDiff, Nat.reduceAdd, Bool.false_eq_true, Bool.true_beq, Bool.false_beq, Bool.not_true, Bool.not_false, h1, Int.toNat_natCast, strs_getD _ _ _ hc, h2, h3, and_self, if_true, decide_true]; exact rfl) ?_
        refine WpItems.pcall (by simp only [go_sem, reduceIte, Nat.reduceEqDiff, Nat.reduceAdd, Bool.false_eq_true, Bool.true_beq, Bool.false_beq, Bool.not_true, Bool.not_false]) (by simp only [go_sem, reduceIte, Nat.reduceEqDiff, Nat.reduceAdd, Bool.false_eq_true, Bool.true_beq, Bool.false_beq, Bool.not_true, Bool.not_false, List.map]; exact VSubs.refl _) (below_p (n.keys.getD j []) key (by have := hlen j; unfold Ls; omega) hkey) ?_
        cases hb : Op.bytesLess (n.keys.getD j []) key with
        | true =>
          have hst : stop n.leaf key (n.keys.getD j []) = false := by simp only [stop, hb, Bool.true_or, Bool.not_true]
          refine WpItems.eval (by simp only [go_sem, reduceIte, Nat.reduceEqDiff, Nat.reduceAdd, Bool.false_eq_true, Bool.true_beq, Bool.false_beq, Bool.not_true, Bool.not_false, h1, Int.toNat_natCast, strs_getD _ _ _ hc, h2, h3, and_self, if_true, decide_true]; exact rfl) ?_
          refine WpItems.nil ⟨by trivial, ?_⟩
          refine Wp.cond_true (by simp only [go_sem, reduceIte, Nat.reduceEqDiff, Nat.reduceAdd, Bool.false_eq_true, Bool.true_beq, Bool.false_beq, Bool.not_true, Bool.not_false, decide_true, if_true, h1, h3]) ?_
          refine Wp.skip ?_
          refine Wp.block ?_
          refine Wp.reg1 (by simp only [go_sem, reduceIte, Nat.reduceEqDiff, Nat.reduceAdd, Bool.false_eq_true, Bool.true_beq, Bool.false_beq, Bool.not_true, Bool.not_false]; simp (disch := omega) only [IntWalk.i64_in]; exact rfl) (by trivial) ?_
          refine ⟨j + 1, ⟨by omega, fun i h => ?_⟩, by omega, ?_⟩
          · by_cases he : i = j
            · subst he; exact hst
            · exact hs i (by omega)
          · refine StLe.tm (by simp only [AllSub, go_sem, reduceIte, Nat.reduceEqDiff, Nat.reduceAdd, Bool.false_eq_true, Bool.true_beq, Bool.false_beq, Bool.not_true, Bool.not_false]; and_intros <;> first | exact trivial | exact VSub.refl _ | exact VSub.any _ | (refine VSub.int ?_; omega))
        | false =>
          cases hl : n.leaf with
          | true =>
            have hst : stop n.leaf key (n.keys.getD j []) = true := by simp only [stop, hb, hl, Bool.false_or, Bool.not_true, Bool.false_and, Bool.not_false]
            have hp := place_at hc hs hst
            refine WpItems.eval (by simp only [go_sem, reduceIte, Nat.reduceEqDiff, Nat.reduceAdd, Bool.false_eq_true, Bool.true_beq, Bool.false_beq, Bool.not_true, Bool.not_false, h1, Int.toNat_natCast, strs_getD _ _ _ hc, h2, h3, and_self, if_true, decide_true, hl]; exact rfl) ?_
            refine WpItems.nil ⟨by trivial, ?_⟩
            refine Wp.cond_false (by simp only [go_sem, reduceIte, Nat.reduceEqDiff, Nat.reduceAdd, Bool.false_eq_true, Bool.true_beq, Bool.false_beq, Bool.not_true, Bool.not_false, decide_true, if_true, h1, h3]) ?_
            refine Wp.exit ?_
            rw [hp]
            refine Wp.seqReg (by simp only [go_sem, reduceIte, Nat.reduceEqDiff, Nat.reduceAdd, Bool.false_eq_true, Bool.true_beq, Bool.false_beq, Bool.not_true, Bool.not_false, h1, Int.toNat_natCast, strs_getD _ _ _ hc, h2, h3, and_self, if_true, decide_true, hl]; exact rfl) (by simp [pairsQ, pairsOk, apart, ent0]) ?_
            refine Wp.ret ⟨trivial, _, rfl, ?_⟩
            simp only [go_sem, reduceIte, Nat.reduceEqDiff, Nat.reduceAdd, Bool.false_eq_true, Bool.true_beq, Bool.false_beq, Bool.not_true, Bool.not_false]
            refine VSub.of_eq ?_
            simp [found, hl, hp, hc]
          | false =>
            by_cases he : n.keys.getD j [] = key
            · have hst : stop n.leaf key (n.keys.getD j []) = false := by simp only [stop, hb, hl, decide_eq_true he]; rfl
              have he' : decide (n.keys.getD j [] = key) = true := decide_eq_true he
              refine WpItems.eval (by simp only [go_sem, reduceIte, Nat.reduceEqDiff, Nat.reduceAdd, Bool.false_eq_true, Bool.true_beq, Bool.false_beq, Bool.not_true, Bool.not_false, h1, Int.toNat_natCast, strs_getD _ _ _ hc, h2, h3, and_self, if_true, decide_true, hl, he']; exact rfl) ?_
              refine WpItems.nil ⟨by trivial, ?_⟩
              refine Wp.cond_true (by simp only [go_sem, reduceIte, Nat.reduceEqDiff, Nat.reduceAdd, Bool.false_eq_true, Bool.true_beq, Bool.false_beq, Bool.not_true, Bool.not_false, decide_true, if_true, h1, h3, he']) ?_
              refine Wp.skip ?_
              refine Wp.block ?_
              refine Wp.reg1 (by simp only [go_sem, reduceIte, Nat.reduceEqDiff, Nat.reduceAdd, Bool.false_eq_true, Bool.true_beq, Bool.false_beq, Bool.not_true, Bool.not_false]; simp (disch := omega) only [IntWalk.i64_in]; exact rfl) (by trivial) ?_
              refine ⟨j + 1, ⟨by omega, fun i h => ?_⟩, by omega, ?_⟩
              · by_cases hij : i = j
                · subst hij; rw [hl] at hst; exact hst
                · have := hs i (by omega); rw [hl] at this; exact this
              · refine StLe.tm (by simp only [AllSub, go_sem, reduceIte, Nat.reduceEqDiff, Nat.reduceAdd, Bool.false_eq_true, Bool.true_beq, Bool.false_beq, Bool.not_true, Bool.not_false]; and_intros <;> first | exact trivial | exact VSub.refl _ | exact VSub.any _ | (refine VSub.int ?_; omega))
            · have hst : stop n.leaf key (n.keys.getD j []) = true := by simp only [stop, hb, hl, decide_eq_false he]; rfl
              have he' : decide (n.keys.getD j [] = key) = false := decide_eq_false he
              have hp := place_at hc hs hst
              refine WpItems.eval (by simp only [go_sem, reduceIte, Nat.reduceEqDiff, Nat.reduceAdd, Bool.false_eq_true, Bool.true_beq, Bool.false_beq, Bool.not_true, Bool.not_false, h1, Int.toNat_natCast, strs_getD _ _ _ hc, h2, h3, and_self, if_true, decide_true, hl, he']; exact rfl) ?_
              refine WpItems.nil ⟨by trivial, ?_⟩
              refine Wp.cond_false (by simp only [go_sem, reduceIte, Nat.reduceEqDiff, Nat.reduceAdd, Bool.false_eq_true, Bool.true_beq, Bool.false_beq, Bool.not_true, Bool.not_false, decide_true, if_true, h1, h3, he']) ?_
              refine Wp.exit ?_
              rw [hp]
              refine Wp.seqReg (by simp only [go_sem, reduceIte, Nat.reduceEqDiff, Nat.reduceAdd, Bool.false_eq_true, Bool.true_beq, Bool.false_beq, Bool.not_true, Bool.not_false, h1, Int.toNat_natCast, strs_getD _ _ _ hc, h2, h3, and_self, if_true, decide_true, hl]; exact rfl) (by simp [pairsQ, pairsOk, apart, ent0]) ?_
              refine Wp.ret ⟨trivial, _, rfl, ?_⟩
              simp only [go_sem, reduceIte, Nat.reduceEqDiff, Nat.reduceAdd, Bool.false_eq_true, Bool.true_beq, Bool.false_beq, Bool.not_true, Bool.not_false]
              refine VSub.of_eq ?_
              simp [found, hl]
      · have h1 : decide ((j : Int) < (n.keys.length : Int)) = false := decide_eq_false (by omega)
        have hp := place_end fun i hi => hs i (by omega)
        have hj' : j = n.keys.length := by omega
        refine Wp.seqItems (by simp only [go_sem, reduceIte, Nat.reduceEqDiff, Nat.reduceAdd, Bool.false_eq_true, Bool.true_beq, Bool.false_beq, Bool.not_true, Bool.not_false, h1]; exact rfl) ?_
        refine WpItems.nil ⟨by trivial, ?_⟩
        refine Wp.cond_false (by simp only [go_sem, reduceIte, Nat.reduceEqDiff, Nat.reduceAdd, Bool.false_eq_true, Bool.true_beq, Bool.false_beq, Bool.not_true, Bool.not_false, h1]) ?_
        refine Wp.exit ?_
        rw [hp]
        cases hl : n.leaf with
        | true =>
          refine Wp.seqReg (by simp only [go_sem, reduceIte, Nat.reduceEqDiff, Nat.reduceAdd, Bool.false_eq_true, Bool.true_beq, Bool.false_beq, Bool.not_true, Bool.not_false, h1, hl]; exact rfl) (by simp [pairsQ, pairsOk, apart, ent0]) ?_
          refine Wp.ret ⟨trivial, _, rfl, ?_⟩
          simp only [go_sem, reduceIte, Nat.reduceEqDiff, Nat.reduceAdd, Bool.false_eq_true, Bool.true_beq, Bool.false_beq, Bool.not_true, Bool.not_false]
          refine VSub.of_eq ?_
          simp [found, hl, hp, hj']
        | false =>
          refine Wp.seqReg (by simp only [go_sem, reduceIte, Nat.reduceEqDiff, Nat.reduceAdd, Bool.false_eq_true, Bool.true_beq, Bool.false_beq, Bool.not_true, Bool.not_false, h1, hl]; exact rfl) (by simp [pairsQ, pairsOk, apart, ent0]) ?_
          refine Wp.ret ⟨trivial, _, rfl, ?_⟩
          simp only [go_sem, reduceIte, Nat.reduceEqDiff, Nat.reduceAdd, Bool.false_eq_true, Bool.true_beq, Bool.false_beq, Bool.not_true, Bool.not_false]
          refine VSub.of_eq ?_
          simp [found, hl, hj']

theorem strs_append (a b : List (List UInt8)) : strs (a ++ b) = strs a ++ strs b := by simp [strs]
theorem strs_cons (s : List UInt8) (b : List (List UInt8)) : strs (s :: b) = .str s :: strs b := by simp [strs]

theorem withR_p (l : List (List UInt8)) (i : Nat) (x : List UInt8) (hi : i ≤ l.length) (hl : l.length < 1099511627776) :
    PCalls Try.prog 52 [.sl 1 (strs l) .any, .int .i64 i, .str x] (.sl 1 (strs (l.take i ++ x :: l.drop i)) .any) := by
  refine f52.pcalls0 (by simp) (by simp [allPure, isPure, capPure, strs_pure]) (by simp [isPure, capPure, strs_pure]) ?_
  unfold c52
  have h0 : (0 : Int) ≤ (i : Int) := by omega
  have h1 : (i : Int) ≤ (l.length : Int) := by omega
  have t1 : (l.take i).length = i := by simp; omega
  have d1 : (l.drop i).length = l.length - i := by simp
  have g0 : (i) * 16 ≤ 140737488355328 := by omega
  have g0' : i < 4611686018427387904 := by omega
  have g1 : (i + 1) * 16 ≤ 140737488355328 := by omega
  have g1' : i + 1 < 4611686018427387904 := by omega
  have g2 : (i + 1 + (l.length - i)) * 16 ≤ 140737488355328 := by omega
  have g2' : i + 1 + (l.length - i) < 4611686018427387904 := by omega
  refine Wp.seqReg (by simp only [go_sem, reduceIte, Nat.reduceEqDiff, Nat.reduceAdd, Bool.false_eq_true, Bool.true_beq, Bool.false_beq, Bool.not_true, Bool.not_false]; exact rfl) (by trivial) ?_
  repeat (first
    | (refine Wp.seqItems (its := ?_) (t' := ?_) (h' := ?_) (log := ?_) ?_ ?_; rotate_left 4; (· simp only [go_sem, reduceIte, Nat.reduceEqDiff, Nat.reduceAdd, Bool.false_eq_true, Bool.true_beq, Bool.false_beq, Bool.not_true, Bool.not_false, and_self, true_and, and_true, if_true, if_false, true_or, or_true, Nat.zero_mul, Nat.one_mul, Nat.zero_le, Nat.reduceMul, Nat.reduceLeDiff, decide_true, decide_false, Int.toNat_natCast, List.length_append, List.filter_cons, List.filter_nil, ne_eq, not_true_eq_false, not_false_eq_true, h0, h1, t1, d1, g0, g0', g1, g1', g2, g2', Int.toNat_natCast, strs_take, strs_drop, strs_length, List.take_length, List.length_cons, List.length_nil, Nat.zero_add]; exact rfl))
    | (refine Wp.items (its := ?_) (t' := ?_) (h' := ?_) (log := ?_) ?_ ?_; rotate_left 4; (· simp only [go_sem, reduceIte, Nat.reduceEqDiff, Nat.reduceAdd, Bool.false_eq_true, Bool.true_beq, Bool.false_beq, Bool.not_true, Bool.not_false, and_self, true_and, and_true, if_true, if_false, true_or, or_true, Nat.zero_mul, Nat.one_mul, Nat.zero_le, Nat.reduceMul, Nat.reduceLeDiff, decide_true, decide_false, Int.toNat_natCast, List.length_append, List.filter_cons, List.filter_nil, ne_eq, not_true_eq_false, not_false_eq_true, h0, h1, t1, d1, g0, g0', g1, g1', g2, g2', Int.toNat_natCast, strs_take, strs_drop, strs_length, List.take_length, List.length_cons, List.length_nil, Nat.zero_add]; exact rfl))
    | (refine WpItems.nil ⟨?_, ?_⟩; (· first | trivial | simp [pairsQ, pairsOk, apart, ent0]))
    | (refine Wp.cond_true ?_ ?_; (· simp only [go_sem, reduceIte, Nat.reduceEqDiff, Nat.reduceAdd, Bool.false_eq_true, Bool.true_beq, Bool.false_beq, Bool.not_true, Bool.not_false, and_self, true_and, and_true, if_true, if_false, true_or, or_true, Nat.zero_mul, Nat.one_mul, Nat.zero_le, Nat.reduceMul, Nat.reduceLeDiff, decide_true, decide_false, Int.toNat_natCast, List.length_append, List.filter_cons, List.filter_nil, ne_eq, not_true_eq_false, not_false_eq_true, h0, h1, t1, d1, g0, g0', g1, g1', g2, g2', Int.toNat_natCast, strs_take, strs_drop, strs_length, List.take_length, List.length_cons, List.length_nil, Nat.zero_add]))
    | (refine Wp.cond_false ?_ ?_; (· simp only [go_sem, reduceIte, Nat.reduceEqDiff, Nat.reduceAdd, Bool.false_eq_true, Bool.true_beq, Bool.false_beq, Bool.not_true, Bool.not_false, and_self, true_and, and_true, if_true, if_false, true_or, or_true, Nat.zero_mul, Nat.one_mul, Nat.zero_le, Nat.reduceMul, Nat.reduceLeDiff, decide_true, decide_false, Int.toNat_natCast, List.length_append, List.filter_cons, List.filter_nil, ne_eq, not_true_eq_false, not_false_eq_true, h0, h1, t1, d1, g0, g0', g1, g1', g2, g2', Int.toNat_natCast, strs_take, strs_drop, strs_length, List.take_length, List.length_cons, List.length_nil, Nat.zero_add]))
    | refine Wp.skip ?_
    | refine Wp.block ?_
    | refine Wp.exit ?_
    | refine Wp.seq ?_)
  refine Wp.ret ⟨trivial, _, rfl, ?_⟩
  simp only [go_sem, reduceIte, Nat.reduceEqDiff, Nat.reduceAdd, Bool.false_eq_true, Bool.true_beq, Bool.false_beq, Bool.not_true, Bool.not_false]
  rw [strs_append, strs_cons]
  simp only [List.append_assoc, List.cons_append, List.nil_append]
  exact VSub.cap

theorem dropR_p (n : Node) (hn : Nb n) (hs : Ns n) (key : List UInt8) (hkey : Ls key) : PCalls Try.prog 29 [encNode n, .str key] (.tup [encNode (dropN n key), .bool (outFound n key)]) := by
  refine f29.pcalls0 (by simp) (by simp [allPure, encNode_pure, isPure]) (by simp [isPure, allPure, encNode_pure]) ?_
  unfold c29
  obtain ⟨sk, sv', si⟩ := hs
  refine Wp.seqReg (by simp only [go_sem, reduceIte, Nat.reduceEqDiff, Nat.reduceAdd, Bool.false_eq_true, Bool.true_beq, Bool.false_beq, Bool.not_true, Bool.not_false, encNode]; exact rfl) (by trivial) ?_
  refine Wp.seqItems (by simp only [go_sem, reduceIte, Nat.reduceEqDiff, Nat.reduceAdd, Bool.false_eq_true, Bool.true_beq, Bool.false_beq, Bool.not_true, Bool.not_false]; exact rfl) ?_
  refine WpItems.pcall (by simp only [go_sem, reduceIte, Nat.reduceEqDiff, Nat.reduceAdd, Bool.false_eq_true, Bool.true_beq, Bool.false_beq, Bool.not_true, Bool.not_false]) (by simp only [go_sem, reduceIte, Nat.reduceEqDiff, Nat.reduceAdd, Bool.false_eq_true, Bool.true_beq, Bool.false_beq, Bool.not_true, Bool.not_false, List.map]; exact VSubs.refl _) (findR_p n hn key hkey) ?_
  refine WpItems.eval (by simp only [go_sem, reduceIte, Nat.reduceEqDiff, Nat.reduceAdd, Bool.false_eq_true, Bool.true_beq, Bool.false_beq, Bool.not_true, Bool.not_false]; exact rfl) ?_
  refine WpItems.nil ⟨by trivial, ?_⟩
  refine Wp.seq ?_
  refine Wp.seqReg (by simp only [go_sem, reduceIte, Nat.reduceEqDiff, Nat.reduceAdd, Bool.false_eq_true, Bool.true_beq, Bool.false_beq, Bool.not_true, Bool.not_false]; exact rfl) (by trivial) ?_
  cases hf : outFound n key with
  | false =>
    refine Wp.cond_true (by simp only [go_sem, reduceIte, Nat.reduceEqDiff, Nat.reduceAdd, Bool.false_eq_true, Bool.true_beq, Bool.false_beq, Bool.not_true, Bool.not_false, hf]) ?_
    refine Wp.seqReg (by simp only [go_sem, reduceIte, Nat.reduceEqDiff, Nat.reduceAdd, Bool.false_eq_true, Bool.true_beq, Bool.false_beq, Bool.not_true, Bool.not_false]; exact rfl) (by trivial) ?_
    refine Wp.ret ⟨trivial, _, rfl, ?_⟩
    simp only [go_sem, reduceIte, Nat.reduceEqDiff, Nat.reduceAdd, Bool.false_eq_true, Bool.true_beq, Bool.false_beq, Bool.not_true, Bool.not_false, hf]
    simp only [dropN, hf, if_false, Bool.false_eq_true, emptyN, encNode]
    exact VSub.tup (VSubs.cons (VSub.agg (VSubs.cons (VSub.refl _) (VSubs.cons VSub.cap (VSubs.cons VSub.cap (VSubs.cons VSub.cap VSubs.nil))))) (VSubs.cons (VSub.refl _) VSubs.nil))
  | true =>
    obtain ⟨f1, f2, f3, f4, -⟩ := found_facts hf
    have hp : outPlace n key = place n key := by simp [outPlace, f1]
    refine Wp.cond_false (by simp only [go_sem, reduceIte, Nat.reduceEqDiff, Nat.reduceAdd, Bool.false_eq_true, Bool.true_beq, Bool.false_beq, Bool.not_true, Bool.not_false, hf]) ?_
    refine Wp.skip ?_
    simp only [dropN, hf, if_true, cutN, encNode]
    rw [hp]
    generalize place n key = i at f3 ⊢
    have h0 : (0 : Int) ≤ (i : Int) := by omega
    have h1 : (i : Int) ≤ (n.keys.length : Int) := by omega
    have h2 : (i : Int) ≤ (n.vals.length : Int) := by omega
    have hw : IntKind.i64.wrap ((i : Int) + 1) = ((i + 1 : Nat) : Int) := by rw [IntWalk.i64_in _ (by omega)]; rfl
    have h3 : (0 : Int) ≤ ((i + 1 : Nat) : Int) := by omega
    have h4 : ((i + 1 : Nat) : Int) ≤ (n.keys.length : Int) := by omega
    have h5 : ((i + 1 : Nat) : Int) ≤ (n.vals.length : Int) := by omega
    have t1 : (n.keys.take i).length = i := by simp; omega
    have d1 : (n.keys.drop (i + 1)).length = n.keys.length - (i + 1) := by simp
    have t2 : (n.vals.take i).length = i := by simp; omega
    have d2 : (n.vals.drop (i + 1)).length = n.vals.length - (i + 1) := by simp
    have g0 : (i) * 16 ≤ 140737488355328 := by omega
    have g0' : i < 4611686018427387904 := by omega
    have g1 : (i + (n.keys.length - (i + 1))) * 16 ≤ 140737488355328 := by omega
    have g1' : i + (n.keys.length - (i + 1)) < 4611686018427387904 := by omega
    have g2 : (i + (n.vals.length - (i + 1))) * 16 ≤ 140737488355328 := by omega
    have g2' : i + (n.vals.length - (i + 1)) < 4611686018427387904 := by omega
    repeat (first
      | (refine Wp.seqItems (its := ?_) (t' := ?_) (h' := ?_) (log := ?_) ?_ ?_; rotate_left 4; (· simp only [go_sem, reduceIte, Nat.reduceEqDiff, Nat.reduceAdd, Bool.false_eq_true, Bool.true_beq, Bool.false_beq, Bool.not_true, Bool.not_false, and_self, true_and, and_true, if_true, if_false, true_or, or_true, Nat.zero_mul, Nat.one_mul, Nat.zero_le, Nat.reduceMul, Nat.reduceLeDiff, decide_true, decide_false, Int.toNat_natCast, List.length_append, List.filter_cons, List.filter_nil, ne_eq, not_true_eq_false, not_false_eq_true, hw, h0, h1, h2, h3, h4, h5, t1, d1, t2, d2, g0, g0', g1, g1', g2, g2', Int.toNat_natCast, strs_take, strs_drop, strs_length, List.take_length, List.length_cons, List.length_nil, Nat.zero_add]; exact rfl))
      | (refine Wp.items (its := ?_) (t' := ?_) (h' := ?_) (log := ?_) ?_ ?_; rotate_left 4; (· simp only [go_sem, reduceIte, Nat.reduceEqDiff, Nat.reduceAdd, Bool.false_eq_true, Bool.true_beq, Bool.false_beq, Bool.not_true, Bool.not_false, and_self, true_and, and_true, if_true, if_false, true_or, or_true, Nat.zero_mul, Nat.one_mul, Nat.zero_le, Nat.reduceMul, Nat.reduceLeDiff, decide_true, decide_false, Int.toNat_natCast, List.length_append, List.filter_cons, List.filter_nil, ne_eq, not_true_eq_false, not_false_eq_true, hw, h0, h1, h2, h3, h4, h5, t1, d1, t2, d2, g0, g0', g1, g1', g2, g2', Int.toNat_natCast, strs_take, strs_drop, strs_length, List.take_length, List.length_cons, List.length_nil, Nat.zero_add]; exact rfl))
      | (refine WpItems.nil ⟨?_, ?_⟩; (· first | trivial | simp [pairsQ, pairsOk, apart, ent0]))
      | (refine Wp.cond_true ?_ ?_; (· simp only [go_sem, reduceIte, Nat.reduceEqDiff, Nat.reduceAdd, Bool.false_eq_true, Bool.true_beq, Bool.false_beq, Bool.not_true, Bool.not_false, and_self, true_and, and_true, if_true, if_false, true_or, or_true, Nat.zero_mul, Nat.one_mul, Nat.zero_le, Nat.reduceMul, Nat.reduceLeDiff, decide_true, decide_false, Int.toNat_natCast, List.length_append, List.filter_cons, List.filter_nil, ne_eq, not_true_eq_false, not_false_eq_true, hw, h0, h1, h2, h3, h4, h5, t1, d1, t2, d2, g0, g0', g1, g1', g2, g2', Int.toNat_natCast, strs_take, strs_drop, strs_length, List.take_length, List.length_cons, List.length_nil, Nat.zero_add]))
      | (refine Wp.cond_false ?_ ?_; (· simp only [go_sem, reduceIte, Nat.reduceEqDiff, Nat.reduceAdd, Bool.false_eq_true, Bool.true_beq, Bool.false_beq, Bool.not_true, Bool.not_false, and_self, true_and, and_true, if_true, if_false, true_or, or_true, Nat.zero_mul, Nat.one_mul, Nat.zero_le, Nat.reduceMul, Nat.reduceLeDiff, decide_true, decide_false, Int.toNat_natCast, List.length_append, List.filter_cons, List.filter_nil, ne_eq, not_true_eq_false, not_false_eq_true, hw, h0, h1, h2, h3, h4, h5, t1, d1, t2, d2, g0, g0', g1, g1', g2, g2', Int.toNat_natCast, strs_take, strs_drop, strs_length, List.take_length, List.length_cons, List.length_nil, Nat.zero_add]))
      | refine Wp.skip ?_
      | refine Wp.block ?_
      | refine Wp.exit ?_
      | refine Wp.seq ?_)
    refine Wp.ret ⟨trivial, _, rfl, ?_⟩
    simp only [go_sem, reduceIte, Nat.reduceEqDiff, Nat.reduceAdd, Bool.false_eq_true, Bool.true_beq, Bool.false_beq, Bool.not_true, Bool.not_false, hf]
    rw [strs_append, strs_append]
    exact VSub.tup (VSubs.cons (VSub.agg (VSubs.cons (VSub.refl _) (VSubs.cons VSub.cap (VSubs.cons VSub.cap (VSubs.cons VSub.cap VSubs.nil))))) (VSubs.cons (VSub.refl _) VSubs.nil))
end Go.Proofs.Ytgainpikomhepaa.Page
