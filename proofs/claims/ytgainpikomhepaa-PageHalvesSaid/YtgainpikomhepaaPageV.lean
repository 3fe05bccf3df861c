/- Chapter 08: Same of equal nodes; copies; parts of a node. -/
import Derived.Test.YtgainpikomhepaaPageQ
import Derived.Test.YtgainpikomhepaaAvLib
set_option linter.unusedSimpArgs false
set_option linter.unusedVariables false
set_option maxRecDepth 10000
namespace Go.Proofs.Ytgainpikomhepaa.Page
open Go Go.Av Go.Proofs Go.Proofs.Ytgainpikomhepaa.C

theorem same_p (n : Node) (hn : Nb n) : PCalls Try.prog 21 [encNode n, encNode n] (.bool true) := by
  refine f21.pcalls0 (by simp) (by simp [allPure, encNode_pure]) rfl ?_
  obtain ⟨hk, hv, hi, htk, htv⟩ := hn
  unfold c21
  refine Wp.seqReg (by simp only [go_sem, reduceIte, Nat.reduceEqDiff, Nat.reduceAdd, Bool.false_eq_true, Bool.true_beq, Bool.false_beq, Bool.not_true, Bool.not_false, encNode]; exact rfl) (by trivial) ?_
  refine Wp.seq ?_
  refine Wp.seq (Wp.reg ?_)
  refine WpItems.part 12 (by simp only [go_sem, reduceIte, Nat.reduceEqDiff, Nat.reduceAdd, Bool.false_eq_true, Bool.true_beq, Bool.false_beq, Bool.not_true, Bool.not_false, beq_self_eq_true, decide_true]; exact rfl) ?_
  simp only [List.drop_succ_cons, List.drop_zero, List.drop_nil]
  refine WpItems.part 12 (by simp only [go_sem, reduceIte, Nat.reduceEqDiff, Nat.reduceAdd, Bool.false_eq_true, Bool.true_beq, Bool.false_beq, Bool.not_true, Bool.not_false, beq_self_eq_true, decide_true]; exact rfl) ?_
  simp only [List.drop_succ_cons, List.drop_zero, List.drop_nil]
  refine WpItems.part 12 (by simp only [go_sem, reduceIte, Nat.reduceEqDiff, Nat.reduceAdd, Bool.false_eq_true, Bool.true_beq, Bool.false_beq, Bool.not_true, Bool.not_false, beq_self_eq_true, decide_true]; exact rfl) ?_
  simp only [List.drop_succ_cons, List.drop_zero, List.drop_nil]
  refine WpItems.part 12 (by simp only [go_sem, reduceIte, Nat.reduceEqDiff, Nat.reduceAdd, Bool.false_eq_true, Bool.true_beq, Bool.false_beq, Bool.not_true, Bool.not_false, beq_self_eq_true, decide_true]; exact rfl) ?_
  simp only [List.drop_succ_cons, List.drop_zero, List.drop_nil]
  refine WpItems.nil ⟨by trivial, ?_⟩
  refine Wp.cond_false (by simp only [go_sem, reduceIte, Nat.reduceEqDiff, Nat.reduceAdd, Bool.false_eq_true, Bool.true_beq, Bool.false_beq, Bool.not_true, Bool.not_false]) ?_
  refine Wp.skip ?_
  refine Wp.seq ?_
  refine Wp.seqReg (by simp only [go_sem, reduceIte, Nat.reduceEqDiff, Nat.reduceAdd, Bool.false_eq_true, Bool.true_beq, Bool.false_beq, Bool.not_true, Bool.not_false]; exact rfl) (by trivial) ?_
  refine Wp.block ?_
  refine Wp.loopK [2, 3] (by simp only [go_sem, reduceIte, Nat.reduceEqDiff, Nat.reduceAdd, Bool.false_eq_true, Bool.true_beq, Bool.false_beq, Bool.not_true, Bool.not_false, List.map]; exact rfl) (fun j : Nat => [(5, .int .i64 j)]) (fun j => j ≤ n.keys.length) (fun j => n.keys.length - j) 0 (Nat.zero_le _) ?_ ?_
  · simp only [AllSub, go_sem, reduceIte, Nat.reduceEqDiff, Nat.reduceAdd, Bool.false_eq_true, Bool.true_beq, Bool.false_beq, Bool.not_true, Bool.not_false]; and_intros <;> first | exact trivial | exact VSub.refl _ | exact VSub.any _ | (refine VSub.int ?_; omega)
  · intro j hj
    refine Wp.seq ?_
    refine Wp.seqReg (by simp only [go_sem, reduceIte, Nat.reduceEqDiff, Nat.reduceAdd, Bool.false_eq_true, Bool.true_beq, Bool.false_beq, Bool.not_true, Bool.not_false]; exact rfl) (by trivial) ?_
    refine Wp.cond_split (b := decide ((j : Int) < (n.keys.length : Int))) (by simp only [go_sem, reduceIte, Nat.reduceEqDiff, Nat.reduceAdd, Bool.false_eq_true, Bool.true_beq, Bool.false_beq, Bool.not_true, Bool.not_false]) (fun hc => ?_) (fun hc => ?_)
    · have h2 : (j : Int) < (n.keys.length : Int) := by simpa using hc
      have h1 : (0 : Int) ≤ (j : Int) := by omega
      have h3 : j < n.keys.length := by omega
      refine Wp.skip ?_
      refine Wp.seq ?_
      refine Wp.block ?_
      refine Wp.seqReg (by simp only [go_sem, reduceIte, Nat.reduceEqDiff, Nat.reduceAdd, Bool.false_eq_true, Bool.true_beq, Bool.false_beq, Bool.not_true, Bool.not_false, Int.toNat_natCast, strs_getD _ _ _ h3, h1, h2, and_self, if_true, decide_true]; exact rfl) (by simp [pairsQ, pairsOk, apart, ent0]) ?_
      refine Wp.cond_false (by simp only [go_sem, reduceIte, Nat.reduceEqDiff, Nat.reduceAdd, Bool.false_eq_true, Bool.true_beq, Bool.false_beq, Bool.not_true, Bool.not_false]) ?_
      refine Wp.skip ?_
      refine Wp.reg1 (by simp only [go_sem, reduceIte, Nat.reduceEqDiff, Nat.reduceAdd, Bool.false_eq_true, Bool.true_beq, Bool.false_beq, Bool.not_true, Bool.not_false]; simp (disch := omega) only [IntWalk.i64_in]; exact rfl) (by trivial) ?_
      refine ⟨j + 1, by omega, by omega, ?_⟩
      refine StLe.tm (by simp only [AllSub, go_sem, reduceIte, Nat.reduceEqDiff, Nat.reduceAdd, Bool.false_eq_true, Bool.true_beq, Bool.false_beq, Bool.not_true, Bool.not_false]; and_intros <;> first | exact trivial | exact VSub.refl _ | exact VSub.any _ | (refine VSub.int ?_; omega))
    · refine Wp.exit ?_
      refine Wp.seq ?_
      refine Wp.seqReg (by simp only [go_sem, reduceIte, Nat.reduceEqDiff, Nat.reduceAdd, Bool.false_eq_true, Bool.true_beq, Bool.false_beq, Bool.not_true, Bool.not_false]; exact rfl) (by trivial) ?_
      refine Wp.block ?_
      refine Wp.loopK [2, 3] (by simp only [go_sem, reduceIte, Nat.reduceEqDiff, Nat.reduceAdd, Bool.false_eq_true, Bool.true_beq, Bool.false_beq, Bool.not_true, Bool.not_false, List.map]; exact rfl) (fun j : Nat => [(6, .int .i64 j)]) (fun j => j ≤ n.vals.length) (fun j => n.vals.length - j) 0 (Nat.zero_le _) ?_ ?_
      · simp only [AllSub, go_sem, reduceIte, Nat.reduceEqDiff, Nat.reduceAdd, Bool.false_eq_true, Bool.true_beq, Bool.false_beq, Bool.not_true, Bool.not_false]; and_intros <;> first | exact trivial | exact VSub.refl _ | exact VSub.any _ | (refine VSub.int ?_; omega)
      · intro j hj
        refine Wp.seq ?_
        refine Wp.seqReg (by simp only [go_sem, reduceIte, Nat.reduceEqDiff, Nat.reduceAdd, Bool.false_eq_true, Bool.true_beq, Bool.false_beq, Bool.not_true, Bool.not_false]; exact rfl) (by trivial) ?_
        refine Wp.cond_split (b := decide ((j : Int) < (n.vals.length : Int))) (by simp only [go_sem, reduceIte, Nat.reduceEqDiff, Nat.reduceAdd, Bool.false_eq_true, Bool.true_beq, Bool.false_beq, Bool.not_true, Bool.not_false]) (fun hc => ?_) (fun hc => ?_)
        · have h2 : (j : Int) < (n.vals.length : Int) := by simpa using hc
          have h1 : (0 : Int) ≤ (j : Int) := by omega
          have h3 : j < n.vals.length := by omega
          refine Wp.skip ?_
          refine Wp.seq ?_
          refine Wp.block ?_
          refine Wp.seqReg (by simp only [go_sem, reduceIte, Nat.reduceEqDiff, Nat.reduceAdd, Bool.false_eq_true, Bool.true_beq, Bool.false_beq, Bool.not_true, Bool.not_false, Int.toNat_natCast, strs_getD _ _ _ h3, h1, h2, and_self, if_true, decide_true]; exact rfl) (by simp [pairsQ, pairsOk, apart, ent0]) ?_
          refine Wp.cond_false (by simp only [go_sem, reduceIte, Nat.reduceEqDiff, Nat.reduceAdd, Bool.false_eq_true, Bool.true_beq, Bool.false_beq, Bool.not_true, Bool.not_false]) ?_
          refine Wp.skip ?_
          refine Wp.reg1 (by simp only [go_sem, reduceIte, Nat.reduceEqDiff, Nat.reduceAdd, Bool.false_eq_true, Bool.true_beq, Bool.false_beq, Bool.not_true, Bool.not_false]; simp (disch := omega) only [IntWalk.i64_in]; exact rfl) (by trivial) ?_
          refine ⟨j + 1, by omega, by omega, ?_⟩
          refine StLe.tm (by simp only [AllSub, go_sem, reduceIte, Nat.reduceEqDiff, Nat.reduceAdd, Bool.false_eq_true, Bool.true_beq, Bool.false_beq, Bool.not_true, Bool.not_false]; and_intros <;> first | exact trivial | exact VSub.refl _ | exact VSub.any _ | (refine VSub.int ?_; omega))
        · refine Wp.exit ?_
          refine Wp.seq ?_
          refine Wp.seqReg (by simp only [go_sem, reduceIte, Nat.reduceEqDiff, Nat.reduceAdd, Bool.false_eq_true, Bool.true_beq, Bool.false_beq, Bool.not_true, Bool.not_false]; exact rfl) (by trivial) ?_
          refine Wp.block ?_
          refine Wp.loopK [2, 3] (by simp only [go_sem, reduceIte, Nat.reduceEqDiff, Nat.reduceAdd, Bool.false_eq_true, Bool.true_beq, Bool.false_beq, Bool.not_true, Bool.not_false, List.map]; exact rfl) (fun j : Nat => [(7, .int .i64 j)]) (fun j => j ≤ n.kids.length) (fun j => n.kids.length - j) 0 (Nat.zero_le _) ?_ ?_
          · simp only [AllSub, go_sem, reduceIte, Nat.reduceEqDiff, Nat.reduceAdd, Bool.false_eq_true, Bool.true_beq, Bool.false_beq, Bool.not_true, Bool.not_false]; and_intros <;> first | exact trivial | exact VSub.refl _ | exact VSub.any _ | (refine VSub.int ?_; omega)
          · intro j hj
            refine Wp.seq ?_
            refine Wp.seqReg (by simp only [go_sem, reduceIte, Nat.reduceEqDiff, Nat.reduceAdd, Bool.false_eq_true, Bool.true_beq, Bool.false_beq, Bool.not_true, Bool.not_false]; exact rfl) (by trivial) ?_
            refine Wp.cond_split (b := decide ((j : Int) < (n.kids.length : Int))) (by simp only [go_sem, reduceIte, Nat.reduceEqDiff, Nat.reduceAdd, Bool.false_eq_true, Bool.true_beq, Bool.false_beq, Bool.not_true, Bool.not_false]) (fun hc => ?_) (fun hc => ?_)
            · have h2 : (j : Int) < (n.kids.length : Int) := by simpa using hc
              have h1 : (0 : Int) ≤ (j : Int) := by omega
              have h3 : j < n.kids.length := by omega
              refine Wp.skip ?_
              refine Wp.seq ?_
              refine Wp.block ?_
              refine Wp.seqReg (by simp only [go_sem, reduceIte, Nat.reduceEqDiff, Nat.reduceAdd, Bool.false_eq_true, Bool.true_beq, Bool.false_beq, Bool.not_true, Bool.not_false, Int.toNat_natCast, ints_getD _ _ _ h3, h1, h2, and_self, if_true, decide_true]; exact rfl) (by simp [pairsQ, pairsOk, apart, ent0]) ?_
              refine Wp.cond_false (by simp only [go_sem, reduceIte, Nat.reduceEqDiff, Nat.reduceAdd, Bool.false_eq_true, Bool.true_beq, Bool.false_beq, Bool.not_true, Bool.not_false]) ?_
              refine Wp.skip ?_
              refine Wp.reg1 (by simp only [go_sem, reduceIte, Nat.reduceEqDiff, Nat.reduceAdd, Bool.false_eq_true, Bool.true_beq, Bool.false_beq, Bool.not_true, Bool.not_false]; simp (disch := omega) only [IntWalk.i64_in]; exact rfl) (by trivial) ?_
              refine ⟨j + 1, by omega, by omega, ?_⟩
              refine StLe.tm (by simp only [AllSub, go_sem, reduceIte, Nat.reduceEqDiff, Nat.reduceAdd, Bool.false_eq_true, Bool.true_beq, Bool.false_beq, Bool.not_true, Bool.not_false]; and_intros <;> first | exact trivial | exact VSub.refl _ | exact VSub.any _ | (refine VSub.int ?_; omega))
            · refine Wp.exit ?_
              refine Wp.seqReg (by simp only [go_sem, reduceIte, Nat.reduceEqDiff, Nat.reduceAdd, Bool.false_eq_true, Bool.true_beq, Bool.false_beq, Bool.not_true, Bool.not_false]; exact rfl) (by trivial) ?_
              refine Wp.ret ⟨trivial, _, rfl, ?_⟩
              simp only [go_sem, reduceIte, Nat.reduceEqDiff, Nat.reduceAdd, Bool.false_eq_true, Bool.true_beq, Bool.false_beq, Bool.not_true, Bool.not_false]
              exact VSub.refl _

theorem strs_take (l : List (List UInt8)) (k : Nat) : (strs l).take k = strs (l.take k) := by simp [strs]
theorem strs_drop (l : List (List UInt8)) (k : Nat) : (strs l).drop k = strs (l.drop k) := by simp [strs]
theorem ints_take (l : List Int) (k : Nat) : (ints l).take k = ints (l.take k) := by simp [ints]
theorem ints_drop (l : List Int) (k : Nat) : (ints l).drop k = ints (l.drop k) := by simp [ints]

theorem cloneS_p (l : List (List UInt8)) (hl : l.length ≤ 4398046511104) : PCalls Try.prog 50 [.sl 1 (strs l) .any] (.sl 1 (strs l) .any) :=
  clone_gen f50 _ (strs_pure l) (by rw [strs_length]; omega) (by rw [strs_length]; omega)
theorem cloneI_p (l : List Int) (hl : l.length ≤ 4398046511104) : PCalls Try.prog 62 [.sl 1 (ints l) .any] (.sl 1 (ints l) .any) :=
  clone_gen f62 _ (ints_pure l) (by rw [ints_length]; omega) (by rw [ints_length]; omega)

def part (n : Node) (a b : Nat) : Node := ⟨n.leaf, (n.keys.take b).drop a, if n.leaf then (n.vals.take b).drop a else [], if n.leaf then [] else (n.kids.take (b + 1)).drop a⟩

/-- a node with few parts -/
structure Ns (n : Node) : Prop where
  k : n.keys.length ≤ 1000
  v : n.vals.length ≤ 1000
  i : n.kids.length ≤ 1001

theorem part_p (n : Node) (hs : Ns n) (a b : Nat) (hab : a ≤ b) (hb : b ≤ n.keys.length) (hl : n.leaf = true → b ≤ n.vals.length) (hi : n.leaf = false → b + 1 ≤ n.kids.length) : PCalls Try.prog 38 [encNode n, .int .i64 a, .int .i64 b] (encNode (part n a b)) := by
  refine f38.pcalls0 (by simp) (by simp [allPure, encNode_pure, isPure]) (encNode_pure _) ?_
  obtain ⟨sk, sv, si⟩ := hs
  unfold c38
  have h0 : (0 : Int) ≤ (a : Int) := by omega
  have h1 : (0 : Int) ≤ (b : Int) := by omega
  have h2 : (a : Int) ≤ (b : Int) := by omega
  have h3 : (b : Int) ≤ (n.keys.length : Int) := by omega
  refine Wp.seqReg (by simp only [go_sem, reduceIte, Nat.reduceEqDiff, Nat.reduceAdd, Bool.false_eq_true, Bool.true_beq, Bool.false_beq, Bool.not_true, Bool.not_false, encNode]; exact rfl) (by trivial) ?_
  refine Wp.seqItems (by simp only [go_sem, reduceIte, Nat.reduceEqDiff, Nat.reduceAdd, Bool.false_eq_true, Bool.true_beq, Bool.false_beq, Bool.not_true, Bool.not_false, Int.toNat_natCast, h0, h1, h2, h3, and_self, if_true, true_or, strs_take, strs_drop]; exact rfl) ?_
  refine WpItems.pcall (by simp only [go_sem, reduceIte, Nat.reduceEqDiff, Nat.reduceAdd, Bool.false_eq_true, Bool.true_beq, Bool.false_beq, Bool.not_true, Bool.not_false]) (by simp only [go_sem, reduceIte, Nat.reduceEqDiff, Nat.reduceAdd, Bool.false_eq_true, Bool.true_beq, Bool.false_beq, Bool.not_true, Bool.not_false, List.map]; exact VSubs.cons VSub.cap VSubs.nil) (cloneS_p ((n.keys.take b).drop a) (by simp; omega)) ?_
  refine WpItems.eval (by simp only [go_sem, reduceIte, Nat.reduceEqDiff, Nat.reduceAdd, Bool.false_eq_true, Bool.true_beq, Bool.false_beq, Bool.not_true, Bool.not_false]; exact rfl) ?_
  refine WpItems.nil ⟨by simp [pairsQ, pairsOk, apart, ent0], ?_⟩
  refine Wp.seq ?_
  cases hlf : n.leaf with
  | true =>
    have h4 : (b : Int) ≤ (n.vals.length : Int) := by have := hl hlf; omega
    refine Wp.seqReg (by simp only [go_sem, reduceIte, Nat.reduceEqDiff, Nat.reduceAdd, Bool.false_eq_true, Bool.true_beq, Bool.false_beq, Bool.not_true, Bool.not_false]; exact rfl) (by trivial) ?_
    refine Wp.cond_true (by simp only [go_sem, reduceIte, Nat.reduceEqDiff, Nat.reduceAdd, Bool.false_eq_true, Bool.true_beq, Bool.false_beq, Bool.not_true, Bool.not_false, hlf]) ?_
    refine Wp.items (by simp only [go_sem, reduceIte, Nat.reduceEqDiff, Nat.reduceAdd, Bool.false_eq_true, Bool.true_beq, Bool.false_beq, Bool.not_true, Bool.not_false, Int.toNat_natCast, h0, h1, h2, h3, h4, and_self, if_true, true_or, strs_take, strs_drop]; exact rfl) ?_
    refine WpItems.pcall (by simp only [go_sem, reduceIte, Nat.reduceEqDiff, Nat.reduceAdd, Bool.false_eq_true, Bool.true_beq, Bool.false_beq, Bool.not_true, Bool.not_false]) (by simp only [go_sem, reduceIte, Nat.reduceEqDiff, Nat.reduceAdd, Bool.false_eq_true, Bool.true_beq, Bool.false_beq, Bool.not_true, Bool.not_false, List.map]; exact VSubs.cons VSub.cap VSubs.nil) (cloneS_p ((n.vals.take b).drop a) (by simp; omega)) ?_
    refine WpItems.eval (by simp only [go_sem, reduceIte, Nat.reduceEqDiff, Nat.reduceAdd, Bool.false_eq_true, Bool.true_beq, Bool.false_beq, Bool.not_true, Bool.not_false]; exact rfl) ?_
    refine WpItems.nil ⟨by simp [pairsQ, pairsOk, apart, ent0], ?_⟩
    refine Wp.seqReg (by simp only [go_sem, reduceIte, Nat.reduceEqDiff, Nat.reduceAdd, Bool.false_eq_true, Bool.true_beq, Bool.false_beq, Bool.not_true, Bool.not_false]; exact rfl) (by trivial) ?_
    refine Wp.ret ⟨trivial, _, rfl, ?_⟩
    simp only [go_sem, reduceIte, Nat.reduceEqDiff, Nat.reduceAdd, Bool.false_eq_true, Bool.true_beq, Bool.false_beq, Bool.not_true, Bool.not_false]
    simp only [part, encNode, hlf, if_true]
    exact VSub.agg (VSubs.cons (VSub.refl _) (VSubs.cons (VSub.refl _) (VSubs.cons (VSub.refl _) (VSubs.cons VSub.cap VSubs.nil))))
  | false =>
    have h4 : ((b + 1 : Nat) : Int) ≤ (n.kids.length : Int) := by have := hi hlf; omega
    have h5 : (0 : Int) ≤ ((b + 1 : Nat) : Int) := by omega
    have h6 : (a : Int) ≤ ((b + 1 : Nat) : Int) := by omega
    have e1 : IntKind.i64.wrap ((b : Int) + 1) = ((b + 1 : Nat) : Int) := by rw [IntWalk.i64_in _ (by omega)]; omega
    refine Wp.seqReg (by simp only [go_sem, reduceIte, Nat.reduceEqDiff, Nat.reduceAdd, Bool.false_eq_true, Bool.true_beq, Bool.false_beq, Bool.not_true, Bool.not_false]; exact rfl) (by trivial) ?_
    refine Wp.cond_false (by simp only [go_sem, reduceIte, Nat.reduceEqDiff, Nat.reduceAdd, Bool.false_eq_true, Bool.true_beq, Bool.false_beq, Bool.not_true, Bool.not_false, hlf]) ?_
    refine Wp.items (by simp only [go_sem, reduceIte, Nat.reduceEqDiff, Nat.reduceAdd, Bool.false_eq_true, Bool.true_beq, Bool.false_beq, Bool.not_true, Bool.not_false, e1, Int.toNat_natCast, h0, h1, h2, h3, h4, h5, h6, and_self, if_true, true_or, ints_take, ints_drop]; exact rfl) ?_
    refine WpItems.pcall (by simp only [go_sem, reduceIte, Nat.reduceEqDiff, Nat.reduceAdd, Bool.false_eq_true, Bool.true_beq, Bool.false_beq, Bool.not_true, Bool.not_false]) (by simp only [go_sem, reduceIte, Nat.reduceEqDiff, Nat.reduceAdd, Bool.false_eq_true, Bool.true_beq, Bool.false_beq, Bool.not_true, Bool.not_false, List.map]; exact VSubs.cons VSub.cap VSubs.nil) (cloneI_p ((n.kids.take (b + 1)).drop a) (by simp; omega)) ?_
    refine WpItems.eval (by simp only [go_sem, reduceIte, Nat.reduceEqDiff, Nat.reduceAdd, Bool.false_eq_true, Bool.true_beq, Bool.false_beq, Bool.not_true, Bool.not_false]; exact rfl) ?_
    refine WpItems.nil ⟨by simp [pairsQ, pairsOk, apart, ent0], ?_⟩
    refine Wp.seqReg (by simp only [go_sem, reduceIte, Nat.reduceEqDiff, Nat.reduceAdd, Bool.false_eq_true, Bool.true_beq, Bool.false_beq, Bool.not_true, Bool.not_false]; exact rfl) (by trivial) ?_
    refine Wp.ret ⟨trivial, _, rfl, ?_⟩
    simp only [go_sem, reduceIte, Nat.reduceEqDiff, Nat.reduceAdd, Bool.false_eq_true, Bool.true_beq, Bool.false_beq, Bool.not_true, Bool.not_false]
    simp only [part, encNode, hlf, if_false, Bool.false_eq_true]
    exact VSub.agg (VSubs.cons (VSub.refl _) (VSubs.cons (VSub.refl _) (VSubs.cons VSub.cap (VSubs.cons (VSub.refl _) VSubs.nil))))

theorem partR_p (n : Node) (hs : Ns n) (a b : Nat) (hab : a ≤ b) (hb : b ≤ n.keys.length) (hl : n.leaf = true → b ≤ n.vals.length) (hi : n.leaf = false → b + 1 ≤ n.kids.length) : PCalls Try.prog 39 [encNode n, .int .i64 a, .int .i64 b] (encNode (part n a b)) := by
  refine f39.pcalls0 (by simp) (by simp [allPure, encNode_pure, isPure]) (encNode_pure _) ?_
  obtain ⟨sk, sv, si⟩ := hs
  unfold c39
  have h0 : (0 : Int) ≤ (a : Int) := by omega
  have h1 : (0 : Int) ≤ (b : Int) := by omega
  have h2 : (a : Int) ≤ (b : Int) := by omega
  have h3 : (b : Int) ≤ (n.keys.length : Int) := by omega
  have g1 : (0 + ((n.keys.take b).drop a).length) * 16 ≤ 140737488355328 := by simp; omega
  have g2 : 0 + ((n.keys.take b).drop a).length < 4611686018427387904 := by simp; omega
  rw [Nat.zero_add] at g1 g2
  refine Wp.seqReg (by simp only [go_sem, reduceIte, Nat.reduceEqDiff, Nat.reduceAdd, Bool.false_eq_true, Bool.true_beq, Bool.false_beq, Bool.not_true, Bool.not_false, encNode]; exact rfl) (by trivial) ?_
  refine Wp.seqReg (by simp only [go_sem, reduceIte, Nat.reduceEqDiff, Nat.reduceAdd, Bool.false_eq_true, Bool.true_beq, Bool.false_beq, Bool.not_true, Bool.not_false, Int.toNat_natCast, h0, h1, h2, h3, and_self, if_true, true_or, or_true, strs_take, strs_drop, Nat.zero_mul, Nat.zero_le, decide_true, g1, g2]; exact rfl) (by simp [pairsQ, pairsOk, apart, ent0]) ?_
  refine Wp.seq ?_
  cases hlf : n.leaf with
  | true =>
    have h4 : (b : Int) ≤ (n.vals.length : Int) := by have := hl hlf; omega
    have g3 : ((n.vals.take b).drop a).length * 16 ≤ 140737488355328 := by simp; omega
    have g4 : ((n.vals.take b).drop a).length < 4611686018427387904 := by simp; omega
    refine Wp.seqReg (by simp only [go_sem, reduceIte, Nat.reduceEqDiff, Nat.reduceAdd, Bool.false_eq_true, Bool.true_beq, Bool.false_beq, Bool.not_true, Bool.not_false]; exact rfl) (by trivial) ?_
    refine Wp.cond_true (by simp only [go_sem, reduceIte, Nat.reduceEqDiff, Nat.reduceAdd, Bool.false_eq_true, Bool.true_beq, Bool.false_beq, Bool.not_true, Bool.not_false, hlf]) ?_
    refine Wp.reg1 (by simp only [go_sem, reduceIte, Nat.reduceEqDiff, Nat.reduceAdd, Bool.false_eq_true, Bool.true_beq, Bool.false_beq, Bool.not_true, Bool.not_false, Int.toNat_natCast, h0, h1, h2, h3, h4, and_self, if_true, true_or, or_true, strs_take, strs_drop, Nat.zero_mul, Nat.zero_le, decide_true, g3, g4]; exact rfl) (by simp [pairsQ, pairsOk, apart, ent0]) ?_
    refine Wp.seqReg (by simp only [go_sem, reduceIte, Nat.reduceEqDiff, Nat.reduceAdd, Bool.false_eq_true, Bool.true_beq, Bool.false_beq, Bool.not_true, Bool.not_false]; exact rfl) (by trivial) ?_
    refine Wp.ret ⟨trivial, _, rfl, ?_⟩
    simp only [go_sem, reduceIte, Nat.reduceEqDiff, Nat.reduceAdd, Bool.false_eq_true, Bool.true_beq, Bool.false_beq, Bool.not_true, Bool.not_false]
    simp only [part, encNode, hlf, if_true]
    exact VSub.agg (VSubs.cons (VSub.refl _) (VSubs.cons VSub.cap (VSubs.cons VSub.cap (VSubs.cons VSub.cap VSubs.nil))))
  | false =>
    have h4 : ((b + 1 : Nat) : Int) ≤ (n.kids.length : Int) := by have := hi hlf; omega
    have h5 : (0 : Int) ≤ ((b + 1 : Nat) : Int) := by omega
    have h6 : (a : Int) ≤ ((b + 1 : Nat) : Int) := by omega
    have e1 : IntKind.i64.wrap ((b : Int) + 1) = ((b + 1 : Nat) : Int) := by rw [IntWalk.i64_in _ (by omega)]; omega
    have g3 : ((n.kids.take (b + 1)).drop a).length * 8 ≤ 140737488355328 := by simp; omega
    have g4 : ((n.kids.take (b + 1)).drop a).length < 4611686018427387904 := by simp; omega
    refine Wp.seqReg (by simp only [go_sem, reduceIte, Nat.reduceEqDiff, Nat.reduceAdd, Bool.false_eq_true, Bool.true_beq, Bool.false_beq, Bool.not_true, Bool.not_false]; exact rfl) (by trivial) ?_
    refine Wp.cond_false (by simp only [go_sem, reduceIte, Nat.reduceEqDiff, Nat.reduceAdd, Bool.false_eq_true, Bool.true_beq, Bool.false_beq, Bool.not_true, Bool.not_false, hlf]) ?_
    refine Wp.reg1 (by simp only [go_sem, reduceIte, Nat.reduceEqDiff, Nat.reduceAdd, Bool.false_eq_true, Bool.true_beq, Bool.false_beq, Bool.not_true, Bool.not_false, e1, Int.toNat_natCast, h0, h1, h2, h3, h4, h5, h6, and_self, if_true, true_or, or_true, ints_take, ints_drop, Nat.zero_mul, Nat.zero_le, decide_true, g3, g4]; exact rfl) (by simp [pairsQ, pairsOk, apart, ent0]) ?_
    refine Wp.seqReg (by simp only [go_sem, reduceIte, Nat.reduceEqDiff, Nat.reduceAdd, Bool.false_eq_true, Bool.true_beq, Bool.false_beq, Bool.not_true, Bool.not_false]; exact rfl) (by trivial) ?_
    refine Wp.ret ⟨trivial, _, rfl, ?_⟩
    simp only [go_sem, reduceIte, Nat.reduceEqDiff, Nat.reduceAdd, Bool.false_eq_true, Bool.true_beq, Bool.false_beq, Bool.not_true, Bool.not_false]
    simp only [part, encNode, hlf, if_false, Bool.false_eq_true]
    exact VSub.agg (VSubs.cons (VSub.refl _) (VSubs.cons VSub.cap (VSubs.cons VSub.cap (VSubs.cons VSub.cap VSubs.nil))))
end Go.Proofs.Ytgainpikomhepaa.Page
