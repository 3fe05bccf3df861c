/- Chapter 08: the document's Size, Stands, Check; the program's Check. -/
import Derived.Test.YtgainpikomhepaaPageD
set_option linter.unusedSimpArgs false
set_option linter.unusedVariables false
set_option maxRecDepth 10000
namespace Go.Proofs.Ytgainpikomhepaa.Page
open Go Go.Av Go.Proofs Go.Proofs.Ytgainpikomhepaa.C

theorem sizeR_p (n : Node) (hn : Nb n) : PCalls Try.prog 16 [encNode n] (.int .i64 (size n)) := by
  refine f16.pcalls (by simp) (allPure_ok _ (enc1_pure n)) (isPure_ok _ rfl) fun k m => ?_
  obtain ⟨hk, hv, hi, htk, htv⟩ := hn
  unfold c16
  refine Wp.seqReg (by simp only [go_sem, reduceIte, Nat.reduceEqDiff, Nat.reduceAdd, Bool.false_eq_true, Bool.true_beq, Bool.false_beq, Bool.not_true, Bool.not_false, encNode]; exact rfl) (by trivial) ?_
  refine Wp.seqReg (by simp only [go_sem, reduceIte, Nat.reduceEqDiff, Nat.reduceAdd, Bool.false_eq_true, Bool.true_beq, Bool.false_beq, Bool.not_true, Bool.not_false]; exact rfl) (by trivial) ?_
  refine Wp.seq ?_
  refine Wp.seqReg (by simp only [go_sem, reduceIte, Nat.reduceEqDiff, Nat.reduceAdd, Bool.false_eq_true, Bool.true_beq, Bool.false_beq, Bool.not_true, Bool.not_false]; exact rfl) (by trivial) ?_
  refine Wp.block ?_
  refine Wp.loopK [1] (by simp only [go_sem, reduceIte, Nat.reduceEqDiff, Nat.reduceAdd, Bool.false_eq_true, Bool.true_beq, Bool.false_beq, Bool.not_true, Bool.not_false, List.map]; exact rfl) (fun j : Nat => [(3, .int .i64 (3 + (if n.leaf then 3 else 5) * j + tot (n.keys.take j) : Nat)), (4, .int .i64 j)]) (fun j => j ≤ n.keys.length) (fun j => n.keys.length - j) 0 (Nat.zero_le _) ?_ ?_
  · simp only [AllSub, go_sem, reduceIte, Nat.reduceEqDiff, Nat.reduceAdd, Bool.false_eq_true, Bool.true_beq, Bool.false_beq, Bool.not_true, Bool.not_false, tot, List.take_zero, List.map_nil, List.sum_nil, Nat.mul_zero]; and_intros <;> first | exact trivial | exact VSub.refl _ | exact VSub.any _ | (refine VSub.int ?_; omega)
  · intro j hj
    have hE : (if n.leaf then 3 else 5) * j ≤ 5 * j := Nat.mul_le_mul_right j (by split <;> omega)
    refine Wp.seq ?_
    refine Wp.seqReg (by simp only [go_sem, reduceIte, Nat.reduceEqDiff, Nat.reduceAdd, Bool.false_eq_true, Bool.true_beq, Bool.false_beq, Bool.not_true, Bool.not_false]; exact rfl) (by trivial) ?_
    refine Wp.cond_split (b := decide ((j : Int) < (n.keys.length : Int))) (by simp only [go_sem, reduceIte, Nat.reduceEqDiff, Nat.reduceAdd, Bool.false_eq_true, Bool.true_beq, Bool.false_beq, Bool.not_true, Bool.not_false]) (fun hc => ?_) (fun hc => ?_)
    · have h1 : (0 : Int) ≤ (j : Int) := by omega
      have h2 : (j : Int) < (n.keys.length : Int) := by simpa using hc
      have h3 : j < n.keys.length := by omega
      have hts := tot_snoc n.keys j h3
      have htt := tot_take n.keys (j + 1)
      refine Wp.skip ?_
      refine Wp.seqJoinK [1, 4] (by simp only [go_sem, reduceIte, Nat.reduceEqDiff, Nat.reduceAdd, Bool.false_eq_true, Bool.true_beq, Bool.false_beq, Bool.not_true, Bool.not_false, List.map]; exact rfl) [(3, .int .i64 (3 + (if n.leaf then 3 else 5) * (j + 1) + tot (n.keys.take (j + 1)) : Nat))] ?_ ?_
      · refine Wp.block ?_
        refine Wp.seqReg (by simp only [go_sem, reduceIte, Nat.reduceEqDiff, Nat.reduceAdd, Bool.false_eq_true, Bool.true_beq, Bool.false_beq, Bool.not_true, Bool.not_false, Int.toNat_natCast, strs_getD _ _ _ h3, h1, h2, and_self, if_true]; simp (disch := omega) only [IntWalk.i64_in]; exact rfl) (by trivial) ?_
        refine Wp.seqReg (by simp only [go_sem, reduceIte, Nat.reduceEqDiff, Nat.reduceAdd, Bool.false_eq_true, Bool.true_beq, Bool.false_beq, Bool.not_true, Bool.not_false]; exact rfl) (by trivial) ?_
        refine Wp.cond_split (b := n.leaf) (by simp only [go_sem, reduceIte, Nat.reduceEqDiff, Nat.reduceAdd, Bool.false_eq_true, Bool.true_beq, Bool.false_beq, Bool.not_true, Bool.not_false]) (fun hf => ?_) (fun hf => ?_)
        · rw [hf] at hE ⊢
          simp only [if_true] at hE ⊢
          refine Wp.reg1 (by simp only [go_sem, reduceIte, Nat.reduceEqDiff, Nat.reduceAdd, Bool.false_eq_true, Bool.true_beq, Bool.false_beq, Bool.not_true, Bool.not_false]; simp (disch := omega) only [IntWalk.i64_in]; exact rfl) (by trivial) ?_
          refine StLe.tm (by simp only [AllSub, go_sem, reduceIte, Nat.reduceEqDiff, Nat.reduceAdd, Bool.false_eq_true, Bool.true_beq, Bool.false_beq, Bool.not_true, Bool.not_false]; and_intros <;> first | exact trivial | exact VSub.refl _ | exact VSub.any _ | (refine VSub.int ?_; omega))
        · rw [hf] at hE ⊢
          simp only [if_false, Bool.false_eq_true] at hE ⊢
          refine Wp.reg1 (by simp only [go_sem, reduceIte, Nat.reduceEqDiff, Nat.reduceAdd, Bool.false_eq_true, Bool.true_beq, Bool.false_beq, Bool.not_true, Bool.not_false]; simp (disch := omega) only [IntWalk.i64_in]; exact rfl) (by trivial) ?_
          refine StLe.tm (by simp only [AllSub, go_sem, reduceIte, Nat.reduceEqDiff, Nat.reduceAdd, Bool.false_eq_true, Bool.true_beq, Bool.false_beq, Bool.not_true, Bool.not_false]; and_intros <;> first | exact trivial | exact VSub.refl _ | exact VSub.any _ | (refine VSub.int ?_; omega))
      · refine Wp.reg1 (by simp only [go_sem, reduceIte, Nat.reduceEqDiff, Nat.reduceAdd, Bool.false_eq_true, Bool.true_beq, Bool.false_beq, Bool.not_true, Bool.not_false]; simp (disch := omega) only [IntWalk.i64_in]; exact rfl) (by trivial) ?_
        refine ⟨j + 1, by omega, by omega, ?_⟩
        refine StLe.tm (by simp only [AllSub, go_sem, reduceIte, Nat.reduceEqDiff, Nat.reduceAdd, Bool.false_eq_true, Bool.true_beq, Bool.false_beq, Bool.not_true, Bool.not_false]; and_intros <;> first | exact trivial | exact VSub.refl _ | exact VSub.any _ | (refine VSub.int ?_; omega))
    · have h2 : ¬ (j : Int) < (n.keys.length : Int) := by simpa using hc
      obtain rfl : j = n.keys.length := by omega
      refine Wp.exit ?_
      refine Wp.seq ?_
      refine Wp.seqReg (by simp only [go_sem, reduceIte, Nat.reduceEqDiff, Nat.reduceAdd, Bool.false_eq_true, Bool.true_beq, Bool.false_beq, Bool.not_true, Bool.not_false]; exact rfl) (by trivial) ?_
      rw [List.take_length]
      refine Wp.cond_split (b := !n.leaf) (by simp only [go_sem, reduceIte, Nat.reduceEqDiff, Nat.reduceAdd, Bool.false_eq_true, Bool.true_beq, Bool.false_beq, Bool.not_true, Bool.not_false]) (fun hf => ?_) (fun hf => ?_)
      · have hf' : n.leaf = false := by simpa using hf
        rw [hf'] at hE ⊢
        simp only [if_false, Bool.false_eq_true] at hE ⊢
        refine Wp.seqReg (by simp only [go_sem, reduceIte, Nat.reduceEqDiff, Nat.reduceAdd, Bool.false_eq_true, Bool.true_beq, Bool.false_beq, Bool.not_true, Bool.not_false]; simp (disch := omega) only [IntWalk.i64_in]; exact rfl) (by trivial) ?_
        refine Wp.ret ⟨trivial, _, rfl, ?_⟩
        simp only [go_sem, reduceIte, Nat.reduceEqDiff, Nat.reduceAdd, Bool.false_eq_true, Bool.true_beq, Bool.false_beq, Bool.not_true, Bool.not_false]
        refine VSub.int ?_
        simp only [size, hf', if_false, Bool.false_eq_true]
        omega
      · have hf' : n.leaf = true := by simpa using hf
        rw [hf'] at hE ⊢
        simp only [if_true] at hE ⊢
        refine Wp.skip ?_
        refine Wp.seq ?_
        refine Wp.seqReg (by simp only [go_sem, reduceIte, Nat.reduceEqDiff, Nat.reduceAdd, Bool.false_eq_true, Bool.true_beq, Bool.false_beq, Bool.not_true, Bool.not_false]; exact rfl) (by trivial) ?_
        refine Wp.block ?_
        refine Wp.loopK [1] (by simp only [go_sem, reduceIte, Nat.reduceEqDiff, Nat.reduceAdd, Bool.false_eq_true, Bool.true_beq, Bool.false_beq, Bool.not_true, Bool.not_false, List.map]; exact rfl) (fun j : Nat => [(3, .int .i64 (3 + 3 * n.keys.length + tot n.keys + tot (n.vals.take j) : Nat)), (5, .int .i64 j)]) (fun j => j ≤ n.vals.length) (fun j => n.vals.length - j) 0 (Nat.zero_le _) ?_ ?_
        · simp only [AllSub, go_sem, reduceIte, Nat.reduceEqDiff, Nat.reduceAdd, Bool.false_eq_true, Bool.true_beq, Bool.false_beq, Bool.not_true, Bool.not_false, tot, List.take_zero, List.map_nil, List.sum_nil, Nat.mul_zero]; and_intros <;> first | exact trivial | exact VSub.refl _ | exact VSub.any _ | (refine VSub.int ?_; omega)
        · intro j hj
          refine Wp.seq ?_
          refine Wp.seqReg (by simp only [go_sem, reduceIte, Nat.reduceEqDiff, Nat.reduceAdd, Bool.false_eq_true, Bool.true_beq, Bool.false_beq, Bool.not_true, Bool.not_false]; exact rfl) (by trivial) ?_
          refine Wp.cond_split (b := decide ((j : Int) < (n.vals.length : Int))) (by simp only [go_sem, reduceIte, Nat.reduceEqDiff, Nat.reduceAdd, Bool.false_eq_true, Bool.true_beq, Bool.false_beq, Bool.not_true, Bool.not_false]) (fun hc => ?_) (fun hc => ?_)
          · have h1 : (0 : Int) ≤ (j : Int) := by omega
            have h2 : (j : Int) < (n.vals.length : Int) := by simpa using hc
            have h3 : j < n.vals.length := by omega
            have hts := tot_snoc n.vals j h3
            have htt := tot_take n.vals (j + 1)
            refine Wp.skip ?_
            refine Wp.seq ?_
            refine Wp.block ?_
            refine Wp.reg1 (by simp only [go_sem, reduceIte, Nat.reduceEqDiff, Nat.reduceAdd, Bool.false_eq_true, Bool.true_beq, Bool.false_beq, Bool.not_true, Bool.not_false, Int.toNat_natCast, strs_getD _ _ _ h3, h1, h2, and_self, if_true]; simp (disch := omega) only [IntWalk.i64_in]; exact rfl) (by trivial) ?_
            refine Wp.reg1 (by simp only [go_sem, reduceIte, Nat.reduceEqDiff, Nat.reduceAdd, Bool.false_eq_true, Bool.true_beq, Bool.false_beq, Bool.not_true, Bool.not_false]; simp (disch := omega) only [IntWalk.i64_in]; exact rfl) (by trivial) ?_
            refine ⟨j + 1, by omega, by omega, ?_⟩
            refine StLe.tm (by simp only [AllSub, go_sem, reduceIte, Nat.reduceEqDiff, Nat.reduceAdd, Bool.false_eq_true, Bool.true_beq, Bool.false_beq, Bool.not_true, Bool.not_false]; and_intros <;> first | exact trivial | exact VSub.refl _ | exact VSub.any _ | (refine VSub.int ?_; omega))
          · have h2 : ¬ (j : Int) < (n.vals.length : Int) := by simpa using hc
            obtain rfl : j = n.vals.length := by omega
            refine Wp.exit ?_
            refine Wp.seqReg (by simp only [go_sem, reduceIte, Nat.reduceEqDiff, Nat.reduceAdd, Bool.false_eq_true, Bool.true_beq, Bool.false_beq, Bool.not_true, Bool.not_false]; exact rfl) (by trivial) ?_
            refine Wp.ret ⟨trivial, _, rfl, ?_⟩
            simp only [go_sem, reduceIte, Nat.reduceEqDiff, Nat.reduceAdd, Bool.false_eq_true, Bool.true_beq, Bool.false_beq, Bool.not_true, Bool.not_false]
            rw [List.take_length]
            refine VSub.int ?_
            simp only [size, hf', if_true]

theorem standsR_p (n : Node) (hn : Nb n) : PCalls Try.prog 35 [encNode n] (.bool (right n)) := by
  refine f35.pcalls (by simp) (allPure_ok _ (enc1_pure n)) (isPure_ok _ rfl) fun k m => ?_
  obtain ⟨hk, hv, hi, htk, htv⟩ := hn
  have hlen : ∀ i, (n.keys.getD i []).length ≤ 1152921504606846976 := fun i => by
    by_cases h : i < n.keys.length
    · have h1 := tot_snoc n.keys i h
      have h2 := tot_take n.keys (i + 1)
      omega
    · rw [List.getD_eq_getElem?_getD, List.getElem?_eq_none (by omega)]; simp
  unfold c35
  refine Wp.seqReg (by simp only [go_sem, reduceIte, Nat.reduceEqDiff, Nat.reduceAdd, Bool.false_eq_true, Bool.true_beq, Bool.false_beq, Bool.not_true, Bool.not_false, encNode]; exact rfl) (by trivial) ?_
  refine Wp.seq ?_
  refine Wp.seqReg (by simp only [go_sem, reduceIte, Nat.reduceEqDiff, Nat.reduceAdd, Bool.false_eq_true, Bool.true_beq, Bool.false_beq, Bool.not_true, Bool.not_false]; exact rfl) (by trivial) ?_
  refine Wp.block ?_
  refine Wp.loopK [1] (by simp only [go_sem, reduceIte, Nat.reduceEqDiff, Nat.reduceAdd, Bool.false_eq_true, Bool.true_beq, Bool.false_beq, Bool.not_true, Bool.not_false, List.map]; exact rfl) (fun j : Nat => [(3, .int .i64 j)]) (fun j => j ≤ n.keys.length ∧ ∀ i, i < j → keyOk n.keys i = true) (fun j => n.keys.length - j) 0 ⟨Nat.zero_le _, fun i h => absurd h (by omega)⟩ ?_ ?_
  · simp only [AllSub, go_sem, reduceIte, Nat.reduceEqDiff, Nat.reduceAdd, Bool.false_eq_true, Bool.true_beq, Bool.false_beq, Bool.not_true, Bool.not_false]; and_intros <;> first | exact trivial | exact VSub.refl _ | exact VSub.any _ | (refine VSub.int ?_; omega)
  · intro j hj
    obtain ⟨hj, hs⟩ := hj
    refine Wp.seq ?_
    refine Wp.seqReg (by simp only [go_sem, reduceIte, Nat.reduceEqDiff, Nat.reduceAdd, Bool.false_eq_true, Bool.true_beq, Bool.false_beq, Bool.not_true, Bool.not_false]; exact rfl) (by trivial) ?_
    refine Wp.cond_split (b := decide ((j : Int) < (n.keys.length : Int))) (by simp only [go_sem, reduceIte, Nat.reduceEqDiff, Nat.reduceAdd, Bool.false_eq_true, Bool.true_beq, Bool.false_beq, Bool.not_true, Bool.not_false]) (fun hc => ?_) (fun hc => ?_)
    · have h1 : (0 : Int) ≤ (j : Int) := by omega
      have h2 : (j : Int) < (n.keys.length : Int) := by simpa using hc
      have h3 : j < n.keys.length := by omega
      refine Wp.skip ?_
      refine Wp.seq ?_
      refine Wp.block ?_
      by_cases hl : (n.keys.getD j []).length ≤ 128
      · have hl' : decide ((128 : Int) < ((n.keys.getD j []).length : Int)) = false := decide_eq_false (by omega)
        by_cases h0 : j = 0
        · have h0' : decide ((0 : Int) < (j : Int)) = false := decide_eq_false (by omega)
          refine Wp.seqReg (by simp only [go_sem, reduceIte, Nat.reduceEqDiff, Nat.reduceAdd, Bool.false_eq_true, Bool.true_beq, Bool.false_beq, Bool.not_true, Bool.not_false, hl', h0', Int.toNat_natCast, strs_getD _ _ _ h3, h1, h2, and_self, if_true]; exact rfl) (by simp [pairsQ, pairsOk, apart, ent0]) ?_
          refine Wp.cond_false (by simp only [go_sem, reduceIte, Nat.reduceEqDiff, Nat.reduceAdd, Bool.false_eq_true, Bool.true_beq, Bool.false_beq, Bool.not_true, Bool.not_false, Bool.and_false]) ?_
          refine Wp.skip ?_
          refine Wp.reg1 (by simp only [go_sem, reduceIte, Nat.reduceEqDiff, Nat.reduceAdd, Bool.false_eq_true, Bool.true_beq, Bool.false_beq, Bool.not_true, Bool.not_false]; simp (disch := omega) only [IntWalk.i64_in]; exact rfl) (by trivial) ?_
          refine ⟨j + 1, ⟨by omega, fun i h => ?_⟩, by omega, ?_⟩
          · obtain rfl : i = j := by omega
            subst h0
            simp only [keyOk, decide_true, Bool.true_or, Bool.and_true, decide_eq_true_eq]; exact hl
          · refine StLe.tm (by simp only [AllSub, go_sem, reduceIte, Nat.reduceEqDiff, Nat.reduceAdd, Bool.false_eq_true, Bool.true_beq, Bool.false_beq, Bool.not_true, Bool.not_false]; and_intros <;> first | exact trivial | exact VSub.refl _ | exact VSub.any _ | (refine VSub.int ?_; omega))
        · have h0' : decide ((0 : Int) < (j : Int)) = true := decide_eq_true (by omega)
          have hw : IntKind.i64.wrap ((j : Int) - 1) = ((j - 1 : Nat) : Int) := by rw [IntWalk.i64_in _ (by omega)]; omega
          have h5 : (0 : Int) ≤ ((j - 1 : Nat) : Int) := by omega
          have h6 : ((j - 1 : Nat) : Int) < (n.keys.length : Int) := by omega
          have h7 : j - 1 < n.keys.length := by omega
          refine Wp.seqItems (by simp only [go_sem, reduceIte, Nat.reduceEqDiff, Nat.reduceAdd, Bool.false_eq_true, Bool.true_beq, Bool.false_beq, Bool.not_true, Bool.not_false, hl', h0', hw, Int.toNat_natCast, strs_getD _ _ _ h3, strs_getD _ _ _ h7, h1, h2, h5, h6, and_self, if_true]; exact rfl) ?_
          refine WpItems.pcall (by simp only [go_sem, reduceIte, Nat.reduceEqDiff, Nat.reduceAdd, Bool.false_eq_true, Bool.true_beq, Bool.false_beq, Bool.not_true, Bool.not_false]) (by simp only [go_sem, reduceIte, Nat.reduceEqDiff, Nat.reduceAdd, Bool.false_eq_true, Bool.true_beq, Bool.false_beq, Bool.not_true, Bool.not_false, List.map]; exact VSubs.refl _) (below_p (n.keys.getD (j - 1) []) (n.keys.getD j []) (by have := hlen (j - 1); unfold Ls; omega) (by have := hlen j; unfold Ls; omega)) ?_
          refine WpItems.eval (by simp only [go_sem, reduceIte, Nat.reduceEqDiff, Nat.reduceAdd, Bool.false_eq_true, Bool.true_beq, Bool.false_beq, Bool.not_true, Bool.not_false]; exact rfl) ?_
          refine WpItems.nil ⟨by simp [pairsQ, pairsOk, apart, ent0], ?_⟩
          refine Wp.cond_split (b := !Op.bytesLess (n.keys.getD (j - 1) []) (n.keys.getD j [])) (by simp only [go_sem, reduceIte, Nat.reduceEqDiff, Nat.reduceAdd, Bool.false_eq_true, Bool.true_beq, Bool.false_beq, Bool.not_true, Bool.not_false]) (fun hd => ?_) (fun hd => ?_)
          · have hko : keyOk n.keys j = false := by simp only [keyOk]; simp at hd; simp [h0]; intro; exact hd
            refine Wp.seqReg (by simp only [go_sem, reduceIte, Nat.reduceEqDiff, Nat.reduceAdd, Bool.false_eq_true, Bool.true_beq, Bool.false_beq, Bool.not_true, Bool.not_false]; exact rfl) (by trivial) ?_
            refine Wp.ret ⟨trivial, _, rfl, ?_⟩
            simp only [go_sem, reduceIte, Nat.reduceEqDiff, Nat.reduceAdd, Bool.false_eq_true, Bool.true_beq, Bool.false_beq, Bool.not_true, Bool.not_false]
            rw [right, keysOk_false h3 hko, Bool.false_and]
            exact VSub.refl _
          · refine Wp.skip ?_
            refine Wp.reg1 (by simp only [go_sem, reduceIte, Nat.reduceEqDiff, Nat.reduceAdd, Bool.false_eq_true, Bool.true_beq, Bool.false_beq, Bool.not_true, Bool.not_false]; simp (disch := omega) only [IntWalk.i64_in]; exact rfl) (by trivial) ?_
            refine ⟨j + 1, ⟨by omega, fun i h => ?_⟩, by omega, ?_⟩
            · by_cases he : i = j
              · subst he
                simp at hd
                simp only [keyOk, Bool.and_eq_true, decide_eq_true_eq, Bool.or_eq_true]
                exact ⟨hl, .inr hd⟩
              · exact hs i (by omega)
            · refine StLe.tm (by simp only [AllSub, go_sem, reduceIte, Nat.reduceEqDiff, Nat.reduceAdd, Bool.false_eq_true, Bool.true_beq, Bool.false_beq, Bool.not_true, Bool.not_false]; and_intros <;> first | exact trivial | exact VSub.refl _ | exact VSub.any _ | (refine VSub.int ?_; omega))
      · have hl' : decide ((128 : Int) < ((n.keys.getD j []).length : Int)) = true := decide_eq_true (by omega)
        refine Wp.seqReg (by simp only [go_sem, reduceIte, Nat.reduceEqDiff, Nat.reduceAdd, Bool.false_eq_true, Bool.true_beq, Bool.false_beq, Bool.not_true, Bool.not_false, hl', Int.toNat_natCast, strs_getD _ _ _ h3, h1, h2, and_self, if_true]; exact rfl) (by simp [pairsQ, pairsOk, apart, ent0]) ?_
        refine Wp.cond_true (by simp only [go_sem, reduceIte, Nat.reduceEqDiff, Nat.reduceAdd, Bool.false_eq_true, Bool.true_beq, Bool.false_beq, Bool.not_true, Bool.not_false]) ?_
        refine Wp.seqReg (by simp only [go_sem, reduceIte, Nat.reduceEqDiff, Nat.reduceAdd, Bool.false_eq_true, Bool.true_beq, Bool.false_beq, Bool.not_true, Bool.not_false]; exact rfl) (by trivial) ?_
        refine Wp.ret ⟨trivial, _, rfl, ?_⟩
        simp only [go_sem, reduceIte, Nat.reduceEqDiff, Nat.reduceAdd, Bool.false_eq_true, Bool.true_beq, Bool.false_beq, Bool.not_true, Bool.not_false]
        have hko : keyOk n.keys j = false := by simp only [keyOk]; rw [decide_eq_false (by omega), Bool.false_and]
        rw [right, keysOk_false h3 hko, Bool.false_and]
        exact VSub.refl _
    · have hc' : ¬ (j : Int) < (n.keys.length : Int) := by simpa using hc
      have hko := keysOk_true fun i h => hs i (by omega)
      refine Wp.exit ?_
      refine Wp.seq ?_
      refine Wp.seqReg (by simp only [go_sem, reduceIte, Nat.reduceEqDiff, Nat.reduceAdd, Bool.false_eq_true, Bool.true_beq, Bool.false_beq, Bool.not_true, Bool.not_false]; exact rfl) (by trivial) ?_
      rw [right, hko, Bool.true_and]
      refine Wp.cond_split (b := !n.leaf) (by simp only [go_sem, reduceIte, Nat.reduceEqDiff, Nat.reduceAdd, Bool.false_eq_true, Bool.true_beq, Bool.false_beq, Bool.not_true, Bool.not_false]) (fun hf => ?_) (fun hf => ?_)
      · have hf' : n.leaf = false := by simpa using hf
        rw [hf']
        simp only [Bool.false_eq_true, if_false]
        refine Wp.seq ?_
        refine Wp.seqReg (by simp only [go_sem, reduceIte, Nat.reduceEqDiff, Nat.reduceAdd, Bool.false_eq_true, Bool.true_beq, Bool.false_beq, Bool.not_true, Bool.not_false]; exact rfl) (by trivial) ?_
        refine Wp.block ?_
        refine Wp.loopK [1] (by simp only [go_sem, reduceIte, Nat.reduceEqDiff, Nat.reduceAdd, Bool.false_eq_true, Bool.true_beq, Bool.false_beq, Bool.not_true, Bool.not_false, List.map]; exact rfl) (fun j : Nat => [(4, .int .i64 j)]) (fun j => j ≤ n.kids.length ∧ ∀ i, i < j → stray (n.kids.getD i 0) = false) (fun j => n.kids.length - j) 0 ⟨Nat.zero_le _, fun i h => absurd h (by omega)⟩ ?_ ?_
        · simp only [AllSub, go_sem, reduceIte, Nat.reduceEqDiff, Nat.reduceAdd, Bool.false_eq_true, Bool.true_beq, Bool.false_beq, Bool.not_true, Bool.not_false]; and_intros <;> first | exact trivial | exact VSub.refl _ | exact VSub.any _ | (refine VSub.int ?_; omega)
        · intro j hj
          obtain ⟨hj, hs⟩ := hj
          refine Wp.seq ?_
          refine Wp.seqReg (by simp only [go_sem, reduceIte, Nat.reduceEqDiff, Nat.reduceAdd, Bool.false_eq_true, Bool.true_beq, Bool.false_beq, Bool.not_true, Bool.not_false]; exact rfl) (by trivial) ?_
          refine Wp.cond_split (b := decide ((j : Int) < (n.kids.length : Int))) (by simp only [go_sem, reduceIte, Nat.reduceEqDiff, Nat.reduceAdd, Bool.false_eq_true, Bool.true_beq, Bool.false_beq, Bool.not_true, Bool.not_false]) (fun hc => ?_) (fun hc => ?_)
          · have h1 : (0 : Int) ≤ (j : Int) := by omega
            have h2 : (j : Int) < (n.kids.length : Int) := by simpa using hc
            have h3 : j < n.kids.length := by omega
            refine Wp.skip ?_
            refine Wp.seq ?_
            refine Wp.block ?_
            have hst : stray (n.kids.getD j 0) = true → n.kids.any stray = true := fun h => List.any_eq_true.2 ⟨_, by rw [List.getD_eq_getElem?_getD, List.getElem?_eq_getElem h3]; exact List.getElem_mem h3, h⟩
            by_cases hb : n.kids.getD j 0 < 0
            · have hb' : decide (n.kids.getD j 0 < 0) = true := by simpa using hb
              refine Wp.seqReg (by simp only [go_sem, reduceIte, Nat.reduceEqDiff, Nat.reduceAdd, Bool.false_eq_true, Bool.true_beq, Bool.false_beq, Bool.not_true, Bool.not_false, Int.toNat_natCast, ints_getD _ _ _ h3, h1, h2, and_self, if_true, hb']; exact rfl) (by trivial) ?_
              refine Wp.cond_true (by simp only [go_sem, reduceIte, Nat.reduceEqDiff, Nat.reduceAdd, Bool.false_eq_true, Bool.true_beq, Bool.false_beq, Bool.not_true, Bool.not_false]) ?_
              refine Wp.seqReg (by simp only [go_sem, reduceIte, Nat.reduceEqDiff, Nat.reduceAdd, Bool.false_eq_true, Bool.true_beq, Bool.false_beq, Bool.not_true, Bool.not_false]; exact rfl) (by trivial) ?_
              refine Wp.ret ⟨trivial, _, rfl, ?_⟩
              simp only [go_sem, reduceIte, Nat.reduceEqDiff, Nat.reduceAdd, Bool.false_eq_true, Bool.true_beq, Bool.false_beq, Bool.not_true, Bool.not_false]
              rw [hst (by simp only [stray, hb', Bool.true_or]), Bool.not_true, Bool.and_false]
              exact VSub.refl _
            · have hb' : decide (n.kids.getD j 0 < 0) = false := decide_eq_false hb
              refine Wp.seqReg (by simp only [go_sem, reduceIte, Nat.reduceEqDiff, Nat.reduceAdd, Bool.false_eq_true, Bool.true_beq, Bool.false_beq, Bool.not_true, Bool.not_false, Int.toNat_natCast, ints_getD _ _ _ h3, h1, h2, and_self, if_true, hb']; exact rfl) (by trivial) ?_
              refine Wp.cond_split (b := decide (16384 ≤ n.kids.getD j 0)) (by simp only [go_sem, reduceIte, Nat.reduceEqDiff, Nat.reduceAdd, Bool.false_eq_true, Bool.true_beq, Bool.false_beq, Bool.not_true, Bool.not_false]) (fun hd => ?_) (fun hd => ?_)
              · refine Wp.seqReg (by simp only [go_sem, reduceIte, Nat.reduceEqDiff, Nat.reduceAdd, Bool.false_eq_true, Bool.true_beq, Bool.false_beq, Bool.not_true, Bool.not_false]; exact rfl) (by trivial) ?_
                refine Wp.ret ⟨trivial, _, rfl, ?_⟩
                simp only [go_sem, reduceIte, Nat.reduceEqDiff, Nat.reduceAdd, Bool.false_eq_true, Bool.true_beq, Bool.false_beq, Bool.not_true, Bool.not_false]
                rw [hst (by simp only [stray, hd, Bool.or_true]), Bool.not_true, Bool.and_false]
                exact VSub.refl _
              · refine Wp.skip ?_
                refine Wp.reg1 (by simp only [go_sem, reduceIte, Nat.reduceEqDiff, Nat.reduceAdd, Bool.false_eq_true, Bool.true_beq, Bool.false_beq, Bool.not_true, Bool.not_false]; simp (disch := omega) only [IntWalk.i64_in]; exact rfl) (by trivial) ?_
                refine ⟨j + 1, ⟨by omega, fun i h => ?_⟩, by omega, ?_⟩
                · by_cases he : i = j
                  · subst he; simp only [stray, hd, hb', Bool.or_false]
                  · exact hs i (by omega)
                · refine StLe.tm (by simp only [AllSub, go_sem, reduceIte, Nat.reduceEqDiff, Nat.reduceAdd, Bool.false_eq_true, Bool.true_beq, Bool.false_beq, Bool.not_true, Bool.not_false]; and_intros <;> first | exact trivial | exact VSub.refl _ | exact VSub.any _ | (refine VSub.int ?_; omega))
          · have hc' : ¬ (j : Int) < (n.kids.length : Int) := by simpa using hc
            have hst : n.kids.any stray = false := by
              rw [List.any_eq_false]
              intro x hx
              obtain ⟨i, hi, rfl⟩ := List.mem_iff_getElem.1 hx
              have := hs i (by omega)
              rw [List.getD_eq_getElem?_getD, List.getElem?_eq_getElem hi] at this
              simpa using this
            rw [hst, Bool.not_false, Bool.and_true]
            refine Wp.exit ?_
            have hw : IntKind.i64.wrap ((n.keys.length : Int) + 1) = ((n.keys.length + 1 : Nat) : Int) := by rw [IntWalk.i64_in _ (by omega)]; omega
            by_cases e1 : n.vals.length = 0
            · have e1' : decide ((n.vals.length : Int) = 0) = true := decide_eq_true (by omega)
              refine Wp.seqReg (by simp only [go_sem, reduceIte, Nat.reduceEqDiff, Nat.reduceAdd, Bool.false_eq_true, Bool.true_beq, Bool.false_beq, Bool.not_true, Bool.not_false, e1', hw]; exact rfl) (by trivial) ?_
              refine Wp.ret ⟨trivial, _, rfl, ?_⟩
              simp only [go_sem, reduceIte, Nat.reduceEqDiff, Nat.reduceAdd, Bool.false_eq_true, Bool.true_beq, Bool.false_beq, Bool.not_true, Bool.not_false]
              refine VSub.of_eq ?_
              rw [decide_eq_true e1, Bool.true_and]
              congr 1
              exact decide_eq_decide.2 (by omega)
            · have e1' : decide ((n.vals.length : Int) = 0) = false := decide_eq_false (by omega)
              refine Wp.seqReg (by simp only [go_sem, reduceIte, Nat.reduceEqDiff, Nat.reduceAdd, Bool.false_eq_true, Bool.true_beq, Bool.false_beq, Bool.not_true, Bool.not_false, e1']; exact rfl) (by trivial) ?_
              refine Wp.ret ⟨trivial, _, rfl, ?_⟩
              simp only [go_sem, reduceIte, Nat.reduceEqDiff, Nat.reduceAdd, Bool.false_eq_true, Bool.true_beq, Bool.false_beq, Bool.not_true, Bool.not_false]
              refine VSub.of_eq ?_
              simp [e1]
      · have hf' : n.leaf = true := by simpa using hf
        rw [hf']
        simp only [if_true]
        refine Wp.skip ?_
        refine Wp.seq ?_
        refine Wp.seqReg (by simp only [go_sem, reduceIte, Nat.reduceEqDiff, Nat.reduceAdd, Bool.false_eq_true, Bool.true_beq, Bool.false_beq, Bool.not_true, Bool.not_false]; exact rfl) (by trivial) ?_
        refine Wp.block ?_
        refine Wp.loopK [1] (by simp only [go_sem, reduceIte, Nat.reduceEqDiff, Nat.reduceAdd, Bool.false_eq_true, Bool.true_beq, Bool.false_beq, Bool.not_true, Bool.not_false, List.map]; exact rfl) (fun j : Nat => [(5, .int .i64 j)]) (fun j => j ≤ n.vals.length ∧ ∀ i, i < j → long (n.vals.getD i []) = false) (fun j => n.vals.length - j) 0 ⟨Nat.zero_le _, fun i h => absurd h (by omega)⟩ ?_ ?_
        · simp only [AllSub, go_sem, reduceIte, Nat.reduceEqDiff, Nat.reduceAdd, Bool.false_eq_true, Bool.true_beq, Bool.false_beq, Bool.not_true, Bool.not_false]; and_intros <;> first | exact trivial | exact VSub.refl _ | exact VSub.any _ | (refine VSub.int ?_; omega)
        · intro j hj
          obtain ⟨hj, hs⟩ := hj
          refine Wp.seq ?_
          refine Wp.seqReg (by simp only [go_sem, reduceIte, Nat.reduceEqDiff, Nat.reduceAdd, Bool.false_eq_true, Bool.true_beq, Bool.false_beq, Bool.not_true, Bool.not_false]; exact rfl) (by trivial) ?_
          refine Wp.cond_split (b := decide ((j : Int) < (n.vals.length : Int))) (by simp only [go_sem, reduceIte, Nat.reduceEqDiff, Nat.reduceAdd, Bool.false_eq_true, Bool.true_beq, Bool.false_beq, Bool.not_true, Bool.not_false]) (fun hc => ?_) (fun hc => ?_)
          · have h1 : (0 : Int) ≤ (j : Int) := by omega
            have h2 : (j : Int) < (n.vals.length : Int) := by simpa using hc
            have h3 : j < n.vals.length := by omega
            refine Wp.skip ?_
            refine Wp.seq ?_
            refine Wp.block ?_
            refine Wp.seqReg (by simp only [go_sem, reduceIte, Nat.reduceEqDiff, Nat.reduceAdd, Bool.false_eq_true, Bool.true_beq, Bool.false_beq, Bool.not_true, Bool.not_false, Int.toNat_natCast, strs_getD _ _ _ h3, h1, h2, and_self, if_true]; exact rfl) (by trivial) ?_
            refine Wp.cond_split (b := decide ((200 : Int) < ((n.vals.getD j []).length : Int))) (by simp only [go_sem, reduceIte, Nat.reduceEqDiff, Nat.reduceAdd, Bool.false_eq_true, Bool.true_beq, Bool.false_beq, Bool.not_true, Bool.not_false]) (fun hd => ?_) (fun hd => ?_)
            · have hd' : (200 : Int) < ((n.vals.getD j []).length : Int) := by simpa using hd
              have hst : n.vals.any long = true := List.any_eq_true.2 ⟨n.vals.getD j [], by rw [List.getD_eq_getElem?_getD, List.getElem?_eq_getElem h3]; exact List.getElem_mem h3, decide_eq_true (by omega)⟩
              refine Wp.seqReg (by simp only [go_sem, reduceIte, Nat.reduceEqDiff, Nat.reduceAdd, Bool.false_eq_true, Bool.true_beq, Bool.false_beq, Bool.not_true, Bool.not_false]; exact rfl) (by trivial) ?_
              refine Wp.ret ⟨trivial, _, rfl, ?_⟩
              simp only [go_sem, reduceIte, Nat.reduceEqDiff, Nat.reduceAdd, Bool.false_eq_true, Bool.true_beq, Bool.false_beq, Bool.not_true, Bool.not_false]
              rw [hst, Bool.not_true, Bool.and_false]
              exact VSub.refl _
            · have hd' : ¬ (200 : Int) < ((n.vals.getD j []).length : Int) := of_decide_eq_false hd
              refine Wp.skip ?_
              refine Wp.reg1 (by simp only [go_sem, reduceIte, Nat.reduceEqDiff, Nat.reduceAdd, Bool.false_eq_true, Bool.true_beq, Bool.false_beq, Bool.not_true, Bool.not_false]; simp (disch := omega) only [IntWalk.i64_in]; exact rfl) (by trivial) ?_
              refine ⟨j + 1, ⟨by omega, fun i h => ?_⟩, by omega, ?_⟩
              · by_cases he : i = j
                · subst he; exact decide_eq_false (by omega)
                · exact hs i (by omega)
              · refine StLe.tm (by simp only [AllSub, go_sem, reduceIte, Nat.reduceEqDiff, Nat.reduceAdd, Bool.false_eq_true, Bool.true_beq, Bool.false_beq, Bool.not_true, Bool.not_false]; and_intros <;> first | exact trivial | exact VSub.refl _ | exact VSub.any _ | (refine VSub.int ?_; omega))
          · have hc' : ¬ (j : Int) < (n.vals.length : Int) := by simpa using hc
            have hst : n.vals.any long = false := by
              rw [List.any_eq_false]
              intro x hx
              obtain ⟨i, hi, rfl⟩ := List.mem_iff_getElem.1 hx
              have := hs i (by omega)
              rw [List.getD_eq_getElem?_getD, List.getElem?_eq_getElem hi] at this
              simpa using this
            rw [hst, Bool.not_false, Bool.and_true]
            refine Wp.exit ?_
            by_cases e1 : n.vals.length = n.keys.length
            · have e1' : decide ((n.vals.length : Int) = (n.keys.length : Int)) = true := decide_eq_true (by omega)
              refine Wp.seqReg (by simp only [go_sem, reduceIte, Nat.reduceEqDiff, Nat.reduceAdd, Bool.false_eq_true, Bool.true_beq, Bool.false_beq, Bool.not_true, Bool.not_false, e1']; exact rfl) (by trivial) ?_
              refine Wp.ret ⟨trivial, _, rfl, ?_⟩
              simp only [go_sem, reduceIte, Nat.reduceEqDiff, Nat.reduceAdd, Bool.false_eq_true, Bool.true_beq, Bool.false_beq, Bool.not_true, Bool.not_false]
              refine VSub.of_eq ?_
              rw [decide_eq_true e1, Bool.true_and]
              congr 1
              exact decide_eq_decide.2 (by omega)
            · have e1' : decide ((n.vals.length : Int) = (n.keys.length : Int)) = false := decide_eq_false (by omega)
              refine Wp.seqReg (by simp only [go_sem, reduceIte, Nat.reduceEqDiff, Nat.reduceAdd, Bool.false_eq_true, Bool.true_beq, Bool.false_beq, Bool.not_true, Bool.not_false, e1']; exact rfl) (by trivial) ?_
              refine Wp.ret ⟨trivial, _, rfl, ?_⟩
              simp only [go_sem, reduceIte, Nat.reduceEqDiff, Nat.reduceAdd, Bool.false_eq_true, Bool.true_beq, Bool.false_beq, Bool.not_true, Bool.not_false]
              refine VSub.of_eq ?_
              simp [e1]

def check (n : Node) : Nat := if right n then (if size n ≤ 1024 then 0 else 5) else 2

theorem check_p (n : Node) (hn : Nb n) : PCalls Try.prog 17 [encNode n] (.int .i64 (check n)) := by
  refine f17.pcalls (by simp) (allPure_ok _ (enc1_pure n)) (isPure_ok _ rfl) fun k m => ?_
  unfold c17
  refine Wp.seqReg (by simp only [go_sem, reduceIte, Nat.reduceEqDiff, Nat.reduceAdd, Bool.false_eq_true, Bool.true_beq, Bool.false_beq, Bool.not_true, Bool.not_false, encNode]; exact rfl) (by trivial) ?_
  refine Wp.seq ?_
  refine Wp.block ?_
  refine Wp.seqItems (by simp only [go_sem, reduceIte, Nat.reduceEqDiff, Nat.reduceAdd, Bool.false_eq_true, Bool.true_beq, Bool.false_beq, Bool.not_true, Bool.not_false]; exact rfl) ?_
  refine WpItems.pcall (by simp only [go_sem, reduceIte, Nat.reduceEqDiff, Nat.reduceAdd, Bool.false_eq_true, Bool.true_beq, Bool.false_beq, Bool.not_true, Bool.not_false]) (by simp only [go_sem, reduceIte, Nat.reduceEqDiff, Nat.reduceAdd, Bool.false_eq_true, Bool.true_beq, Bool.false_beq, Bool.not_true, Bool.not_false, List.map]; exact VSubs.refl _) (stands_p n hn) ?_
  refine WpItems.eval (by simp only [go_sem, reduceIte, Nat.reduceEqDiff, Nat.reduceAdd, Bool.false_eq_true, Bool.true_beq, Bool.false_beq, Bool.not_true, Bool.not_false]; exact rfl) ?_
  refine WpItems.nil ⟨by trivial, ?_⟩
  refine Wp.cond_split (b := !right n) (by simp only [go_sem, reduceIte, Nat.reduceEqDiff, Nat.reduceAdd, Bool.false_eq_true, Bool.true_beq, Bool.false_beq, Bool.not_true, Bool.not_false]) (fun hd => ?_) (fun hd => ?_)
  · refine Wp.seqReg (by simp only [go_sem, reduceIte, Nat.reduceEqDiff, Nat.reduceAdd, Bool.false_eq_true, Bool.true_beq, Bool.false_beq, Bool.not_true, Bool.not_false]; exact rfl) (by trivial) ?_
    refine Wp.ret ⟨trivial, _, rfl, ?_⟩
    simp only [go_sem, reduceIte, Nat.reduceEqDiff, Nat.reduceAdd, Bool.false_eq_true, Bool.true_beq, Bool.false_beq, Bool.not_true, Bool.not_false]
    refine VSub.int ?_
    have : right n = false := by simpa using hd
    simp [check, this]
  · have hr : right n = true := by simpa using hd
    refine Wp.seqItems (by simp only [go_sem, reduceIte, Nat.reduceEqDiff, Nat.reduceAdd, Bool.false_eq_true, Bool.true_beq, Bool.false_beq, Bool.not_true, Bool.not_false]; exact rfl) ?_
    refine WpItems.pcall (by simp only [go_sem, reduceIte, Nat.reduceEqDiff, Nat.reduceAdd, Bool.false_eq_true, Bool.true_beq, Bool.false_beq, Bool.not_true, Bool.not_false]) (by simp only [go_sem, reduceIte, Nat.reduceEqDiff, Nat.reduceAdd, Bool.false_eq_true, Bool.true_beq, Bool.false_beq, Bool.not_true, Bool.not_false, List.map]; exact VSubs.refl _) (size_p n hn) ?_
    refine WpItems.eval (by simp only [go_sem, reduceIte, Nat.reduceEqDiff, Nat.reduceAdd, Bool.false_eq_true, Bool.true_beq, Bool.false_beq, Bool.not_true, Bool.not_false]; exact rfl) ?_
    refine WpItems.nil ⟨by trivial, ?_⟩
    refine Wp.cond_split (b := decide ((1024 : Int) < (size n : Int))) (by simp only [go_sem, reduceIte, Nat.reduceEqDiff, Nat.reduceAdd, Bool.false_eq_true, Bool.true_beq, Bool.false_beq, Bool.not_true, Bool.not_false]) (fun he => ?_) (fun he => ?_)
    · have he' : (1024 : Int) < (size n : Int) := by simpa using he
      refine Wp.seqReg (by simp only [go_sem, reduceIte, Nat.reduceEqDiff, Nat.reduceAdd, Bool.false_eq_true, Bool.true_beq, Bool.false_beq, Bool.not_true, Bool.not_false]; exact rfl) (by trivial) ?_
      refine Wp.ret ⟨trivial, _, rfl, ?_⟩
      simp only [go_sem, reduceIte, Nat.reduceEqDiff, Nat.reduceAdd, Bool.false_eq_true, Bool.true_beq, Bool.false_beq, Bool.not_true, Bool.not_false]
      refine VSub.int ?_
      rw [check, if_pos hr, if_neg (by omega)]
      rfl
    · have he' : ¬ (1024 : Int) < (size n : Int) := by simpa using he
      refine Wp.skip ?_
      refine Wp.seqReg (by simp only [go_sem, reduceIte, Nat.reduceEqDiff, Nat.reduceAdd, Bool.false_eq_true, Bool.true_beq, Bool.false_beq, Bool.not_true, Bool.not_false]; exact rfl) (by trivial) ?_
      refine Wp.ret ⟨trivial, _, rfl, ?_⟩
      simp only [go_sem, reduceIte, Nat.reduceEqDiff, Nat.reduceAdd, Bool.false_eq_true, Bool.true_beq, Bool.false_beq, Bool.not_true, Bool.not_false]
      refine VSub.int ?_
      rw [check, if_pos hr, if_pos (by omega)]
      rfl

theorem checkR_p (n : Node) (hn : Nb n) : PCalls Try.prog 18 [encNode n] (.int .i64 (check n)) := by
  refine f18.pcalls (by simp) (allPure_ok _ (enc1_pure n)) (isPure_ok _ rfl) fun k m => ?_
  unfold c18
  refine Wp.seqReg (by simp only [go_sem, reduceIte, Nat.reduceEqDiff, Nat.reduceAdd, Bool.false_eq_true, Bool.true_beq, Bool.false_beq, Bool.not_true, Bool.not_false, encNode]; exact rfl) (by trivial) ?_
  refine Wp.seq ?_
  refine Wp.seqItems (by simp only [go_sem, reduceIte, Nat.reduceEqDiff, Nat.reduceAdd, Bool.false_eq_true, Bool.true_beq, Bool.false_beq, Bool.not_true, Bool.not_false]; exact rfl) ?_
  refine WpItems.pcall (by simp only [go_sem, reduceIte, Nat.reduceEqDiff, Nat.reduceAdd, Bool.false_eq_true, Bool.true_beq, Bool.false_beq, Bool.not_true, Bool.not_false]) (by simp only [go_sem, reduceIte, Nat.reduceEqDiff, Nat.reduceAdd, Bool.false_eq_true, Bool.true_beq, Bool.false_beq, Bool.not_true, Bool.not_false, List.map]; exact VSubs.refl _) (standsR_p n hn) ?_
  refine WpItems.eval (by simp only [go_sem, reduceIte, Nat.reduceEqDiff, Nat.reduceAdd, Bool.false_eq_true, Bool.true_beq, Bool.false_beq, Bool.not_true, Bool.not_false]; exact rfl) ?_
  refine WpItems.nil ⟨by trivial, ?_⟩
  refine Wp.cond_split (b := !right n) (by simp only [go_sem, reduceIte, Nat.reduceEqDiff, Nat.reduceAdd, Bool.false_eq_true, Bool.true_beq, Bool.false_beq, Bool.not_true, Bool.not_false]) (fun hd => ?_) (fun hd => ?_)
  · refine Wp.seqReg (by simp only [go_sem, reduceIte, Nat.reduceEqDiff, Nat.reduceAdd, Bool.false_eq_true, Bool.true_beq, Bool.false_beq, Bool.not_true, Bool.not_false]; exact rfl) (by trivial) ?_
    refine Wp.ret ⟨trivial, _, rfl, ?_⟩
    simp only [go_sem, reduceIte, Nat.reduceEqDiff, Nat.reduceAdd, Bool.false_eq_true, Bool.true_beq, Bool.false_beq, Bool.not_true, Bool.not_false]
    refine VSub.int ?_
    have : right n = false := by simpa using hd
    simp [check, this]
  · have hr : right n = true := by simpa using hd
    refine Wp.skip ?_
    refine Wp.seq ?_
    refine Wp.seqItems (by simp only [go_sem, reduceIte, Nat.reduceEqDiff, Nat.reduceAdd, Bool.false_eq_true, Bool.true_beq, Bool.false_beq, Bool.not_true, Bool.not_false]; exact rfl) ?_
    refine WpItems.pcall (by simp only [go_sem, reduceIte, Nat.reduceEqDiff, Nat.reduceAdd, Bool.false_eq_true, Bool.true_beq, Bool.false_beq, Bool.not_true, Bool.not_false]) (by simp only [go_sem, reduceIte, Nat.reduceEqDiff, Nat.reduceAdd, Bool.false_eq_true, Bool.true_beq, Bool.false_beq, Bool.not_true, Bool.not_false, List.map]; exact VSubs.refl _) (sizeR_p n hn) ?_
    refine WpItems.eval (by simp only [go_sem, reduceIte, Nat.reduceEqDiff, Nat.reduceAdd, Bool.false_eq_true, Bool.true_beq, Bool.false_beq, Bool.not_true, Bool.not_false]; exact rfl) ?_
    refine WpItems.nil ⟨by trivial, ?_⟩
    refine Wp.cond_split (b := decide ((1024 : Int) < (size n : Int))) (by simp only [go_sem, reduceIte, Nat.reduceEqDiff, Nat.reduceAdd, Bool.false_eq_true, Bool.true_beq, Bool.false_beq, Bool.not_true, Bool.not_false]) (fun he => ?_) (fun he => ?_)
    · have he' : (1024 : Int) < (size n : Int) := by simpa using he
      refine Wp.seqReg (by simp only [go_sem, reduceIte, Nat.reduceEqDiff, Nat.reduceAdd, Bool.false_eq_true, Bool.true_beq, Bool.false_beq, Bool.not_true, Bool.not_false]; exact rfl) (by trivial) ?_
      refine Wp.ret ⟨trivial, _, rfl, ?_⟩
      simp only [go_sem, reduceIte, Nat.reduceEqDiff, Nat.reduceAdd, Bool.false_eq_true, Bool.true_beq, Bool.false_beq, Bool.not_true, Bool.not_false]
      refine VSub.int ?_
      rw [check, if_pos hr, if_neg (by omega)]
      rfl
    · have he' : ¬ (1024 : Int) < (size n : Int) := by simpa using he
      refine Wp.skip ?_
      refine Wp.seqReg (by simp only [go_sem, reduceIte, Nat.reduceEqDiff, Nat.reduceAdd, Bool.false_eq_true, Bool.true_beq, Bool.false_beq, Bool.not_true, Bool.not_false]; exact rfl) (by trivial) ?_
      refine Wp.ret ⟨trivial, _, rfl, ?_⟩
      simp only [go_sem, reduceIte, Nat.reduceEqDiff, Nat.reduceAdd, Bool.false_eq_true, Bool.true_beq, Bool.false_beq, Bool.not_true, Bool.not_false]
      refine VSub.int ?_
      rw [check, if_pos hr, if_pos (by omega)]
      rfl
end Go.Proofs.Ytgainpikomhepaa.Page
