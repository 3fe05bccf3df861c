/- Chapter 08: the document's put. -/
import Derived.Test.YtgainpikomhepaaPageG
set_option linter.unusedSimpArgs false
set_option linter.unusedVariables false
set_option maxRecDepth 10000
namespace Go.Proofs.Ytgainpikomhepaa.Page
open Go Go.Av Go.Proofs Go.Proofs.Ytgainpikomhepaa.C

theorem putR_p (n : Node) (hn : Nb n) (hr : Right n) (hs : size n ≤ 1024) : PCalls Try.prog 33 [encNode n] (.str (bytesOf n)) := by
  refine f33.pcalls (by simp) (allPure_ok _ (enc1_pure n)) (isPure_ok _ rfl) fun k m => ?_
  obtain ⟨hk, hv, hi, htk, htv⟩ := hn
  unfold c33
  refine Wp.seqReg (by simp only [go_sem, reduceIte, Nat.reduceEqDiff, Nat.reduceAdd, Bool.false_eq_true, Bool.true_beq, Bool.false_beq, Bool.not_true, Bool.not_false, encNode]; exact rfl) (by trivial) ?_
  refine Wp.seqReg (by simp only [go_sem, reduceIte, Nat.reduceEqDiff, Nat.reduceAdd, Bool.false_eq_true, Bool.true_beq, Bool.false_beq, Bool.not_true, Bool.not_false]; exact rfl) (by trivial) ?_
  refine Wp.seqJoinK [1] (by simp only [go_sem, reduceIte, Nat.reduceEqDiff, Nat.reduceAdd, Bool.false_eq_true, Bool.true_beq, Bool.false_beq, Bool.not_true, Bool.not_false, List.map]; exact rfl) [(3, .str (if n.leaf then [76] else [73]))] ?_ ?_
  · refine Wp.seqReg (by simp only [go_sem, reduceIte, Nat.reduceEqDiff, Nat.reduceAdd, Bool.false_eq_true, Bool.true_beq, Bool.false_beq, Bool.not_true, Bool.not_false]; exact rfl) (by trivial) ?_
    refine Wp.cond_split (b := n.leaf) (by simp only [go_sem, reduceIte, Nat.reduceEqDiff, Nat.reduceAdd, Bool.false_eq_true, Bool.true_beq, Bool.false_beq, Bool.not_true, Bool.not_false]) (fun hc => ?_) (fun hc => ?_)
    · rw [hc]
      refine Wp.reg1 (by simp only [go_sem, reduceIte, Nat.reduceEqDiff, Nat.reduceAdd, Bool.false_eq_true, Bool.true_beq, Bool.false_beq, Bool.not_true, Bool.not_false]; exact rfl) (by trivial) ?_
      refine StLe.tm (by simp only [AllSub, go_sem, reduceIte, Nat.reduceEqDiff, Nat.reduceAdd, Bool.false_eq_true, Bool.true_beq, Bool.false_beq, Bool.not_true, Bool.not_false]; and_intros <;> first | exact trivial | exact VSub.refl _ | exact VSub.any _ | (refine VSub.int ?_; omega))
    · rw [hc]
      refine Wp.skip ?_
      refine StLe.tm (by simp only [AllSub, go_sem, reduceIte, Nat.reduceEqDiff, Nat.reduceAdd, Bool.false_eq_true, Bool.true_beq, Bool.false_beq, Bool.not_true, Bool.not_false]; and_intros <;> first | exact trivial | exact VSub.refl _ | exact VSub.any _ | (refine VSub.int ?_; omega))
  · have e1 : (if n.leaf then [76] else [73] : List UInt8).length + (be 2 n.keys.length).length < 9223372036854775808 := by rw [be_length]; split <;> simp
    refine Wp.seqItems (by simp only [go_sem, reduceIte, Nat.reduceEqDiff, Nat.reduceAdd, Bool.false_eq_true, Bool.true_beq, Bool.false_beq, Bool.not_true, Bool.not_false]; exact rfl) ?_
    refine WpItems.pcall (by simp only [go_sem, reduceIte, Nat.reduceEqDiff, Nat.reduceAdd, Bool.false_eq_true, Bool.true_beq, Bool.false_beq, Bool.not_true, Bool.not_false]) (by simp only [go_sem, reduceIte, Nat.reduceEqDiff, Nat.reduceAdd, Bool.false_eq_true, Bool.true_beq, Bool.false_beq, Bool.not_true, Bool.not_false, List.map]; exact VSubs.refl _) (fieldR_p n.keys.length (by omega) 2 (by omega)) ?_
    refine WpItems.eval (by simp only [go_sem, reduceIte, Nat.reduceEqDiff, Nat.reduceAdd, Bool.false_eq_true, Bool.true_beq, Bool.false_beq, Bool.not_true, Bool.not_false, e1, if_true]; exact rfl) ?_
    refine WpItems.nil ⟨by simp [pairsQ, pairsOk, apart, ent0], ?_⟩
    refine Wp.seqJoinK [1] (by simp only [go_sem, reduceIte, Nat.reduceEqDiff, Nat.reduceAdd, Bool.false_eq_true, Bool.true_beq, Bool.false_beq, Bool.not_true, Bool.not_false, List.map]; exact rfl) [(3, .str (head n))] ?_ ?_
    · refine Wp.seqReg (by simp only [go_sem, reduceIte, Nat.reduceEqDiff, Nat.reduceAdd, Bool.false_eq_true, Bool.true_beq, Bool.false_beq, Bool.not_true, Bool.not_false]; exact rfl) (by trivial) ?_
      refine Wp.cond_split (b := !n.leaf) (by simp only [go_sem, reduceIte, Nat.reduceEqDiff, Nat.reduceAdd, Bool.false_eq_true, Bool.true_beq, Bool.false_beq, Bool.not_true, Bool.not_false]) (fun hc => ?_) (fun hc => ?_)
      · have hl : n.leaf = false := by simpa using hc
        have h0 := hr.kid hl 0 (by omega)
        have h1 := hr.kids hl
        have h2 : (0 : Int) < (n.kids.length : Int) := by omega
        have h3 : 0 < n.kids.length := by omega
        rw [hl] at e1 ⊢
        simp only [Bool.false_eq_true, if_false] at e1 ⊢
        have e2 : ([73] ++ be 2 n.keys.length).length + (be 4 (n.kids.getD 0 0).toNat).length < 9223372036854775808 := by simp [be_length]
        refine Wp.items (by simp only [go_sem, reduceIte, Nat.reduceEqDiff, Nat.reduceAdd, Bool.false_eq_true, Bool.true_beq, Bool.false_beq, Bool.not_true, Bool.not_false, Int.toNat_zero, ints_getD _ _ _ h3, h2, and_self, if_true, Int.le_refl]; exact rfl) ?_
        refine WpItems.pcall (by simp only [go_sem, reduceIte, Nat.reduceEqDiff, Nat.reduceAdd, Bool.false_eq_true, Bool.true_beq, Bool.false_beq, Bool.not_true, Bool.not_false]) (by simp only [go_sem, reduceIte, Nat.reduceEqDiff, Nat.reduceAdd, Bool.false_eq_true, Bool.true_beq, Bool.false_beq, Bool.not_true, Bool.not_false, List.map]; exact VSubs.cons (VSub.int (by omega)) (VSubs.refl _)) (fieldR_p (n.kids.getD 0 0).toNat (by omega) 4 (by omega)) ?_
        refine WpItems.eval (by simp only [go_sem, reduceIte, Nat.reduceEqDiff, Nat.reduceAdd, Bool.false_eq_true, Bool.true_beq, Bool.false_beq, Bool.not_true, Bool.not_false, e2, if_true]; exact rfl) ?_
        refine WpItems.nil ⟨by trivial, ?_⟩
        refine StLe.tm (by simp only [AllSub, go_sem, reduceIte, Nat.reduceEqDiff, Nat.reduceAdd, Bool.false_eq_true, Bool.true_beq, Bool.false_beq, Bool.not_true, Bool.not_false]; and_intros <;> first | exact trivial | exact VSub.refl _ | exact VSub.any _ | exact VSub.of_eq (by simp [head, hl]) | (refine VSub.int ?_; omega))
      · have hl : n.leaf = true := by simpa using hc
        rw [hl] at e1 ⊢
        refine Wp.skip ?_
        refine StLe.tm (by simp only [AllSub, go_sem, reduceIte, Nat.reduceEqDiff, Nat.reduceAdd, Bool.false_eq_true, Bool.true_beq, Bool.false_beq, Bool.not_true, Bool.not_false]; and_intros <;> first | exact trivial | exact VSub.refl _ | exact VSub.any _ | exact VSub.of_eq (by simp [head, hl]) | (refine VSub.int ?_; omega))
    · refine Wp.seq ?_
      refine Wp.seqReg (by simp only [go_sem, reduceIte, Nat.reduceEqDiff, Nat.reduceAdd, Bool.false_eq_true, Bool.true_beq, Bool.false_beq, Bool.not_true, Bool.not_false]; exact rfl) (by trivial) ?_
      refine Wp.block ?_
      refine Wp.loopK [1] (by simp only [go_sem, reduceIte, Nat.reduceEqDiff, Nat.reduceAdd, Bool.false_eq_true, Bool.true_beq, Bool.false_beq, Bool.not_true, Bool.not_false, List.map]; exact rfl) (fun j : Nat => [(3, .str (head n ++ rows n j)), (4, .int .i64 j)]) (fun j => j ≤ n.keys.length) (fun j => n.keys.length - j) 0 (Nat.zero_le _) ?_ ?_
      · simp only [AllSub, go_sem, reduceIte, Nat.reduceEqDiff, Nat.reduceAdd, Bool.false_eq_true, Bool.true_beq, Bool.false_beq, Bool.not_true, Bool.not_false, rows]; and_intros <;> first | exact trivial | exact VSub.refl _ | exact VSub.any _ | (refine VSub.int ?_; omega)
      · intro j hj
        refine Wp.seq ?_
        refine Wp.seqReg (by simp only [go_sem, reduceIte, Nat.reduceEqDiff, Nat.reduceAdd, Bool.false_eq_true, Bool.true_beq, Bool.false_beq, Bool.not_true, Bool.not_false]; exact rfl) (by trivial) ?_
        refine Wp.cond_split (b := decide ((j : Int) < (n.keys.length : Int))) (by simp only [go_sem, reduceIte, Nat.reduceEqDiff, Nat.reduceAdd, Bool.false_eq_true, Bool.true_beq, Bool.false_beq, Bool.not_true, Bool.not_false]) (fun hc => ?_) (fun hc => ?_)
        · have h1 : (0 : Int) ≤ (j : Int) := by omega
          have h2 : (j : Int) < (n.keys.length : Int) := by simpa using hc
          have h3 : j < n.keys.length := by omega
          have hz := size_rows n hr j hj
          have hkl := hr.keys j h3
          refine Wp.skip ?_
          refine Wp.seqJoinK [1, 4] (by simp only [go_sem, reduceIte, Nat.reduceEqDiff, Nat.reduceAdd, Bool.false_eq_true, Bool.true_beq, Bool.false_beq, Bool.not_true, Bool.not_false, List.map]; exact rfl) [(3, .str (head n ++ rows n (j + 1)))] ?_ ?_
          · refine Wp.block ?_
            have e1 : (head n ++ rows n j).length + (be 1 (n.keys.getD j []).length).length < 9223372036854775808 := by rw [be_length]; omega
            have e2 : (head n ++ rows n j ++ be 1 (n.keys.getD j []).length).length + (n.keys.getD j []).length < 9223372036854775808 := by rw [List.length_append, be_length]; omega
            refine Wp.seqItems (by simp only [go_sem, reduceIte, Nat.reduceEqDiff, Nat.reduceAdd, Bool.false_eq_true, Bool.true_beq, Bool.false_beq, Bool.not_true, Bool.not_false, Int.toNat_natCast, strs_getD _ _ _ h3, h1, h2, and_self, if_true]; exact rfl) ?_
            refine WpItems.pcall (by simp only [go_sem, reduceIte, Nat.reduceEqDiff, Nat.reduceAdd, Bool.false_eq_true, Bool.true_beq, Bool.false_beq, Bool.not_true, Bool.not_false]) (by simp only [go_sem, reduceIte, Nat.reduceEqDiff, Nat.reduceAdd, Bool.false_eq_true, Bool.true_beq, Bool.false_beq, Bool.not_true, Bool.not_false, List.map]; exact VSubs.refl _) (fieldR_p (n.keys.getD j []).length (by omega) 1 (by omega)) ?_
            refine WpItems.eval (by simp only [go_sem, reduceIte, Nat.reduceEqDiff, Nat.reduceAdd, Bool.false_eq_true, Bool.true_beq, Bool.false_beq, Bool.not_true, Bool.not_false, e1, e2, Int.toNat_natCast, strs_getD _ _ _ h3, h1, h2, and_self, if_true]; exact rfl) ?_
            refine WpItems.nil ⟨by simp [pairsQ, pairsOk, apart, ent0], ?_⟩
            by_cases hl : n.leaf = true
            · have hvl := hr.vals hl
              have h4 : (j : Int) < (n.vals.length : Int) := by omega
              have h5 : j < n.vals.length := by omega
              have h4' : decide ((j : Int) < (n.vals.length : Int)) = true := decide_eq_true h4
              have hvv := hr.val hl j h3
              rw [hl]
              refine Wp.seqJoinK [1, 4] (by simp only [go_sem, reduceIte, Nat.reduceEqDiff, Nat.reduceAdd, Bool.false_eq_true, Bool.true_beq, Bool.false_beq, Bool.not_true, Bool.not_false, List.map]; exact rfl) [(3, .str (head n ++ rows n (j + 1)))] ?_ ?_
              · refine Wp.seqReg (by simp only [go_sem, reduceIte, Nat.reduceEqDiff, Nat.reduceAdd, Bool.false_eq_true, Bool.true_beq, Bool.false_beq, Bool.not_true, Bool.not_false, h4']; exact rfl) (by trivial) ?_
                refine Wp.cond_true (by simp only [go_sem, reduceIte, Nat.reduceEqDiff, Nat.reduceAdd, Bool.false_eq_true, Bool.true_beq, Bool.false_beq, Bool.not_true, Bool.not_false]) ?_
                have e3 : (head n ++ rows n j ++ be 1 (n.keys.getD j []).length ++ n.keys.getD j []).length + (be 2 (n.vals.getD j []).length).length < 9223372036854775808 := by rw [List.length_append, List.length_append, be_length, be_length]; omega
                have e4 : (head n ++ rows n j ++ be 1 (n.keys.getD j []).length ++ n.keys.getD j [] ++ be 2 (n.vals.getD j []).length).length + (n.vals.getD j []).length < 9223372036854775808 := by rw [List.length_append, List.length_append, List.length_append, be_length, be_length]; omega
                refine Wp.items (by simp only [go_sem, reduceIte, Nat.reduceEqDiff, Nat.reduceAdd, Bool.false_eq_true, Bool.true_beq, Bool.false_beq, Bool.not_true, Bool.not_false, Int.toNat_natCast, strs_getD _ _ _ h5, h1, h4, and_self, if_true]; exact rfl) ?_
                refine WpItems.pcall (by simp only [go_sem, reduceIte, Nat.reduceEqDiff, Nat.reduceAdd, Bool.false_eq_true, Bool.true_beq, Bool.false_beq, Bool.not_true, Bool.not_false]) (by simp only [go_sem, reduceIte, Nat.reduceEqDiff, Nat.reduceAdd, Bool.false_eq_true, Bool.true_beq, Bool.false_beq, Bool.not_true, Bool.not_false, List.map]; exact VSubs.refl _) (fieldR_p (n.vals.getD j []).length (by omega) 2 (by omega)) ?_
                refine WpItems.eval (by simp only [go_sem, reduceIte, Nat.reduceEqDiff, Nat.reduceAdd, Bool.false_eq_true, Bool.true_beq, Bool.false_beq, Bool.not_true, Bool.not_false, e3, e4, Int.toNat_natCast, strs_getD _ _ _ h5, h1, h4, and_self, if_true]; exact rfl) ?_
                refine WpItems.nil ⟨by simp [pairsQ, pairsOk, apart, ent0], ?_⟩
                refine StLe.tm (by simp only [AllSub, go_sem, reduceIte, Nat.reduceEqDiff, Nat.reduceAdd, Bool.false_eq_true, Bool.true_beq, Bool.false_beq, Bool.not_true, Bool.not_false]; and_intros <;> first | exact trivial | exact VSub.refl _ | exact VSub.any _ | exact VSub.of_eq (by simp [rows, row, hl]) | (refine VSub.int ?_; omega))
              · refine Wp.seqReg (by simp only [go_sem, reduceIte, Nat.reduceEqDiff, Nat.reduceAdd, Bool.false_eq_true, Bool.true_beq, Bool.false_beq, Bool.not_true, Bool.not_false]; exact rfl) (by trivial) ?_
                refine Wp.cond_false (by simp only [go_sem, reduceIte, Nat.reduceEqDiff, Nat.reduceAdd, Bool.false_eq_true, Bool.true_beq, Bool.false_beq, Bool.not_true, Bool.not_false]) ?_
                refine Wp.skip ?_
                refine StLe.tm (by simp only [AllSub, go_sem, reduceIte, Nat.reduceEqDiff, Nat.reduceAdd, Bool.false_eq_true, Bool.true_beq, Bool.false_beq, Bool.not_true, Bool.not_false]; and_intros <;> first | exact trivial | exact VSub.refl _ | exact VSub.any _ | (refine VSub.int ?_; omega))
            · have hl' : n.leaf = false := by simpa using hl
              have hkl' := hr.kids hl'
              rw [hl']
              have hkk := hr.kid hl' (j + 1) (by omega)
              have hw : IntKind.i64.wrap ((j : Int) + 1) = ((j + 1 : Nat) : Int) := by rw [IntWalk.i64_in _ (by omega)]; omega
              have h4 : ((j + 1 : Nat) : Int) < (n.kids.length : Int) := by omega
              have h4a : (0 : Int) ≤ ((j + 1 : Nat) : Int) := by omega
              have h5 : j + 1 < n.kids.length := by omega
              have h4' : decide (((j + 1 : Nat) : Int) < (n.kids.length : Int)) = true := decide_eq_true h4
              refine Wp.seqJoinK [1, 4] (by simp only [go_sem, reduceIte, Nat.reduceEqDiff, Nat.reduceAdd, Bool.false_eq_true, Bool.true_beq, Bool.false_beq, Bool.not_true, Bool.not_false, List.map]; exact rfl) [(3, .str (head n ++ rows n j ++ be 1 (n.keys.getD j []).length ++ n.keys.getD j []))] ?_ ?_
              · refine Wp.seqReg (by simp only [go_sem, reduceIte, Nat.reduceEqDiff, Nat.reduceAdd, Bool.false_eq_true, Bool.true_beq, Bool.false_beq, Bool.not_true, Bool.not_false]; exact rfl) (by trivial) ?_
                refine Wp.cond_false (by simp only [go_sem, reduceIte, Nat.reduceEqDiff, Nat.reduceAdd, Bool.false_eq_true, Bool.true_beq, Bool.false_beq, Bool.not_true, Bool.not_false]) ?_
                refine Wp.skip ?_
                refine StLe.tm (by simp only [AllSub, go_sem, reduceIte, Nat.reduceEqDiff, Nat.reduceAdd, Bool.false_eq_true, Bool.true_beq, Bool.false_beq, Bool.not_true, Bool.not_false]; and_intros <;> first | exact trivial | exact VSub.refl _ | exact VSub.any _ | (refine VSub.int ?_; omega))
              · refine Wp.seqReg (by simp only [go_sem, reduceIte, Nat.reduceEqDiff, Nat.reduceAdd, Bool.false_eq_true, Bool.true_beq, Bool.false_beq, Bool.not_true, Bool.not_false, hw, h4']; exact rfl) (by trivial) ?_
                refine Wp.cond_true (by simp only [go_sem, reduceIte, Nat.reduceEqDiff, Nat.reduceAdd, Bool.false_eq_true, Bool.true_beq, Bool.false_beq, Bool.not_true, Bool.not_false]) ?_
                have e3 : (head n ++ rows n j ++ be 1 (n.keys.getD j []).length ++ n.keys.getD j []).length + (be 4 (n.kids.getD (j + 1) 0).toNat).length < 9223372036854775808 := by rw [List.length_append, List.length_append, be_length, be_length]; omega
                refine Wp.items (by simp only [go_sem, reduceIte, Nat.reduceEqDiff, Nat.reduceAdd, Bool.false_eq_true, Bool.true_beq, Bool.false_beq, Bool.not_true, Bool.not_false, hw, Int.toNat_natCast, ints_getD _ _ _ h5, h4a, h4, and_self, if_true]; exact rfl) ?_
                refine WpItems.pcall (by simp only [go_sem, reduceIte, Nat.reduceEqDiff, Nat.reduceAdd, Bool.false_eq_true, Bool.true_beq, Bool.false_beq, Bool.not_true, Bool.not_false]) (by simp only [go_sem, reduceIte, Nat.reduceEqDiff, Nat.reduceAdd, Bool.false_eq_true, Bool.true_beq, Bool.false_beq, Bool.not_true, Bool.not_false, List.map]; exact VSubs.cons (VSub.int (by omega)) (VSubs.refl _)) (fieldR_p (n.kids.getD (j + 1) 0).toNat (by omega) 4 (by omega)) ?_
                refine WpItems.eval (by simp only [go_sem, reduceIte, Nat.reduceEqDiff, Nat.reduceAdd, Bool.false_eq_true, Bool.true_beq, Bool.false_beq, Bool.not_true, Bool.not_false, e3, if_true]; exact rfl) ?_
                refine WpItems.nil ⟨by trivial, ?_⟩
                refine StLe.tm (by simp only [AllSub, go_sem, reduceIte, Nat.reduceEqDiff, Nat.reduceAdd, Bool.false_eq_true, Bool.true_beq, Bool.false_beq, Bool.not_true, Bool.not_false]; and_intros <;> first | exact trivial | exact VSub.refl _ | exact VSub.any _ | exact VSub.of_eq (by simp [rows, row, hl']) | (refine VSub.int ?_; omega))
          · refine Wp.reg1 (by simp only [go_sem, reduceIte, Nat.reduceEqDiff, Nat.reduceAdd, Bool.false_eq_true, Bool.true_beq, Bool.false_beq, Bool.not_true, Bool.not_false]; simp (disch := omega) only [IntWalk.i64_in]; exact rfl) (by trivial) ?_
            refine ⟨j + 1, by omega, by omega, ?_⟩
            refine StLe.tm (by simp only [AllSub, go_sem, reduceIte, Nat.reduceEqDiff, Nat.reduceAdd, Bool.false_eq_true, Bool.true_beq, Bool.false_beq, Bool.not_true, Bool.not_false]; and_intros <;> first | exact trivial | exact VSub.refl _ | exact VSub.any _ | (refine VSub.int ?_; omega))
        · have hc' : ¬ (j : Int) < (n.keys.length : Int) := by simpa using hc
          obtain rfl : j = n.keys.length := by omega
          have htl := text_length n hr.vals
          refine Wp.exit ?_
          change Wp _ _ _ ⟨_, _⟩ _
          have ht : head n ++ rows n n.keys.length = text n := rfl
          rw [ht]
          have hw : IntKind.i64.wrap (1024 - ((text n).length : Int)) = ((1024 - size n : Nat) : Int) := by rw [IntWalk.i64_in _ (by omega)]; omega
          have g1 : (0 : Int) ≤ ((1024 - size n : Nat) : Int) := by omega
          have g2 : ((1024 - size n : Nat) : Int) * ((1 : Nat) : Int) ≤ 140737488355328 := by omega
          have g3 : ((1024 - size n : Nat) : Int) < 9223372036854775808 := by omega
          have hrep : List.replicate (1024 - size n) (AV.int .u8 0) = bytesAV (List.replicate (1024 - size n) 0) := by simp [bytesAV, byte]
          have e1 : (text n).length + (List.replicate (1024 - size n) (0 : UInt8)).length < 9223372036854775808 := by rw [List.length_replicate]; omega
          refine Wp.seqReg (by simp only [go_sem, reduceIte, Nat.reduceEqDiff, Nat.reduceAdd, Bool.false_eq_true, Bool.true_beq, Bool.false_beq, Bool.not_true, Bool.not_false, hw, g1, g2, g3, Int.le_refl, Int.toNat_natCast, and_self, true_and, if_true, hrep, unBytes_bytes, true_or, e1]; exact rfl) (by trivial) ?_
          refine Wp.ret ⟨trivial, _, rfl, ?_⟩
          simp only [go_sem, reduceIte, Nat.reduceEqDiff, Nat.reduceAdd, Bool.false_eq_true, Bool.true_beq, Bool.false_beq, Bool.not_true, Bool.not_false]
          exact VSub.refl _
end Go.Proofs.Ytgainpikomhepaa.Page
