/- Chapter 08: Bytes of the program. -/
import Derived.Test.YtgainpikomhepaaPageI
set_option linter.unusedSimpArgs false
set_option linter.unusedVariables false
set_option maxRecDepth 10000
namespace Go.Proofs.Ytgainpikomhepaa.Page
open Go Go.Av Go.Proofs Go.Proofs.Ytgainpikomhepaa.C

theorem bytes_p (n : Node) (hn : Nb n) : PCalls Try.prog 13 [encNode n] (.tup [.sl 1 (bytesAV (outBytes n)) .any, .int .i64 (check n)]) := by
  refine f13.pcalls (by simp) (allPure_ok _ (enc1_pure n)) (isPure_ok _ (by simp [isPure, allPure, capPure, bytes_pure])) fun k m => ?_
  unfold c13
  refine Wp.seqReg (by simp only [go_sem, reduceIte, Nat.reduceEqDiff, Nat.reduceAdd, Bool.false_eq_true, Bool.true_beq, Bool.false_beq, Bool.not_true, Bool.not_false, encNode]; exact rfl) (by trivial) ?_
  refine Wp.seq ?_
  refine Wp.seqItems (by simp only [go_sem, reduceIte, Nat.reduceEqDiff, Nat.reduceAdd, Bool.false_eq_true, Bool.true_beq, Bool.false_beq, Bool.not_true, Bool.not_false]; exact rfl) ?_
  refine WpItems.pcall (by simp only [go_sem, reduceIte, Nat.reduceEqDiff, Nat.reduceAdd, Bool.false_eq_true, Bool.true_beq, Bool.false_beq, Bool.not_true, Bool.not_false]) (by simp only [go_sem, reduceIte, Nat.reduceEqDiff, Nat.reduceAdd, Bool.false_eq_true, Bool.true_beq, Bool.false_beq, Bool.not_true, Bool.not_false, List.map]; exact VSubs.refl _) (check_p n hn) ?_
  refine WpItems.eval (by simp only [go_sem, reduceIte, Nat.reduceEqDiff, Nat.reduceAdd, Bool.false_eq_true, Bool.true_beq, Bool.false_beq, Bool.not_true, Bool.not_false]; exact rfl) ?_
  refine WpItems.nil ⟨by trivial, ?_⟩
  refine Wp.seqReg (by simp only [go_sem, reduceIte, Nat.reduceEqDiff, Nat.reduceAdd, Bool.false_eq_true, Bool.true_beq, Bool.false_beq, Bool.not_true, Bool.not_false]; exact rfl) (by trivial) ?_
  refine Wp.cond_split (b := !decide ((check n : Int) = 0)) (by simp only [go_sem, reduceIte, Nat.reduceEqDiff, Nat.reduceAdd, Bool.false_eq_true, Bool.true_beq, Bool.false_beq, Bool.not_true, Bool.not_false]) (fun hd => ?_) (fun hd => ?_)
  · have h0 : ¬ check n = 0 := by intro h; rw [h] at hd; simp at hd
    refine Wp.seqReg (by simp only [go_sem, reduceIte, Nat.reduceEqDiff, Nat.reduceAdd, Bool.false_eq_true, Bool.true_beq, Bool.false_beq, Bool.not_true, Bool.not_false]; exact rfl) (by trivial) ?_
    refine Wp.ret ⟨trivial, _, rfl, ?_⟩
    simp only [go_sem, reduceIte, Nat.reduceEqDiff, Nat.reduceAdd, Bool.false_eq_true, Bool.true_beq, Bool.false_beq, Bool.not_true, Bool.not_false]
    rw [outBytes, if_neg h0]
    exact VSub.tup (VSubs.cons VSub.nil (VSubs.refl _))
  · have h0 : check n = 0 := by simpa using hd
    obtain ⟨h1, h2⟩ := check_zero h0
    have hr := right_parts h1
    obtain ⟨hk, hv, hi, htk, htv⟩ := hn
    have hks : n.keys.length ≤ 1024 := by unfold size at h2; split at h2 <;> omega
    refine Wp.skip ?_
    refine Wp.seqReg (by simp only [go_sem, reduceIte, Nat.reduceEqDiff, Nat.reduceAdd, Bool.false_eq_true, Bool.true_beq, Bool.false_beq, Bool.not_true, Bool.not_false]; exact rfl) (by trivial) ?_
    refine Wp.seqJoinTok [1] (by simp only [go_sem, reduceIte, Nat.reduceEqDiff, List.map]; exact rfl) (fun tk => [(5, .sl 1 (bytesAV (head n)) (.own tk))]) ?_ fun tk m1 => ?_
    · refine Wp.seqReg (by simp only [go_sem, reduceIte, Nat.reduceEqDiff, Nat.reduceAdd, Bool.false_eq_true, Bool.true_beq, Bool.false_beq, Bool.not_true, Bool.not_false]; exact rfl) (by trivial) ?_
      refine Wp.cond_split (b := n.leaf) (by simp only [go_sem, reduceIte, Nat.reduceEqDiff, Nat.reduceAdd, Bool.false_eq_true, Bool.true_beq, Bool.false_beq, Bool.not_true, Bool.not_false]) (fun hl => ?_) (fun hl => ?_)
      · rw [hl]
        refine Wp.items (by simp only [go_sem, reduceIte, Nat.reduceEqDiff, Nat.reduceAdd, Bool.false_eq_true, Bool.true_beq, Bool.false_beq, Bool.not_true, Bool.not_false, Nat.mul_one, Nat.reduceLeDiff, Nat.reduceLT, true_and, and_self, if_true, decide_true]; exact rfl) ?_
        refine WpItems.tcall m (by simp only [go_sem]) (by simp only [go_sem, reduceIte, Nat.reduceEqDiff, List.map]; exact VSubs.refl _) (by simp only [go_sem]) (put16_p n.keys.length (by omega) [76] (by simp)) fun t1 m1 _ => ?_
        refine WpItems.eval (by simp only [go_sem, reduceIte, Nat.reduceEqDiff, Nat.reduceAdd, Bool.false_eq_true, Bool.true_beq, Bool.false_beq, Bool.not_true, Bool.not_false]; exact rfl) ?_
        refine WpItems.nil ⟨by simp [pairsQ, pairsOk, apart, ent0], ?_⟩
        refine ⟨t1, m1, ?_⟩
        refine StLe.tm (by simp only [AllSub, go_sem, reduceIte, Nat.reduceEqDiff, Nat.reduceAdd, Bool.false_eq_true, Bool.true_beq, Bool.false_beq, Bool.not_true, Bool.not_false]; and_intros <;> first | exact trivial | exact VSub.refl _ | exact VSub.any _ | exact VSub.of_eq (by simp [head, hl]) | (refine VSub.int ?_; omega))
      · rw [hl]
        have g0 := hr.kid hl 0 (by omega)
        have g1 := hr.kids hl
        have g2 : (0 : Int) < (n.kids.length : Int) := by omega
        have g3 : 0 < n.kids.length := by omega
        refine Wp.items (by simp only [go_sem, reduceIte, Nat.reduceEqDiff, Nat.reduceAdd, Bool.false_eq_true, Bool.true_beq, Bool.false_beq, Bool.not_true, Bool.not_false, Nat.mul_one, Nat.reduceLeDiff, Nat.reduceLT, true_and, and_self, if_true, decide_true]; exact rfl) ?_
        refine WpItems.tcall m (by simp only [go_sem]) (by simp only [go_sem, reduceIte, Nat.reduceEqDiff, List.map]; exact VSubs.refl _) (by simp only [go_sem]) (put16_p n.keys.length (by omega) [73] (by simp)) fun t1 m1 _ => ?_
        refine WpItems.eval (by simp only [go_sem, reduceIte, Nat.reduceEqDiff, Nat.reduceAdd, Bool.false_eq_true, Bool.true_beq, Bool.false_beq, Bool.not_true, Bool.not_false, Int.toNat_zero, ints_getD _ _ _ g3, g2, and_self, if_true, Int.le_refl]; exact rfl) ?_
        refine WpItems.tcall t1 (by simp only [go_sem]) (by simp only [go_sem, reduceIte, Nat.reduceEqDiff, List.map]; exact VSubs.cons (VSub.refl _) (VSubs.cons (VSub.int (by omega)) VSubs.nil)) (by simp only [go_sem]) (put32_p (n.kids.getD 0 0).toNat (by omega) ([73] ++ be 2 n.keys.length) (by simp [be_length])) fun t2 m2 _ => ?_
        refine WpItems.eval (by simp only [go_sem, reduceIte, Nat.reduceEqDiff, Nat.reduceAdd, Bool.false_eq_true, Bool.true_beq, Bool.false_beq, Bool.not_true, Bool.not_false]; exact rfl) ?_
        refine WpItems.nil ⟨by simp [pairsQ, pairsOk, apart, ent0], ?_⟩
        refine ⟨t2, m2, ?_⟩
        refine StLe.tm (by simp only [AllSub, go_sem, reduceIte, Nat.reduceEqDiff, Nat.reduceAdd, Bool.false_eq_true, Bool.true_beq, Bool.false_beq, Bool.not_true, Bool.not_false]; and_intros <;> first | exact trivial | exact VSub.refl _ | exact VSub.any _ | exact VSub.of_eq (by simp [head, hl]) | (refine VSub.int ?_; omega))
    · refine Wp.seq ?_
      refine Wp.seqReg (by simp only [go_sem, reduceIte, Nat.reduceEqDiff, Nat.reduceAdd, Bool.false_eq_true, Bool.true_beq, Bool.false_beq, Bool.not_true, Bool.not_false]; exact rfl) (by trivial) ?_
      refine Wp.block ?_
      refine Wp.loopTok [1, 35, 36] (by simp only [go_sem, reduceIte, Nat.reduceEqDiff, List.map]; exact rfl) (fun (j : Nat) tk => [(5, .sl 1 (bytesAV (head n ++ rows n j)) (.own tk)), (37, .int .i64 j)]) (fun j => j ≤ n.keys.length) (fun j => n.keys.length - j) 0 tk (Nat.zero_le _) rfl ?_ ?_
      · simp only [AllSub, go_sem, reduceIte, Nat.reduceEqDiff, Nat.reduceAdd, Bool.false_eq_true, Bool.true_beq, Bool.false_beq, Bool.not_true, Bool.not_false, rows, List.append_nil]; and_intros <;> first | exact trivial | exact VSub.refl _ | exact VSub.any _ | (refine VSub.int ?_; omega)
      · intro j tk m1 hj
        refine Wp.seqReg (by simp only [go_sem, reduceIte, Nat.reduceEqDiff, Nat.reduceAdd, Bool.false_eq_true, Bool.true_beq, Bool.false_beq, Bool.not_true, Bool.not_false]; exact rfl) (by trivial) ?_
        refine Wp.seq ?_
        refine Wp.cond_split (b := decide ((j : Int) < (n.keys.length : Int))) (by simp only [go_sem, reduceIte, Nat.reduceEqDiff, Nat.reduceAdd, Bool.false_eq_true, Bool.true_beq, Bool.false_beq, Bool.not_true, Bool.not_false]) (fun hc => ?_) (fun hc => ?_)
        · have h1 : (0 : Int) ≤ (j : Int) := by omega
          have h2' : (j : Int) < (n.keys.length : Int) := by simpa using hc
          have h3 : j < n.keys.length := by omega
          have hz := size_rows n hr j hj
          have hkl := hr.keys j h3
          refine Wp.skip ?_
          refine Wp.seqJoinTok [1, 35, 36, 37] (by simp only [go_sem, reduceIte, Nat.reduceEqDiff, List.map]; exact rfl) (fun tk => [(5, .sl 1 (bytesAV (head n ++ rows n (j + 1))) (.own tk))]) ?_ fun tk m1 => ?_
          · refine Wp.block ?_
            refine Wp.seqReg (by simp only [go_sem, reduceIte, Nat.reduceEqDiff, Nat.reduceAdd, Bool.false_eq_true, Bool.true_beq, Bool.false_beq, Bool.not_true, Bool.not_false, Int.toNat_natCast, strs_getD _ _ _ h3, h1, h2', and_self, if_true]; exact rfl) (by trivial) ?_
            refine Wp.seqItems (by simp only [go_sem, reduceIte, Nat.reduceEqDiff, Nat.reduceAdd, Bool.false_eq_true, Bool.true_beq, Bool.false_beq, Bool.not_true, Bool.not_false]; exact rfl) ?_
            refine WpItems.tcall tk (by simp only [go_sem]) (by simp only [go_sem, reduceIte, Nat.reduceEqDiff, List.map]; exact VSubs.refl _) (by simp only [go_sem]) (put8_p (n.keys.getD j []).length (by omega) (head n ++ rows n j) (by omega)) fun t1 m2 _ => ?_
            have e1 : (head n ++ rows n j ++ be 1 (n.keys.getD j []).length).length + (n.keys.getD j []).length ≤ 140737488355328 := by rw [List.length_append, be_length]; omega
            have e2 : (head n ++ rows n j ++ be 1 (n.keys.getD j []).length).length + (n.keys.getD j []).length < 4611686018427387904 := by omega
            refine WpItems.eval (by simp only [go_sem, reduceIte, Nat.reduceEqDiff, Nat.reduceAdd, Bool.false_eq_true, Bool.true_beq, Bool.false_beq, Bool.not_true, Bool.not_false, Nat.mul_one, e1, e2, true_and, and_self, if_true, decide_true, true_or]; exact rfl) ?_
            refine WpItems.nil ⟨by trivial, ?_⟩
            refine Wp.seqReg (by simp only [go_sem, reduceIte, Nat.reduceEqDiff, Nat.reduceAdd, Bool.false_eq_true, Bool.true_beq, Bool.false_beq, Bool.not_true, Bool.not_false]; exact rfl) (by trivial) ?_
            rw [← bytes_append]
            refine Wp.cond_split (b := n.leaf) (by simp only [go_sem, reduceIte, Nat.reduceEqDiff, Nat.reduceAdd, Bool.false_eq_true, Bool.true_beq, Bool.false_beq, Bool.not_true, Bool.not_false]) (fun hl => ?_) (fun hl => ?_)
            · have hvl := hr.vals hl
              have h4 : (j : Int) < (n.vals.length : Int) := by omega
              have h5 : j < n.vals.length := by omega
              have hvv := hr.val hl j h3
              refine Wp.items (by simp only [go_sem, reduceIte, Nat.reduceEqDiff, Nat.reduceAdd, Bool.false_eq_true, Bool.true_beq, Bool.false_beq, Bool.not_true, Bool.not_false, Int.toNat_natCast, strs_getD _ _ _ h5, h1, h4, and_self, if_true]; exact rfl) ?_
              refine WpItems.tcall m2 (by simp only [go_sem]) (by simp only [go_sem, reduceIte, Nat.reduceEqDiff, List.map]; exact VSubs.refl _) (by simp only [go_sem]) (put16_p (n.vals.getD j []).length (by omega) (head n ++ rows n j ++ be 1 (n.keys.getD j []).length ++ n.keys.getD j []) (by rw [List.length_append, List.length_append, be_length]; omega)) fun t3 m3 _ => ?_
              have e3 : (head n ++ rows n j ++ be 1 (n.keys.getD j []).length ++ n.keys.getD j [] ++ be 2 (n.vals.getD j []).length).length + (n.vals.getD j []).length ≤ 140737488355328 := by rw [List.length_append, List.length_append, List.length_append, be_length, be_length]; omega
              have e4 : (head n ++ rows n j ++ be 1 (n.keys.getD j []).length ++ n.keys.getD j [] ++ be 2 (n.vals.getD j []).length).length + (n.vals.getD j []).length < 4611686018427387904 := by omega
              refine WpItems.eval (by simp only [go_sem, reduceIte, Nat.reduceEqDiff, Nat.reduceAdd, Bool.false_eq_true, Bool.true_beq, Bool.false_beq, Bool.not_true, Bool.not_false, Int.toNat_natCast, strs_getD _ _ _ h5, h1, h4, Nat.mul_one, e3, e4, true_and, and_self, if_true, decide_true, true_or]; exact rfl) ?_
              refine WpItems.nil ⟨by simp [pairsQ, pairsOk, apart, ent0], ?_⟩
              refine ⟨m3, m3 + 1, ?_⟩
              refine StLe.tm (by simp only [AllSub, go_sem, reduceIte, Nat.reduceEqDiff, Nat.reduceAdd, Bool.false_eq_true, Bool.true_beq, Bool.false_beq, Bool.not_true, Bool.not_false]; and_intros <;> first | exact trivial | exact VSub.refl _ | exact VSub.any _ | exact VSub.of_eq (by simp [rows, row, hl, bytesAV]) | (refine VSub.int ?_; omega))
            · have hkl' := hr.kids hl
              have hkk := hr.kid hl (j + 1) (by omega)
              have hw : IntKind.i64.wrap ((j : Int) + 1) = ((j + 1 : Nat) : Int) := by rw [IntWalk.i64_in _ (by omega)]; omega
              have h4 : ((j + 1 : Nat) : Int) < (n.kids.length : Int) := by omega
              have h4a : (0 : Int) ≤ ((j + 1 : Nat) : Int) := by omega
              have h5 : j + 1 < n.kids.length := by omega
              refine Wp.items (by simp only [go_sem, reduceIte, Nat.reduceEqDiff, Nat.reduceAdd, Bool.false_eq_true, Bool.true_beq, Bool.false_beq, Bool.not_true, Bool.not_false, hw, Int.toNat_natCast, ints_getD _ _ _ h5, h4a, h4, and_self, if_true]; exact rfl) ?_
              refine WpItems.tcall m2 (by simp only [go_sem]) (by simp only [go_sem, reduceIte, Nat.reduceEqDiff, List.map]; exact VSubs.cons (VSub.refl _) (VSubs.cons (VSub.int (by omega)) VSubs.nil)) (by simp only [go_sem]) (put32_p (n.kids.getD (j + 1) 0).toNat (by omega) (head n ++ rows n j ++ be 1 (n.keys.getD j []).length ++ n.keys.getD j []) (by rw [List.length_append, List.length_append, be_length]; omega)) fun t3 m3 _ => ?_
              refine WpItems.eval (by simp only [go_sem, reduceIte, Nat.reduceEqDiff, Nat.reduceAdd, Bool.false_eq_true, Bool.true_beq, Bool.false_beq, Bool.not_true, Bool.not_false]; exact rfl) ?_
              refine WpItems.nil ⟨by trivial, ?_⟩
              refine ⟨t3, m3, ?_⟩
              refine StLe.tm (by simp only [AllSub, go_sem, reduceIte, Nat.reduceEqDiff, Nat.reduceAdd, Bool.false_eq_true, Bool.true_beq, Bool.false_beq, Bool.not_true, Bool.not_false]; and_intros <;> first | exact trivial | exact VSub.refl _ | exact VSub.any _ | exact VSub.of_eq (by simp [rows, row, hl]) | (refine VSub.int ?_; omega))
          · refine Wp.reg1 (by simp only [go_sem, reduceIte, Nat.reduceEqDiff, Nat.reduceAdd, Bool.false_eq_true, Bool.true_beq, Bool.false_beq, Bool.not_true, Bool.not_false]; simp (disch := omega) only [IntWalk.i64_in]; exact rfl) (by trivial) ?_
            refine ⟨j + 1, tk, m1, by omega, by omega, ?_⟩
            refine StLe.tm (by simp only [AllSub, go_sem, reduceIte, Nat.reduceEqDiff, Nat.reduceAdd, Bool.false_eq_true, Bool.true_beq, Bool.false_beq, Bool.not_true, Bool.not_false]; and_intros <;> first | exact trivial | exact VSub.refl _ | exact VSub.any _ | (refine VSub.int ?_; omega))
        · have hc' : ¬ (j : Int) < (n.keys.length : Int) := by simpa using hc
          obtain rfl : j = n.keys.length := by omega
          have htl := text_length n hr.vals
          have ht : head n ++ rows n n.keys.length = text n := rfl
          rw [ht]
          refine Wp.exit ?_
          have hw : IntKind.i64.wrap (1024 - ((text n).length : Int)) = ((1024 - size n : Nat) : Int) := by rw [IntWalk.i64_in _ (by omega)]; omega
          have g1 : (0 : Int) ≤ ((1024 - size n : Nat) : Int) := by omega
          have hrep : List.replicate (1024 - size n) (AV.int .u8 0) = bytesAV (List.replicate (1024 - size n) 0) := by simp [bytesAV, byte]
          have e1 : (text n).length + (1024 - size n) ≤ 140737488355328 := by omega
          have e2 : (text n).length + (1024 - size n) < 4611686018427387904 := by omega
          refine Wp.seqReg (by simp only [go_sem, reduceIte, Nat.reduceEqDiff, Nat.reduceAdd, Bool.false_eq_true, Bool.true_beq, Bool.false_beq, Bool.not_true, Bool.not_false, hw, g1, Int.toNat_natCast, Nat.mul_one, e1, e2, and_self, true_and, if_true, hrep, true_or, Nat.reduceLT, Nat.lt_add_one, Nat.zero_lt_one]; exact rfl) (by trivial) ?_
          refine Wp.ret ⟨trivial, _, rfl, ?_⟩
          simp only [go_sem, reduceIte, Nat.reduceEqDiff, Nat.reduceAdd, Bool.false_eq_true, Bool.true_beq, Bool.false_beq, Bool.not_true, Bool.not_false]
          rw [outBytes, if_pos h0, h0, ← bytes_append]
          exact VSub.tup (VSubs.cons VSub.cap (VSubs.refl _))
end Go.Proofs.Ytgainpikomhepaa.Page
