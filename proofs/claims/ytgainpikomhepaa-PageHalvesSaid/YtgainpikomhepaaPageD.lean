/- Chapter 08: whether a node stands right: the program's and the document's. -/
import Derived.Test.YtgainpikomhepaaPageC
set_option linter.unusedSimpArgs false
set_option linter.unusedVariables false
set_option maxRecDepth 10000
namespace Go.Proofs.Ytgainpikomhepaa.Page
open Go Go.Av Go.Proofs Go.Proofs.Ytgainpikomhepaa.C

def keyOk (l : List (List UInt8)) (i : Nat) : Bool := decide ((l.getD i []).length ≤ 128) && (decide (i = 0) || Op.bytesLess (l.getD (i - 1) []) (l.getD i []))
def keysOk (l : List (List UInt8)) : Bool := (List.range l.length).all (keyOk l)
theorem keysOk_true {l : List (List UInt8)} (h : ∀ i, i < l.length → keyOk l i = true) : keysOk l = true := by
  simp only [keysOk, List.all_eq_true, List.mem_range]; exact h
theorem keysOk_false {l : List (List UInt8)} {i : Nat} (hi : i < l.length) (h : keyOk l i = false) : keysOk l = false := by
  rw [keysOk, List.all_eq_false]
  exact ⟨i, List.mem_range.2 hi, by simp [h]⟩
theorem keysOk_at {l : List (List UInt8)} (h : keysOk l = true) {i : Nat} (hi : i < l.length) : keyOk l i = true := by
  simp only [keysOk, List.all_eq_true, List.mem_range] at h; exact h i hi

def long (v : List UInt8) : Bool := decide (200 < v.length)
def stray (k : Int) : Bool := decide (k < 0) || decide (16384 ≤ k)

def right (n : Node) : Bool := keysOk n.keys && (if n.leaf then decide (n.vals.length = n.keys.length) && decide (n.kids.length = 0) && !n.vals.any long
  else decide (n.vals.length = 0) && decide (n.kids.length = n.keys.length + 1) && !n.kids.any stray)

theorem long_p (v : List UInt8) : PCalls Try.prog 58 [.str v] (.bool (long v)) := by
  refine f58.pcalls (by simp) (allPure_ok _ rfl) (isPure_ok _ rfl) fun k m => ?_
  unfold c58
  refine Wp.seqReg (by simp only [go_sem, reduceIte, Nat.reduceEqDiff, Nat.reduceAdd, Bool.false_eq_true, Bool.true_beq, Bool.false_beq, Bool.not_true, Bool.not_false]; exact rfl) (by trivial) ?_
  refine Wp.seqReg (by simp only [go_sem, reduceIte, Nat.reduceEqDiff, Nat.reduceAdd, Bool.false_eq_true, Bool.true_beq, Bool.false_beq, Bool.not_true, Bool.not_false]; exact rfl) (by trivial) ?_
  refine Wp.ret ⟨trivial, _, rfl, ?_⟩
  simp only [go_sem, reduceIte, Nat.reduceEqDiff, Nat.reduceAdd, Bool.false_eq_true, Bool.true_beq, Bool.false_beq, Bool.not_true, Bool.not_false]
  refine VSub.of_eq ?_
  unfold long
  congr 1
  exact decide_eq_decide.2 (by omega)
theorem stray_p (x : Int) : PCalls Try.prog 60 [.int .i64 x] (.bool (stray x)) := by
  refine f60.pcalls (by simp) (allPure_ok _ rfl) (isPure_ok _ rfl) fun k m => ?_
  unfold c60
  unfold stray
  by_cases h : x < 0
  · have h' : decide (x < 0) = true := by simpa using h
    refine Wp.seqReg (by simp only [go_sem, reduceIte, Nat.reduceEqDiff, Nat.reduceAdd, Bool.false_eq_true, Bool.true_beq, Bool.false_beq, Bool.not_true, Bool.not_false]; exact rfl) (by trivial) ?_
    refine Wp.seqReg (by simp only [go_sem, reduceIte, Nat.reduceEqDiff, Nat.reduceAdd, Bool.false_eq_true, Bool.true_beq, Bool.false_beq, Bool.not_true, Bool.not_false, h']; exact rfl) (by trivial) ?_
    refine Wp.ret ⟨trivial, _, rfl, ?_⟩
    simp only [go_sem, reduceIte, Nat.reduceEqDiff, Nat.reduceAdd, Bool.false_eq_true, Bool.true_beq, Bool.false_beq, Bool.not_true, Bool.not_false]
    rw [h']
    exact VSub.refl _
  · have h' : decide (x < 0) = false := by simpa using h
    refine Wp.seqReg (by simp only [go_sem, reduceIte, Nat.reduceEqDiff, Nat.reduceAdd, Bool.false_eq_true, Bool.true_beq, Bool.false_beq, Bool.not_true, Bool.not_false]; exact rfl) (by trivial) ?_
    refine Wp.seqReg (by simp only [go_sem, reduceIte, Nat.reduceEqDiff, Nat.reduceAdd, Bool.false_eq_true, Bool.true_beq, Bool.false_beq, Bool.not_true, Bool.not_false, h']; exact rfl) (by trivial) ?_
    refine Wp.ret ⟨trivial, _, rfl, ?_⟩
    simp only [go_sem, reduceIte, Nat.reduceEqDiff, Nat.reduceAdd, Bool.false_eq_true, Bool.true_beq, Bool.false_beq, Bool.not_true, Bool.not_false]
    rw [h']
    exact VSub.refl _

theorem anyLong_p (l : List (List UInt8)) (hl : l.length ≤ 4611686018427387904) : PCalls Try.prog 59 [.sl 1 (strs l) .any, .clo (.func 58) [] []] (.bool (l.any long)) :=
  contains_gen f59 .str (fun _ => rfl) l long (index_gen f66 .str (fun _ => rfl) (fun _ => rfl) l hl long Try.func58 rfl (of_decide_eq_true (by kernel_rfl)) fun x _ => long_p x)
theorem anyStray_p (l : List Int) (hl : l.length ≤ 4611686018427387904) : PCalls Try.prog 61 [.sl 1 (ints l) .any, .clo (.func 60) [] []] (.bool (l.any stray)) :=
  contains_gen f61 (.int .i64) (fun _ => rfl) l stray (index_gen f67 (.int .i64) (fun _ => rfl) (fun _ => rfl) l hl stray Try.func60 rfl (of_decide_eq_true (by kernel_rfl)) fun x _ => stray_p x)

theorem stands_p (n : Node) (hn : Nb n) : PCalls Try.prog 34 [encNode n] (.bool (right n)) := by
  refine f34.pcalls (by simp) (allPure_ok _ (enc1_pure n)) (isPure_ok _ rfl) fun k m => ?_
  obtain ⟨hk, hv, hi, htk, htv⟩ := hn
  unfold c34
  refine Wp.seqReg (by simp only [go_sem, reduceIte, Nat.reduceEqDiff, Nat.reduceAdd, Bool.false_eq_true, Bool.true_beq, Bool.false_beq, Bool.not_true, Bool.not_false, encNode]; exact rfl) (by trivial) ?_
  refine Wp.seq ?_
  refine Wp.seqReg (by simp only [go_sem, reduceIte, Nat.reduceEqDiff, Nat.reduceAdd, Bool.false_eq_true, Bool.true_beq, Bool.false_beq, Bool.not_true, Bool.not_false]; exact rfl) (by trivial) ?_
  refine Wp.block ?_
  refine Wp.loopK [1, 8, 9] (by simp only [go_sem, reduceIte, Nat.reduceEqDiff, Nat.reduceAdd, Bool.false_eq_true, Bool.true_beq, Bool.false_beq, Bool.not_true, Bool.not_false, List.map]; exact rfl) (fun j : Nat => [(10, .int .i64 j)]) (fun j => j ≤ n.keys.length ∧ ∀ i, i < j → keyOk n.keys i = true) (fun j => n.keys.length - j) 0 ⟨Nat.zero_le _, fun i h => absurd h (by omega)⟩ ?_ ?_
  · simp only [AllSub, go_sem, reduceIte, Nat.reduceEqDiff, Nat.reduceAdd, Bool.false_eq_true, Bool.true_beq, Bool.false_beq, Bool.not_true, Bool.not_false]; and_intros <;> first | exact trivial | exact VSub.refl _ | exact VSub.any _ | (refine VSub.int ?_; omega)
  · intro j hj
    obtain ⟨hj, hs⟩ := hj
    refine Wp.seqReg (by simp only [go_sem, reduceIte, Nat.reduceEqDiff, Nat.reduceAdd, Bool.false_eq_true, Bool.true_beq, Bool.false_beq, Bool.not_true, Bool.not_false]; exact rfl) (by trivial) ?_
    refine Wp.seq ?_
    refine Wp.cond_split (b := decide ((j : Int) < (n.keys.length : Int))) (by simp only [go_sem, reduceIte, Nat.reduceEqDiff, Nat.reduceAdd, Bool.false_eq_true, Bool.true_beq, Bool.false_beq, Bool.not_true, Bool.not_false]) (fun hc => ?_) (fun hc => ?_)
    · have h1 : (0 : Int) ≤ (j : Int) := by omega
      have h2 : (j : Int) < (n.keys.length : Int) := by simpa using hc
      have h3 : j < n.keys.length := by omega
      refine Wp.skip ?_
      refine Wp.seq ?_
      refine Wp.block ?_
      refine Wp.seqReg (by simp only [go_sem, reduceIte, Nat.reduceEqDiff, Nat.reduceAdd, Bool.false_eq_true, Bool.true_beq, Bool.false_beq, Bool.not_true, Bool.not_false, Int.toNat_natCast, strs_getD _ _ _ h3, h1, h2, and_self, if_true]; exact rfl) (by trivial) ?_
      by_cases hl : (n.keys.getD j []).length ≤ 128
      · have hl' : decide ((128 : Int) < ((n.keys.getD j []).length : Int)) = false := decide_eq_false (by omega)
        by_cases h0 : j = 0
        · subst h0
          refine Wp.seqReg (by simp only [go_sem, reduceIte, Nat.reduceEqDiff, Nat.reduceAdd, Bool.false_eq_true, Bool.true_beq, Bool.false_beq, Bool.not_true, Bool.not_false, hl', Int.lt_irrefl, decide_false, Int.natCast_zero]; exact rfl) (by trivial) ?_
          refine Wp.cond_false (by simp only [go_sem, reduceIte, Nat.reduceEqDiff, Bool.false_eq_true, Bool.and_false]) ?_
          refine Wp.skip ?_
          refine Wp.reg1 (by simp only [go_sem, reduceIte, Nat.reduceEqDiff, Nat.reduceAdd, Bool.false_eq_true, Bool.true_beq, Bool.false_beq, Bool.not_true, Bool.not_false]; simp (disch := omega) only [IntWalk.i64_in]; exact rfl) (by trivial) ?_
          refine ⟨1, ⟨by omega, fun i h => ?_⟩, by omega, ?_⟩
          · obtain rfl : i = 0 := by omega
            simp only [keyOk, decide_true, Bool.true_or, Bool.and_true, decide_eq_true_eq]; exact hl
          · refine StLe.tm (by simp only [AllSub, go_sem, reduceIte, Nat.reduceEqDiff, Nat.reduceAdd, Bool.false_eq_true, Bool.true_beq, Bool.false_beq, Bool.not_true, Bool.not_false]; and_intros <;> first | exact trivial | exact VSub.refl _ | exact VSub.any _ | (refine VSub.int ?_; omega))
        · have h0' : decide ((0 : Int) < (j : Int)) = true := decide_eq_true (by omega)
          have hw : IntKind.i64.wrap ((j : Int) - 1) = ((j - 1 : Nat) : Int) := by rw [IntWalk.i64_in _ (by omega)]; omega
          have h5 : (0 : Int) ≤ ((j - 1 : Nat) : Int) := by omega
          have h6 : ((j - 1 : Nat) : Int) < (n.keys.length : Int) := by omega
          have h7 : j - 1 < n.keys.length := by omega
          refine Wp.seqReg (by simp only [go_sem, reduceIte, Nat.reduceEqDiff, Nat.reduceAdd, Bool.false_eq_true, Bool.true_beq, Bool.false_beq, Bool.not_true, Bool.not_false, hl', h0', hw, Int.toNat_natCast, strs_getD _ _ _ h7, h5, h6, and_self, if_true]; exact rfl) (by trivial) ?_
          refine Wp.cond_split (b := !Op.bytesLess (n.keys.getD (j - 1) []) (n.keys.getD j [])) (by simp only [go_sem, reduceIte, Nat.reduceEqDiff, Nat.reduceAdd, Bool.false_eq_true, Bool.true_beq, Bool.false_beq, Bool.not_true, Bool.not_false]) (fun hd => ?_) (fun hd => ?_)
          · have hko : keyOk n.keys j = false := by simp only [keyOk]; simp at hd; simp [h0]; intro; exact hd
            refine Wp.seqReg (by simp only [go_sem, reduceIte, Nat.reduceEqDiff, Nat.reduceAdd, Bool.false_eq_true, Bool.true_beq, Bool.false_beq, Bool.not_true, Bool.not_false]; exact rfl) (by trivial) ?_
            refine Wp.ret ⟨trivial, _, rfl, ?_⟩
            simp only [go_sem, reduceIte, Nat.reduceEqDiff, Nat.reduceAdd, Bool.false_eq_true, Bool.true_beq, Bool.false_beq, Bool.not_true, Bool.not_false]
            rw [right, keysOk_false h3 hko, Bool.false_and]
            exact VSub.refl _
          · refine Wp.skip ?_
            refine Wp.reg1 (by simp only [go_sem, reduceIte, Nat.reduceEqDiff, Nat.reduceAdd, Bool.false_eq_true, Bool.true_beq, Bool.false_beq, Bool.not_true, Bool.not_false]; simp (disch := omega) only [IntWalk.i64_in]; exact rfl) (by trivial) ?_
            refine ⟨j + 1, ⟨by omega, fun i h => ?_⟩, by omega, ?_⟩
            · by_cases he : i = j
              · subst he
                simp at hd
                simp only [keyOk, Bool.and_eq_true, decide_eq_true_eq, Bool.or_eq_true]
                exact ⟨hl, .inr hd⟩
              · exact hs i (by omega)
            · refine StLe.tm (by simp only [AllSub, go_sem, reduceIte, Nat.reduceEqDiff, Nat.reduceAdd, Bool.false_eq_true, Bool.true_beq, Bool.false_beq, Bool.not_true, Bool.not_false]; and_intros <;> first | exact trivial | exact VSub.refl _ | exact VSub.any _ | (refine VSub.int ?_; omega))
      · have hl' : decide ((128 : Int) < ((n.keys.getD j []).length : Int)) = true := decide_eq_true (by omega)
        refine Wp.seqReg (by simp only [go_sem, reduceIte, Nat.reduceEqDiff, Nat.reduceAdd, Bool.false_eq_true, Bool.true_beq, Bool.false_beq, Bool.not_true, Bool.not_false, hl']; exact rfl) (by trivial) ?_
        refine Wp.cond_true (by simp only [go_sem, reduceIte, Nat.reduceEqDiff, Bool.false_eq_true]) ?_
        refine Wp.seqReg (by simp only [go_sem, reduceIte, Nat.reduceEqDiff, Nat.reduceAdd, Bool.false_eq_true, Bool.true_beq, Bool.false_beq, Bool.not_true, Bool.not_false]; exact rfl) (by trivial) ?_
        refine Wp.ret ⟨trivial, _, rfl, ?_⟩
        simp only [go_sem, reduceIte, Nat.reduceEqDiff, Nat.reduceAdd, Bool.false_eq_true, Bool.true_beq, Bool.false_beq, Bool.not_true, Bool.not_false]
        have hko : keyOk n.keys j = false := by simp only [keyOk]; rw [decide_eq_false (by omega), Bool.false_and]
        rw [right, keysOk_false h3 hko, Bool.false_and]
        exact VSub.refl _
    · have hc' : ¬ (j : Int) < (n.keys.length : Int) := by simpa using hc
      have hko := keysOk_true fun i h => hs i (by omega)
      refine Wp.exit ?_
      refine Wp.seq ?_
      refine Wp.seqReg (by simp only [go_sem, reduceIte, Nat.reduceEqDiff, Nat.reduceAdd, Bool.false_eq_true, Bool.true_beq, Bool.false_beq, Bool.not_true, Bool.not_false]; exact rfl) (by trivial) ?_
      refine Wp.cond_split (b := n.leaf) (by simp only [go_sem, reduceIte, Nat.reduceEqDiff, Nat.reduceAdd, Bool.false_eq_true, Bool.true_beq, Bool.false_beq, Bool.not_true, Bool.not_false]) (fun hf => ?_) (fun hf => ?_)
      · refine Wp.seqReg (by simp only [go_sem, reduceIte, Nat.reduceEqDiff, Nat.reduceAdd, Bool.false_eq_true, Bool.true_beq, Bool.false_beq, Bool.not_true, Bool.not_false]; exact rfl) (by trivial) ?_
        rw [right, hko, hf]
        simp only [Bool.true_and, if_true]
        by_cases e1 : n.vals.length = n.keys.length
        · have e1' : decide ((n.vals.length : Int) = (n.keys.length : Int)) = true := decide_eq_true (by omega)
          by_cases e2 : n.kids.length = 0
          · have e2' : decide ((n.kids.length : Int) = 0) = true := decide_eq_true (by omega)
            refine Wp.seqItems (by simp only [go_sem, reduceIte, Nat.reduceEqDiff, Nat.reduceAdd, Bool.false_eq_true, Bool.true_beq, Bool.false_beq, Bool.not_true, Bool.not_false, e1', e2']; exact rfl) ?_
            refine WpItems.pcall (by simp only [go_sem, reduceIte, Nat.reduceEqDiff, Nat.reduceAdd, Bool.false_eq_true, Bool.true_beq, Bool.false_beq, Bool.not_true, Bool.not_false]) (by simp only [go_sem, reduceIte, Nat.reduceEqDiff, Nat.reduceAdd, Bool.false_eq_true, Bool.true_beq, Bool.false_beq, Bool.not_true, Bool.not_false, List.map]; exact VSubs.refl _) (anyLong_p n.vals (by omega)) ?_
            refine WpItems.eval (by simp only [go_sem, reduceIte, Nat.reduceEqDiff, Nat.reduceAdd, Bool.false_eq_true, Bool.true_beq, Bool.false_beq, Bool.not_true, Bool.not_false]; exact rfl) ?_
            refine WpItems.nil ⟨by trivial, ?_⟩
            refine Wp.ret ⟨trivial, _, rfl, ?_⟩
            simp only [go_sem, reduceIte, Nat.reduceEqDiff, Nat.reduceAdd, Bool.false_eq_true, Bool.true_beq, Bool.false_beq, Bool.not_true, Bool.not_false]
            refine VSub.of_eq ?_
            simp [e1, e2]
          · have e2' : decide ((n.kids.length : Int) = 0) = false := decide_eq_false (by omega)
            refine Wp.seqReg (by simp only [go_sem, reduceIte, Nat.reduceEqDiff, Nat.reduceAdd, Bool.false_eq_true, Bool.true_beq, Bool.false_beq, Bool.not_true, Bool.not_false, e1', e2']; exact rfl) (by trivial) ?_
            refine Wp.ret ⟨trivial, _, rfl, ?_⟩
            simp only [go_sem, reduceIte, Nat.reduceEqDiff, Nat.reduceAdd, Bool.false_eq_true, Bool.true_beq, Bool.false_beq, Bool.not_true, Bool.not_false]
            refine VSub.of_eq ?_
            simp [e1, e2]
        · have e1' : decide ((n.vals.length : Int) = (n.keys.length : Int)) = false := decide_eq_false (by omega)
          refine Wp.seqReg (by simp only [go_sem, reduceIte, Nat.reduceEqDiff, Nat.reduceAdd, Bool.false_eq_true, Bool.true_beq, Bool.false_beq, Bool.not_true, Bool.not_false, e1']; exact rfl) (by trivial) ?_
          refine Wp.ret ⟨trivial, _, rfl, ?_⟩
          simp only [go_sem, reduceIte, Nat.reduceEqDiff, Nat.reduceAdd, Bool.false_eq_true, Bool.true_beq, Bool.false_beq, Bool.not_true, Bool.not_false]
          refine VSub.of_eq ?_
          simp [e1]
      · refine Wp.skip ?_
        refine Wp.seqReg (by simp only [go_sem, reduceIte, Nat.reduceEqDiff, Nat.reduceAdd, Bool.false_eq_true, Bool.true_beq, Bool.false_beq, Bool.not_true, Bool.not_false]; exact rfl) (by trivial) ?_
        rw [right, hko, hf]
        simp only [Bool.true_and, Bool.false_eq_true, if_false]
        have hw : IntKind.i64.wrap ((n.keys.length : Int) + 1) = ((n.keys.length + 1 : Nat) : Int) := by rw [IntWalk.i64_in _ (by omega)]; omega
        by_cases e1 : n.vals.length = 0
        · have e1' : decide ((n.vals.length : Int) = 0) = true := decide_eq_true (by omega)
          by_cases e2 : n.kids.length = n.keys.length + 1
          · have e2' : decide ((n.kids.length : Int) = ((n.keys.length + 1 : Nat) : Int)) = true := decide_eq_true (by omega)
            refine Wp.seqItems (by simp only [go_sem, reduceIte, Nat.reduceEqDiff, Nat.reduceAdd, Bool.false_eq_true, Bool.true_beq, Bool.false_beq, Bool.not_true, Bool.not_false, e1', hw, e2']; exact rfl) ?_
            refine WpItems.pcall (by simp only [go_sem, reduceIte, Nat.reduceEqDiff, Nat.reduceAdd, Bool.false_eq_true, Bool.true_beq, Bool.false_beq, Bool.not_true, Bool.not_false]) (by simp only [go_sem, reduceIte, Nat.reduceEqDiff, Nat.reduceAdd, Bool.false_eq_true, Bool.true_beq, Bool.false_beq, Bool.not_true, Bool.not_false, List.map]; exact VSubs.refl _) (anyStray_p n.kids (by omega)) ?_
            refine WpItems.eval (by simp only [go_sem, reduceIte, Nat.reduceEqDiff, Nat.reduceAdd, Bool.false_eq_true, Bool.true_beq, Bool.false_beq, Bool.not_true, Bool.not_false]; exact rfl) ?_
            refine WpItems.nil ⟨by trivial, ?_⟩
            refine Wp.ret ⟨trivial, _, rfl, ?_⟩
            simp only [go_sem, reduceIte, Nat.reduceEqDiff, Nat.reduceAdd, Bool.false_eq_true, Bool.true_beq, Bool.false_beq, Bool.not_true, Bool.not_false]
            refine VSub.of_eq ?_
            simp [e1, e2]
          · have e2' : decide ((n.kids.length : Int) = ((n.keys.length + 1 : Nat) : Int)) = false := decide_eq_false (by omega)
            refine Wp.seqReg (by simp only [go_sem, reduceIte, Nat.reduceEqDiff, Nat.reduceAdd, Bool.false_eq_true, Bool.true_beq, Bool.false_beq, Bool.not_true, Bool.not_false, e1', hw, e2']; exact rfl) (by trivial) ?_
            refine Wp.ret ⟨trivial, _, rfl, ?_⟩
            simp only [go_sem, reduceIte, Nat.reduceEqDiff, Nat.reduceAdd, Bool.false_eq_true, Bool.true_beq, Bool.false_beq, Bool.not_true, Bool.not_false]
            refine VSub.of_eq ?_
            simp [e1, e2]
        · have e1' : decide ((n.vals.length : Int) = 0) = false := decide_eq_false (by omega)
          refine Wp.seqReg (by simp only [go_sem, reduceIte, Nat.reduceEqDiff, Nat.reduceAdd, Bool.false_eq_true, Bool.true_beq, Bool.false_beq, Bool.not_true, Bool.not_false, e1']; exact rfl) (by trivial) ?_
          refine Wp.ret ⟨trivial, _, rfl, ?_⟩
          simp only [go_sem, reduceIte, Nat.reduceEqDiff, Nat.reduceAdd, Bool.false_eq_true, Bool.true_beq, Bool.false_beq, Bool.not_true, Bool.not_false]
          refine VSub.of_eq ?_
          simp [e1]
end Go.Proofs.Ytgainpikomhepaa.Page
