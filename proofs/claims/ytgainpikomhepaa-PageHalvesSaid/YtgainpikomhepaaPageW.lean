/- Chapter 08: Split as data. -/
import Derived.Test.YtgainpikomhepaaPageV
set_option linter.unusedSimpArgs false
set_option linter.unusedVariables false
set_option maxRecDepth 10000
namespace Go.Proofs.Ytgainpikomhepaa.Page
open Go Go.Av Go.Proofs Go.Proofs.Ytgainpikomhepaa.C

def bet (n : Node) : Nat := if n.leaf then 0 else 1
def most (n : Node) : Nat := n.keys.length - 1 - bet n
def fits (n : Node) (i : Nat) : Bool := decide (size n / 2 ≤ size (part n 0 (1 + i)))
def cut (n : Node) : Nat := 1 + (List.range (most n - 1)).findIdx (fits n)
def splits (n : Node) : Bool := right n && decide (1 ≤ most n)

theorem bet_le (n : Node) : bet n ≤ 1 := by unfold bet; split <;> omega
theorem cut_le {n : Node} (h : 1 ≤ most n) : 1 ≤ cut n ∧ cut n ≤ most n := by
  have : (List.range (most n - 1)).findIdx (fits n) ≤ (List.range (most n - 1)).length := List.findIdx_le_length
  rw [List.length_range] at this
  unfold cut; omega
theorem cut_before {n : Node} {i : Nat} (h : 1 + i < cut n) : fits n i = false := by
  unfold cut at h
  have h' : i < (List.range (most n - 1)).findIdx (fits n) := by omega
  have hl : (List.range (most n - 1)).findIdx (fits n) ≤ (List.range (most n - 1)).length := List.findIdx_le_length
  have := List.not_of_lt_findIdx h'
  simpa using this
theorem cut_at {n : Node} (h : cut n < most n) : fits n (cut n - 1) = true := by
  unfold cut at h ⊢
  have hl : (List.range (most n - 1)).findIdx (fits n) < (List.range (most n - 1)).length := by rw [List.length_range]; omega
  have := List.findIdx_getElem (w := hl)
  simpa using this

theorem tot_take_mono (l : List (List UInt8)) {a b : Nat} (h : a ≤ b) : tot (l.take a) ≤ tot (l.take b) := by
  have := tot_take (l.take b) a
  rw [List.take_take, Nat.min_eq_left h] at this
  exact this
theorem part0_size (n : Node) (k : Nat) (hk : k ≤ n.keys.length) : size (part n 0 k) = if n.leaf then 3 + 3 * k + tot (n.keys.take k) + tot (n.vals.take k) else 7 + 5 * k + tot (n.keys.take k) := by
  unfold size part
  simp only [List.drop_zero]
  split <;> simp <;> omega
theorem fits_mono {n : Node} {i j : Nat} (h : i ≤ j) (hj : 1 + j ≤ n.keys.length) (hf : fits n i = true) : fits n j = true := by
  simp only [fits, decide_eq_true_eq] at hf ⊢
  rw [part0_size n _ (by omega)] at hf
  rw [part0_size n _ hj]
  have h1 := tot_take_mono n.keys (show 1 + i ≤ 1 + j by omega)
  have h2 := tot_take_mono n.vals (show 1 + i ≤ 1 + j by omega)
  split <;> rename_i hl <;> simp only [hl, if_true, if_false, Bool.false_eq_true] at hf <;> omega

theorem tot_drop (l : List (List UInt8)) (k : Nat) : tot (l.drop k) ≤ tot l := by
  have : l = l.take k ++ l.drop k := by simp
  conv => rhs; rw [this]
  simp only [tot, List.map_append, List.sum_append]; omega
theorem part_nb {n : Node} (hn : Nb n) (a b : Nat) : Nb (part n a b) := by
  have h1 := tot_take n.keys b
  have h2 := tot_drop (n.keys.take b) a
  have h3 := tot_take n.vals b
  have h4 := tot_drop (n.vals.take b) a
  have := hn.k; have := hn.v; have := hn.i; have := hn.tk; have := hn.tv
  refine ⟨?_, ?_, ?_, ?_, ?_⟩
  · simp [part]; omega
  · simp only [part]; split <;> simp <;> omega
  · simp only [part]; split <;> simp <;> omega
  · simp only [part]; omega
  · simp only [part]; split
    · omega
    · simp [tot]

theorem size_le {n : Node} (hn : Nb n) : size n ≤ 4611686018427387904 := by
  have := hn.k; have := hn.tk; have := hn.tv
  unfold size; split <;> omega

theorem VSub.nodeC {b : Bool} {ks vs : List (List UInt8)} {is : List Int} {c1 c2 c3 : Cap} : VSub (.agg [.bool b, .sl 1 (strs ks) c1, .sl 1 (strs vs) c2, .sl 1 (ints is) c3]) (encNode ⟨b, ks, vs, is⟩) :=
  VSub.agg (VSubs.cons (VSub.refl _) (VSubs.cons VSub.cap (VSubs.cons VSub.cap (VSubs.cons VSub.cap VSubs.nil))))
theorem VSub.zeroN : VSub (.agg [.bool false, .sl 1 [] (.exact 0), .sl 1 [] (.exact 0), .sl 1 [] (.exact 0)]) (encNode ⟨false, [], [], []⟩) := VSub.agg (VSubs.cons (VSub.refl _) (VSubs.cons VSub.cap (VSubs.cons VSub.cap (VSubs.cons VSub.cap VSubs.nil))))

structure Split where
  l : Node
  k : List UInt8
  r : Node
  ok : Bool
def zeroN : Node := ⟨false, [], [], []⟩
def split (n : Node) : Split := if splits n then ⟨part n 0 (cut n), n.keys.getD (cut n) [], part n (cut n + bet n) n.keys.length, true⟩ else ⟨zeroN, [], zeroN, false⟩
def encSplit (s : Split) : AV := .tup [encNode s.l, .str s.k, encNode s.r, .bool s.ok]
theorem encSplit_pure (s : Split) : isPure (encSplit s) = true := by simp [encSplit, isPure, allPure, encNode_pure]

theorem half_p (n : Node) (hn : Nb n) (hs : Ns n) (i : Nat) (hi : 1 + i ≤ n.keys.length) (hl : n.leaf = true → 1 + i ≤ n.vals.length) (hk : n.leaf = false → 1 + i + 1 ≤ n.kids.length) (objs : Nat → Option Av.Obj) (a b : Nat) (hab : a ≠ b) (ha : objs a = some (.cells (nodeCells n))) (hb : objs b = some (.cells [.int .i64 (size n / 2 : Nat)])) :
    RCalls Try.prog 37 [.int .i64 i, .ptr a 0, .ptr b 0] objs (.bool (fits n i)) := by
  refine f37.rcalls (by simp) fun k m => ?_
  have e1 : IntKind.i64.wrap (1 + (i : Int)) = ((1 + i : Nat) : Int) := by have := hs.k; rw [IntWalk.i64_in _ (by omega)]; omega
  have e2 : decide (((size n / 2 : Nat) : Int) ≤ ((size (part n 0 (1 + i)) : Nat) : Int)) = fits n i := by
    unfold fits; exact decide_eq_decide.2 (by omega)
  unfold c37
  unfold nodeCells at ha
  refine Wp.seqReg (by simp only [go_sem, reduceIte, Nat.reduceEqDiff, Nat.reduceAdd, Bool.false_eq_true, Bool.true_beq, Bool.false_beq, Bool.not_true, Bool.not_false]; exact rfl) (by trivial) ?_
  refine Wp.seqItems (by simp only [go_sem, reduceIte, Nat.reduceEqDiff, Nat.reduceAdd, Bool.false_eq_true, Bool.true_beq, Bool.false_beq, Bool.not_true, Bool.not_false, ha, e1]; exact rfl) ?_
  refine WpItems.pcall (by simp only [go_sem, reduceIte, Nat.reduceEqDiff, Nat.reduceAdd, Bool.false_eq_true, Bool.true_beq, Bool.false_beq, Bool.not_true, Bool.not_false]) (by simp only [go_sem, reduceIte, Nat.reduceEqDiff, Nat.reduceAdd, Bool.false_eq_true, Bool.true_beq, Bool.false_beq, Bool.not_true, Bool.not_false, List.map]; exact VSubs.refl _) (part_p n hs 0 (1 + i) (Nat.zero_le _) hi hl hk) ?_
  refine WpItems.eval (by simp only [go_sem, reduceIte, Nat.reduceEqDiff, Nat.reduceAdd, Bool.false_eq_true, Bool.true_beq, Bool.false_beq, Bool.not_true, Bool.not_false]; exact rfl) ?_
  refine WpItems.pcall (by simp only [go_sem, reduceIte, Nat.reduceEqDiff, Nat.reduceAdd, Bool.false_eq_true, Bool.true_beq, Bool.false_beq, Bool.not_true, Bool.not_false]) (by simp only [go_sem, reduceIte, Nat.reduceEqDiff, Nat.reduceAdd, Bool.false_eq_true, Bool.true_beq, Bool.false_beq, Bool.not_true, Bool.not_false, List.map]; exact VSubs.refl _) (size_p _ (part_nb hn 0 (1 + i))) ?_
  refine WpItems.eval (by simp only [go_sem, reduceIte, Nat.reduceEqDiff, Nat.reduceAdd, Bool.false_eq_true, Bool.true_beq, Bool.false_beq, Bool.not_true, Bool.not_false, hb, e2]; exact rfl) ?_
  refine WpItems.nil ⟨by simp [pairsQ, pairsOk, apart, ent0, hab], ?_⟩
  refine Wp.ret ⟨trivial, _, rfl, ?_, rfl⟩
  simp only [go_sem, reduceIte, Nat.reduceEqDiff]

theorem int_most (n : Node) (hs : Ns n) : IntKind.i64.wrap (IntKind.i64.wrap ((n.keys.length : Int) - 1) - (bet n : Int)) = (n.keys.length : Int) - 1 - (bet n : Int) := by
  have := hs.k; have := bet_le n
  rw [IntWalk.i64_in ((n.keys.length : Int) - 1) (by omega), IntWalk.i64_in _ (by omega)]

theorem splitR_p (n : Node) (hn : Nb n) (hs : Ns n) : PCalls Try.prog 20 [encNode n] (encSplit (split n)) := by
  refine f20.pcalls0 (by simp) (by simp [allPure, encNode_pure]) (encSplit_pure _) ?_
  have em := int_most n hs
  have hb := bet_le n
  have sk := hs.k
  unfold c20
  refine Wp.seqReg (by simp only [go_sem, reduceIte, Nat.reduceEqDiff, Nat.reduceAdd, Bool.false_eq_true, Bool.true_beq, Bool.false_beq, Bool.not_true, Bool.not_false, encNode]; exact rfl) (by trivial) ?_
  refine Wp.seqReg (by simp only [go_sem, reduceIte, Nat.reduceEqDiff, Nat.reduceAdd, Bool.false_eq_true, Bool.true_beq, Bool.false_beq, Bool.not_true, Bool.not_false]; exact rfl) (by trivial) ?_
  refine Wp.seqJoinK [1, 2, 4] (by simp only [go_sem, reduceIte, Nat.reduceEqDiff, Nat.reduceAdd, Bool.false_eq_true, Bool.true_beq, Bool.false_beq, Bool.not_true, Bool.not_false, List.map]; exact rfl) [(6, .int .i64 (bet n))] ?_ ?_
  · cases hl : n.leaf with
    | true =>
      have hbt : bet n = 0 := by simp [bet, hl]
      repeat (first
        | (refine Wp.seqItems (its := ?_) (t' := ?_) (h' := ?_) (log := ?_) ?_ ?_; rotate_left 4; (· simp only [go_sem, reduceIte, Nat.reduceEqDiff, Nat.reduceAdd, Bool.false_eq_true, Bool.true_beq, Bool.false_beq, Bool.not_true, Bool.not_false, and_self, true_and, and_true, if_true, if_false, true_or, or_true, Nat.zero_mul, Nat.one_mul, Nat.zero_le, Nat.reduceMul, Nat.reduceLeDiff, decide_true, decide_false, Int.toNat_natCast, List.length_append, List.filter_cons, List.filter_nil, ne_eq, not_true_eq_false, not_false_eq_true, hl]; exact rfl))
        | (refine Wp.items (its := ?_) (t' := ?_) (h' := ?_) (log := ?_) ?_ ?_; rotate_left 4; (· simp only [go_sem, reduceIte, Nat.reduceEqDiff, Nat.reduceAdd, Bool.false_eq_true, Bool.true_beq, Bool.false_beq, Bool.not_true, Bool.not_false, and_self, true_and, and_true, if_true, if_false, true_or, or_true, Nat.zero_mul, Nat.one_mul, Nat.zero_le, Nat.reduceMul, Nat.reduceLeDiff, decide_true, decide_false, Int.toNat_natCast, List.length_append, List.filter_cons, List.filter_nil, ne_eq, not_true_eq_false, not_false_eq_true, hl]; exact rfl))
        | (refine WpItems.nil ⟨?_, ?_⟩; (· first | trivial | simp [pairsQ, pairsOk, apart, ent0]))
        | (refine Wp.cond_true ?_ ?_; (· simp only [go_sem, reduceIte, Nat.reduceEqDiff, Nat.reduceAdd, Bool.false_eq_true, Bool.true_beq, Bool.false_beq, Bool.not_true, Bool.not_false, and_self, true_and, and_true, if_true, if_false, true_or, or_true, Nat.zero_mul, Nat.one_mul, Nat.zero_le, Nat.reduceMul, Nat.reduceLeDiff, decide_true, decide_false, Int.toNat_natCast, List.length_append, List.filter_cons, List.filter_nil, ne_eq, not_true_eq_false, not_false_eq_true, hl]))
        | (refine Wp.cond_false ?_ ?_; (· simp only [go_sem, reduceIte, Nat.reduceEqDiff, Nat.reduceAdd, Bool.false_eq_true, Bool.true_beq, Bool.false_beq, Bool.not_true, Bool.not_false, and_self, true_and, and_true, if_true, if_false, true_or, or_true, Nat.zero_mul, Nat.one_mul, Nat.zero_le, Nat.reduceMul, Nat.reduceLeDiff, decide_true, decide_false, Int.toNat_natCast, List.length_append, List.filter_cons, List.filter_nil, ne_eq, not_true_eq_false, not_false_eq_true, hl]))
        | refine Wp.skip ?_
        | refine Wp.block ?_
        | refine Wp.exit ?_
        | refine Wp.seq ?_)
      refine StLe.tm (by simp only [AllSub, go_sem, reduceIte, Nat.reduceEqDiff, Nat.reduceAdd, Bool.false_eq_true, Bool.true_beq, Bool.false_beq, Bool.not_true, Bool.not_false]; and_intros <;> first | exact trivial | exact VSub.refl _ | exact VSub.any _ | (refine VSub.int ?_; omega))
    | false =>
      have hbt : bet n = 1 := by simp [bet, hl]
      repeat (first
        | (refine Wp.seqItems (its := ?_) (t' := ?_) (h' := ?_) (log := ?_) ?_ ?_; rotate_left 4; (· simp only [go_sem, reduceIte, Nat.reduceEqDiff, Nat.reduceAdd, Bool.false_eq_true, Bool.true_beq, Bool.false_beq, Bool.not_true, Bool.not_false, and_self, true_and, and_true, if_true, if_false, true_or, or_true, Nat.zero_mul, Nat.one_mul, Nat.zero_le, Nat.reduceMul, Nat.reduceLeDiff, decide_true, decide_false, Int.toNat_natCast, List.length_append, List.filter_cons, List.filter_nil, ne_eq, not_true_eq_false, not_false_eq_true, hl]; exact rfl))
        | (refine Wp.items (its := ?_) (t' := ?_) (h' := ?_) (log := ?_) ?_ ?_; rotate_left 4; (· simp only [go_sem, reduceIte, Nat.reduceEqDiff, Nat.reduceAdd, Bool.false_eq_true, Bool.true_beq, Bool.false_beq, Bool.not_true, Bool.not_false, and_self, true_and, and_true, if_true, if_false, true_or, or_true, Nat.zero_mul, Nat.one_mul, Nat.zero_le, Nat.reduceMul, Nat.reduceLeDiff, decide_true, decide_false, Int.toNat_natCast, List.length_append, List.filter_cons, List.filter_nil, ne_eq, not_true_eq_false, not_false_eq_true, hl]; exact rfl))
        | (refine WpItems.nil ⟨?_, ?_⟩; (· first | trivial | simp [pairsQ, pairsOk, apart, ent0]))
        | (refine Wp.cond_true ?_ ?_; (· simp only [go_sem, reduceIte, Nat.reduceEqDiff, Nat.reduceAdd, Bool.false_eq_true, Bool.true_beq, Bool.false_beq, Bool.not_true, Bool.not_false, and_self, true_and, and_true, if_true, if_false, true_or, or_true, Nat.zero_mul, Nat.one_mul, Nat.zero_le, Nat.reduceMul, Nat.reduceLeDiff, decide_true, decide_false, Int.toNat_natCast, List.length_append, List.filter_cons, List.filter_nil, ne_eq, not_true_eq_false, not_false_eq_true, hl]))
        | (refine Wp.cond_false ?_ ?_; (· simp only [go_sem, reduceIte, Nat.reduceEqDiff, Nat.reduceAdd, Bool.false_eq_true, Bool.true_beq, Bool.false_beq, Bool.not_true, Bool.not_false, and_self, true_and, and_true, if_true, if_false, true_or, or_true, Nat.zero_mul, Nat.one_mul, Nat.zero_le, Nat.reduceMul, Nat.reduceLeDiff, decide_true, decide_false, Int.toNat_natCast, List.length_append, List.filter_cons, List.filter_nil, ne_eq, not_true_eq_false, not_false_eq_true, hl]))
        | refine Wp.skip ?_
        | refine Wp.block ?_
        | refine Wp.exit ?_
        | refine Wp.seq ?_)
      refine StLe.tm (by simp only [AllSub, go_sem, reduceIte, Nat.reduceEqDiff, Nat.reduceAdd, Bool.false_eq_true, Bool.true_beq, Bool.false_beq, Bool.not_true, Bool.not_false]; and_intros <;> first | exact trivial | exact VSub.refl _ | exact VSub.any _ | (refine VSub.int ?_; omega))
  · refine Wp.seqReg (by simp only [go_sem, reduceIte, Nat.reduceEqDiff, Nat.reduceAdd, Bool.false_eq_true, Bool.true_beq, Bool.false_beq, Bool.not_true, Bool.not_false, em]; exact rfl) (by trivial) ?_
    refine Wp.seq ?_
    by_cases hr : right n = true
    · by_cases hm : 1 ≤ most n
      · have hd : decide ((n.keys.length : Int) - 1 - (bet n : Int) < 1) = false := decide_eq_false (by unfold most at hm; omega)
        have hsp : splits n = true := by simp [splits, hr, hm]
        obtain ⟨c1, c2⟩ := cut_le hm
        have hR := right_parts hr
        have hmk : most n + 1 + bet n ≤ n.keys.length := by unfold most at hm ⊢; omega
        have hvl : ∀ x, x ≤ n.keys.length → n.leaf = true → x ≤ n.vals.length := fun x hx hl => by rw [hR.vals hl]; exact hx
        have hkl : ∀ x, x ≤ n.keys.length → n.leaf = false → x + 1 ≤ n.kids.length := fun x hx hl => by rw [hR.kids hl]; omega
        repeat (first
          | (refine Wp.seqItems (its := ?_) (t' := ?_) (h' := ?_) (log := ?_) ?_ ?_; rotate_left 4; (· simp only [go_sem, reduceIte, Nat.reduceEqDiff, Nat.reduceAdd, Bool.false_eq_true, Bool.true_beq, Bool.false_beq, Bool.not_true, Bool.not_false, and_self, true_and, and_true, if_true, if_false, true_or, or_true, Nat.zero_mul, Nat.one_mul, Nat.zero_le, Nat.reduceMul, Nat.reduceLeDiff, decide_true, decide_false, Int.toNat_natCast, List.length_append, List.filter_cons, List.filter_nil, ne_eq, not_true_eq_false, not_false_eq_true, hr, hd]; exact rfl))
          | (refine Wp.items (its := ?_) (t' := ?_) (h' := ?_) (log := ?_) ?_ ?_; rotate_left 4; (· simp only [go_sem, reduceIte, Nat.reduceEqDiff, Nat.reduceAdd, Bool.false_eq_true, Bool.true_beq, Bool.false_beq, Bool.not_true, Bool.not_false, and_self, true_and, and_true, if_true, if_false, true_or, or_true, Nat.zero_mul, Nat.one_mul, Nat.zero_le, Nat.reduceMul, Nat.reduceLeDiff, decide_true, decide_false, Int.toNat_natCast, List.length_append, List.filter_cons, List.filter_nil, ne_eq, not_true_eq_false, not_false_eq_true, hr, hd]; exact rfl))
          | (refine WpItems.nil ⟨?_, ?_⟩; (· first | trivial | simp [pairsQ, pairsOk, apart, ent0]))
          | (refine WpItems.pcall ?_ ?_ (standsR_p n hn) ?_; (· simp only [go_sem, reduceIte, Nat.reduceEqDiff, Nat.reduceAdd, Bool.false_eq_true, Bool.true_beq, Bool.false_beq, Bool.not_true, Bool.not_false]); (· simp only [go_sem, reduceIte, Nat.reduceEqDiff, Nat.reduceAdd, Bool.false_eq_true, Bool.true_beq, Bool.false_beq, Bool.not_true, Bool.not_false, List.map]; first | exact VSubs.refl _ | (repeat (first | exact VSubs.nil | refine VSubs.cons (by first | exact VSub.refl _ | assumption | exact VSub.cap | exact VSub.any _) ?_))); refine WpItems.eval (its := ?_) (t' := ?_) (h' := ?_) (log' := ?_) ?_ ?_; rotate_left 4; (· simp only [go_sem, reduceIte, Nat.reduceEqDiff, Nat.reduceAdd, Bool.false_eq_true, Bool.true_beq, Bool.false_beq, Bool.not_true, Bool.not_false, and_self, true_and, and_true, if_true, if_false, true_or, or_true, Nat.zero_mul, Nat.one_mul, Nat.zero_le, Nat.reduceMul, Nat.reduceLeDiff, decide_true, decide_false, Int.toNat_natCast, List.length_append, List.filter_cons, List.filter_nil, ne_eq, not_true_eq_false, not_false_eq_true, hr, hd]; exact rfl))
          | (refine Wp.cond_true ?_ ?_; (· simp only [go_sem, reduceIte, Nat.reduceEqDiff, Nat.reduceAdd, Bool.false_eq_true, Bool.true_beq, Bool.false_beq, Bool.not_true, Bool.not_false, and_self, true_and, and_true, if_true, if_false, true_or, or_true, Nat.zero_mul, Nat.one_mul, Nat.zero_le, Nat.reduceMul, Nat.reduceLeDiff, decide_true, decide_false, Int.toNat_natCast, List.length_append, List.filter_cons, List.filter_nil, ne_eq, not_true_eq_false, not_false_eq_true, hr, hd]))
          | (refine Wp.cond_false ?_ ?_; (· simp only [go_sem, reduceIte, Nat.reduceEqDiff, Nat.reduceAdd, Bool.false_eq_true, Bool.true_beq, Bool.false_beq, Bool.not_true, Bool.not_false, and_self, true_and, and_true, if_true, if_false, true_or, or_true, Nat.zero_mul, Nat.one_mul, Nat.zero_le, Nat.reduceMul, Nat.reduceLeDiff, decide_true, decide_false, Int.toNat_natCast, List.length_append, List.filter_cons, List.filter_nil, ne_eq, not_true_eq_false, not_false_eq_true, hr, hd]))
          | refine Wp.skip ?_
          | refine Wp.block ?_
          | refine Wp.exit ?_
          | refine Wp.seq ?_)
        refine Wp.loopK [1, 2, 4, 6, 7] (by simp only [go_sem, reduceIte, Nat.reduceEqDiff, Nat.reduceAdd, Bool.false_eq_true, Bool.true_beq, Bool.false_beq, Bool.not_true, Bool.not_false, List.map]; exact rfl) (fun j : Nat => [(8, .int .i64 j)]) (fun j => 1 ≤ j ∧ j ≤ cut n) (fun j => cut n - j) 1 ⟨Nat.le_refl _, c1⟩ ?_ ?_
        · simp only [AllSub, go_sem, reduceIte, Nat.reduceEqDiff, Nat.reduceAdd, Bool.false_eq_true, Bool.true_beq, Bool.false_beq, Bool.not_true, Bool.not_false]; and_intros <;> first | exact trivial | exact VSub.refl _ | exact VSub.any _ | (refine VSub.int ?_; omega)
        · rintro j ⟨j1, j2⟩
          have eh : IntKind.i64.wrap ((size n : Int).tdiv 2) = ((size n / 2 : Nat) : Int) := by
            rw [Int.tdiv_eq_ediv_of_nonneg (by omega), IntWalk.i64_in _ (by have := size_le hn; omega)]; omega
          by_cases hj : j < cut n
          · have hd1 : decide ((j : Int) < (n.keys.length : Int) - 1 - (bet n : Int)) = true := decide_eq_true (by unfold most at c2; omega)
            have hf := cut_before (n := n) (i := j - 1) (by omega)
            have hd2 : decide (((size (part n 0 j) : Nat) : Int) < ((size n / 2 : Nat) : Int)) = true := by
              unfold fits at hf
              have := of_decide_eq_false hf
              rw [show 1 + (j - 1) = j by omega] at this
              exact decide_eq_true (by omega)
            have ej : IntKind.i64.wrap ((j : Int) + 1) = ((j + 1 : Nat) : Int) := by rw [IntWalk.i64_in _ (by omega)]; omega
            repeat (first
              | (refine Wp.seqItems (its := ?_) (t' := ?_) (h' := ?_) (log := ?_) ?_ ?_; rotate_left 4; (· simp only [go_sem, reduceIte, Nat.reduceEqDiff, Nat.reduceAdd, Bool.false_eq_true, Bool.true_beq, Bool.false_beq, Bool.not_true, Bool.not_false, and_self, true_and, and_true, if_true, if_false, true_or, or_true, Nat.zero_mul, Nat.one_mul, Nat.zero_le, Nat.reduceMul, Nat.reduceLeDiff, decide_true, decide_false, Int.toNat_natCast, List.length_append, List.filter_cons, List.filter_nil, ne_eq, not_true_eq_false, not_false_eq_true, hd1, hd2, eh, ej]; exact rfl))
              | (refine Wp.items (its := ?_) (t' := ?_) (h' := ?_) (log := ?_) ?_ ?_; rotate_left 4; (· simp only [go_sem, reduceIte, Nat.reduceEqDiff, Nat.reduceAdd, Bool.false_eq_true, Bool.true_beq, Bool.false_beq, Bool.not_true, Bool.not_false, and_self, true_and, and_true, if_true, if_false, true_or, or_true, Nat.zero_mul, Nat.one_mul, Nat.zero_le, Nat.reduceMul, Nat.reduceLeDiff, decide_true, decide_false, Int.toNat_natCast, List.length_append, List.filter_cons, List.filter_nil, ne_eq, not_true_eq_false, not_false_eq_true, hd1, hd2, eh, ej]; exact rfl))
              | (refine WpItems.nil ⟨?_, ?_⟩; (· first | trivial | simp [pairsQ, pairsOk, apart, ent0]))
              | (refine WpItems.pcall ?_ ?_ (partR_p n hs 0 j (Nat.zero_le _) (by omega) (hvl j (by omega)) (hkl j (by omega))) ?_; (· simp only [go_sem, reduceIte, Nat.reduceEqDiff, Nat.reduceAdd, Bool.false_eq_true, Bool.true_beq, Bool.false_beq, Bool.not_true, Bool.not_false]); (· simp only [go_sem, reduceIte, Nat.reduceEqDiff, Nat.reduceAdd, Bool.false_eq_true, Bool.true_beq, Bool.false_beq, Bool.not_true, Bool.not_false, List.map]; first | exact VSubs.refl _ | (repeat (first | exact VSubs.nil | refine VSubs.cons (by first | exact VSub.refl _ | assumption | exact VSub.cap | exact VSub.any _) ?_))); refine WpItems.eval (its := ?_) (t' := ?_) (h' := ?_) (log' := ?_) ?_ ?_; rotate_left 4; (· simp only [go_sem, reduceIte, Nat.reduceEqDiff, Nat.reduceAdd, Bool.false_eq_true, Bool.true_beq, Bool.false_beq, Bool.not_true, Bool.not_false, and_self, true_and, and_true, if_true, if_false, true_or, or_true, Nat.zero_mul, Nat.one_mul, Nat.zero_le, Nat.reduceMul, Nat.reduceLeDiff, decide_true, decide_false, Int.toNat_natCast, List.length_append, List.filter_cons, List.filter_nil, ne_eq, not_true_eq_false, not_false_eq_true, hd1, hd2, eh, ej]; exact rfl))
              | (refine WpItems.pcall ?_ ?_ (sizeR_p _ (part_nb hn 0 j)) ?_; (· simp only [go_sem, reduceIte, Nat.reduceEqDiff, Nat.reduceAdd, Bool.false_eq_true, Bool.true_beq, Bool.false_beq, Bool.not_true, Bool.not_false]); (· simp only [go_sem, reduceIte, Nat.reduceEqDiff, Nat.reduceAdd, Bool.false_eq_true, Bool.true_beq, Bool.false_beq, Bool.not_true, Bool.not_false, List.map]; first | exact VSubs.refl _ | (repeat (first | exact VSubs.nil | refine VSubs.cons (by first | exact VSub.refl _ | assumption | exact VSub.cap | exact VSub.any _) ?_))); refine WpItems.eval (its := ?_) (t' := ?_) (h' := ?_) (log' := ?_) ?_ ?_; rotate_left 4; (· simp only [go_sem, reduceIte, Nat.reduceEqDiff, Nat.reduceAdd, Bool.false_eq_true, Bool.true_beq, Bool.false_beq, Bool.not_true, Bool.not_false, and_self, true_and, and_true, if_true, if_false, true_or, or_true, Nat.zero_mul, Nat.one_mul, Nat.zero_le, Nat.reduceMul, Nat.reduceLeDiff, decide_true, decide_false, Int.toNat_natCast, List.length_append, List.filter_cons, List.filter_nil, ne_eq, not_true_eq_false, not_false_eq_true, hd1, hd2, eh, ej]; exact rfl))
              | (refine WpItems.pcall ?_ ?_ (sizeR_p n hn) ?_; (· simp only [go_sem, reduceIte, Nat.reduceEqDiff, Nat.reduceAdd, Bool.false_eq_true, Bool.true_beq, Bool.false_beq, Bool.not_true, Bool.not_false]); (· simp only [go_sem, reduceIte, Nat.reduceEqDiff, Nat.reduceAdd, Bool.false_eq_true, Bool.true_beq, Bool.false_beq, Bool.not_true, Bool.not_false, List.map]; first | exact VSubs.refl _ | (repeat (first | exact VSubs.nil | refine VSubs.cons (by first | exact VSub.refl _ | assumption | exact VSub.cap | exact VSub.any _) ?_))); refine WpItems.eval (its := ?_) (t' := ?_) (h' := ?_) (log' := ?_) ?_ ?_; rotate_left 4; (· simp only [go_sem, reduceIte, Nat.reduceEqDiff, Nat.reduceAdd, Bool.false_eq_true, Bool.true_beq, Bool.false_beq, Bool.not_true, Bool.not_false, and_self, true_and, and_true, if_true, if_false, true_or, or_true, Nat.zero_mul, Nat.one_mul, Nat.zero_le, Nat.reduceMul, Nat.reduceLeDiff, decide_true, decide_false, Int.toNat_natCast, List.length_append, List.filter_cons, List.filter_nil, ne_eq, not_true_eq_false, not_false_eq_true, hd1, hd2, eh, ej]; exact rfl))
              | (refine Wp.cond_true ?_ ?_; (· simp only [go_sem, reduceIte, Nat.reduceEqDiff, Nat.reduceAdd, Bool.false_eq_true, Bool.true_beq, Bool.false_beq, Bool.not_true, Bool.not_false, and_self, true_and, and_true, if_true, if_false, true_or, or_true, Nat.zero_mul, Nat.one_mul, Nat.zero_le, Nat.reduceMul, Nat.reduceLeDiff, decide_true, decide_false, Int.toNat_natCast, List.length_append, List.filter_cons, List.filter_nil, ne_eq, not_true_eq_false, not_false_eq_true, hd1, hd2, eh, ej]))
              | (refine Wp.cond_false ?_ ?_; (· simp only [go_sem, reduceIte, Nat.reduceEqDiff, Nat.reduceAdd, Bool.false_eq_true, Bool.true_beq, Bool.false_beq, Bool.not_true, Bool.not_false, and_self, true_and, and_true, if_true, if_false, true_or, or_true, Nat.zero_mul, Nat.one_mul, Nat.zero_le, Nat.reduceMul, Nat.reduceLeDiff, decide_true, decide_false, Int.toNat_natCast, List.length_append, List.filter_cons, List.filter_nil, ne_eq, not_true_eq_false, not_false_eq_true, hd1, hd2, eh, ej]))
              | refine Wp.skip ?_
              | refine Wp.block ?_
              | refine Wp.exit ?_
              | refine Wp.seq ?_)
            refine ⟨j + 1, by omega, by omega, ?_⟩
            refine StLe.tm (by simp only [AllSub, go_sem, reduceIte, Nat.reduceEqDiff, Nat.reduceAdd, Bool.false_eq_true, Bool.true_beq, Bool.false_beq, Bool.not_true, Bool.not_false]; and_intros <;> first | exact trivial | exact VSub.refl _ | exact VSub.any _ | (refine VSub.int ?_; omega))
          · have hjc : j = cut n := by omega
            have ek : IntKind.i64.wrap ((cut n : Int) + (bet n : Int)) = ((cut n + bet n : Nat) : Int) := by rw [IntWalk.i64_in _ (by omega)]; omega
            have x1 : (0 : Int) ≤ (cut n : Int) := by omega
            have x2 : (cut n : Int) < (n.keys.length : Int) := by omega
            have x3 : cut n < n.keys.length := by omega
            have fin : VSub (.tup [encNode (part n 0 (cut n)), .str (n.keys.getD (cut n) []), encNode (part n (cut n + bet n) n.keys.length), .bool true]) (encSplit (split n)) := by
              rw [split, if_pos hsp]; exact VSub.refl _
            subst hjc
            by_cases hlt : cut n < most n
            · have hd1 : decide ((cut n : Int) < (n.keys.length : Int) - 1 - (bet n : Int)) = true := decide_eq_true (by unfold most at hlt; omega)
              have hf := cut_at hlt
              have hd2 : decide (((size (part n 0 (cut n)) : Nat) : Int) < ((size n / 2 : Nat) : Int)) = false := by
                unfold fits at hf
                have := of_decide_eq_true hf
                rw [show 1 + (cut n - 1) = cut n by omega] at this
                exact decide_eq_false (by omega)
              repeat (first
                | (refine Wp.seqItems (its := ?_) (t' := ?_) (h' := ?_) (log := ?_) ?_ ?_; rotate_left 4; (· simp only [go_sem, reduceIte, Nat.reduceEqDiff, Nat.reduceAdd, Bool.false_eq_true, Bool.true_beq, Bool.false_beq, Bool.not_true, Bool.not_false, and_self, true_and, and_true, if_true, if_false, true_or, or_true, Nat.zero_mul, Nat.one_mul, Nat.zero_le, Nat.reduceMul, Nat.reduceLeDiff, decide_true, decide_false, Int.toNat_natCast, List.length_append, List.filter_cons, List.filter_nil, ne_eq, not_true_eq_false, not_false_eq_true, hd1, hd2, eh, ek, x1, x2, Int.toNat_natCast, and_self, if_true, strs_getD _ _ _ x3]; exact rfl))
                | (refine Wp.items (its := ?_) (t' := ?_) (h' := ?_) (log := ?_) ?_ ?_; rotate_left 4; (· simp only [go_sem, reduceIte, Nat.reduceEqDiff, Nat.reduceAdd, Bool.false_eq_true, Bool.true_beq, Bool.false_beq, Bool.not_true, Bool.not_false, and_self, true_and, and_true, if_true, if_false, true_or, or_true, Nat.zero_mul, Nat.one_mul, Nat.zero_le, Nat.reduceMul, Nat.reduceLeDiff, decide_true, decide_false, Int.toNat_natCast, List.length_append, List.filter_cons, List.filter_nil, ne_eq, not_true_eq_false, not_false_eq_true, hd1, hd2, eh, ek, x1, x2, Int.toNat_natCast, and_self, if_true, strs_getD _ _ _ x3]; exact rfl))
                | (refine WpItems.nil ⟨?_, ?_⟩; (· first | trivial | simp [pairsQ, pairsOk, apart, ent0]))
                | (refine WpItems.pcall ?_ ?_ (sizeR_p _ (part_nb hn 0 (cut n))) ?_; (· simp only [go_sem, reduceIte, Nat.reduceEqDiff, Nat.reduceAdd, Bool.false_eq_true, Bool.true_beq, Bool.false_beq, Bool.not_true, Bool.not_false]); (· simp only [go_sem, reduceIte, Nat.reduceEqDiff, Nat.reduceAdd, Bool.false_eq_true, Bool.true_beq, Bool.false_beq, Bool.not_true, Bool.not_false, List.map]; first | exact VSubs.refl _ | (repeat (first | exact VSubs.nil | refine VSubs.cons (by first | exact VSub.refl _ | assumption | exact VSub.cap | exact VSub.any _) ?_))); refine WpItems.eval (its := ?_) (t' := ?_) (h' := ?_) (log' := ?_) ?_ ?_; rotate_left 4; (· simp only [go_sem, reduceIte, Nat.reduceEqDiff, Nat.reduceAdd, Bool.false_eq_true, Bool.true_beq, Bool.false_beq, Bool.not_true, Bool.not_false, and_self, true_and, and_true, if_true, if_false, true_or, or_true, Nat.zero_mul, Nat.one_mul, Nat.zero_le, Nat.reduceMul, Nat.reduceLeDiff, decide_true, decide_false, Int.toNat_natCast, List.length_append, List.filter_cons, List.filter_nil, ne_eq, not_true_eq_false, not_false_eq_true, hd1, hd2, eh, ek, x1, x2, Int.toNat_natCast, and_self, if_true, strs_getD _ _ _ x3]; exact rfl))
                | (refine WpItems.pcall ?_ ?_ (sizeR_p n hn) ?_; (· simp only [go_sem, reduceIte, Nat.reduceEqDiff, Nat.reduceAdd, Bool.false_eq_true, Bool.true_beq, Bool.false_beq, Bool.not_true, Bool.not_false]); (· simp only [go_sem, reduceIte, Nat.reduceEqDiff, Nat.reduceAdd, Bool.false_eq_true, Bool.true_beq, Bool.false_beq, Bool.not_true, Bool.not_false, List.map]; first | exact VSubs.refl _ | (repeat (first | exact VSubs.nil | refine VSubs.cons (by first | exact VSub.refl _ | assumption | exact VSub.cap | exact VSub.any _) ?_))); refine WpItems.eval (its := ?_) (t' := ?_) (h' := ?_) (log' := ?_) ?_ ?_; rotate_left 4; (· simp only [go_sem, reduceIte, Nat.reduceEqDiff, Nat.reduceAdd, Bool.false_eq_true, Bool.true_beq, Bool.false_beq, Bool.not_true, Bool.not_false, and_self, true_and, and_true, if_true, if_false, true_or, or_true, Nat.zero_mul, Nat.one_mul, Nat.zero_le, Nat.reduceMul, Nat.reduceLeDiff, decide_true, decide_false, Int.toNat_natCast, List.length_append, List.filter_cons, List.filter_nil, ne_eq, not_true_eq_false, not_false_eq_true, hd1, hd2, eh, ek, x1, x2, Int.toNat_natCast, and_self, if_true, strs_getD _ _ _ x3]; exact rfl))
                | (refine WpItems.pcall ?_ ?_ (partR_p n hs 0 (cut n) (Nat.zero_le _) (by omega) (hvl _ (by omega)) (hkl _ (by omega))) ?_; (· simp only [go_sem, reduceIte, Nat.reduceEqDiff, Nat.reduceAdd, Bool.false_eq_true, Bool.true_beq, Bool.false_beq, Bool.not_true, Bool.not_false]); (· simp only [go_sem, reduceIte, Nat.reduceEqDiff, Nat.reduceAdd, Bool.false_eq_true, Bool.true_beq, Bool.false_beq, Bool.not_true, Bool.not_false, List.map]; first | exact VSubs.refl _ | (repeat (first | exact VSubs.nil | refine VSubs.cons (by first | exact VSub.refl _ | assumption | exact VSub.cap | exact VSub.any _) ?_))); refine WpItems.eval (its := ?_) (t' := ?_) (h' := ?_) (log' := ?_) ?_ ?_; rotate_left 4; (· simp only [go_sem, reduceIte, Nat.reduceEqDiff, Nat.reduceAdd, Bool.false_eq_true, Bool.true_beq, Bool.false_beq, Bool.not_true, Bool.not_false, and_self, true_and, and_true, if_true, if_false, true_or, or_true, Nat.zero_mul, Nat.one_mul, Nat.zero_le, Nat.reduceMul, Nat.reduceLeDiff, decide_true, decide_false, Int.toNat_natCast, List.length_append, List.filter_cons, List.filter_nil, ne_eq, not_true_eq_false, not_false_eq_true, hd1, hd2, eh, ek, x1, x2, Int.toNat_natCast, and_self, if_true, strs_getD _ _ _ x3]; exact rfl))
                | (refine WpItems.pcall ?_ ?_ (partR_p n hs (cut n + bet n) n.keys.length (by omega) (by omega) (hvl _ (by omega)) (hkl _ (by omega))) ?_; (· simp only [go_sem, reduceIte, Nat.reduceEqDiff, Nat.reduceAdd, Bool.false_eq_true, Bool.true_beq, Bool.false_beq, Bool.not_true, Bool.not_false]); (· simp only [go_sem, reduceIte, Nat.reduceEqDiff, Nat.reduceAdd, Bool.false_eq_true, Bool.true_beq, Bool.false_beq, Bool.not_true, Bool.not_false, List.map]; first | exact VSubs.refl _ | (repeat (first | exact VSubs.nil | refine VSubs.cons (by first | exact VSub.refl _ | assumption | exact VSub.cap | exact VSub.any _) ?_))); refine WpItems.eval (its := ?_) (t' := ?_) (h' := ?_) (log' := ?_) ?_ ?_; rotate_left 4; (· simp only [go_sem, reduceIte, Nat.reduceEqDiff, Nat.reduceAdd, Bool.false_eq_true, Bool.true_beq, Bool.false_beq, Bool.not_true, Bool.not_false, and_self, true_and, and_true, if_true, if_false, true_or, or_true, Nat.zero_mul, Nat.one_mul, Nat.zero_le, Nat.reduceMul, Nat.reduceLeDiff, decide_true, decide_false, Int.toNat_natCast, List.length_append, List.filter_cons, List.filter_nil, ne_eq, not_true_eq_false, not_false_eq_true, hd1, hd2, eh, ek, x1, x2, Int.toNat_natCast, and_self, if_true, strs_getD _ _ _ x3]; exact rfl))
                | (refine Wp.cond_true ?_ ?_; (· simp only [go_sem, reduceIte, Nat.reduceEqDiff, Nat.reduceAdd, Bool.false_eq_true, Bool.true_beq, Bool.false_beq, Bool.not_true, Bool.not_false, and_self, true_and, and_true, if_true, if_false, true_or, or_true, Nat.zero_mul, Nat.one_mul, Nat.zero_le, Nat.reduceMul, Nat.reduceLeDiff, decide_true, decide_false, Int.toNat_natCast, List.length_append, List.filter_cons, List.filter_nil, ne_eq, not_true_eq_false, not_false_eq_true, hd1, hd2, eh, ek, x1, x2, Int.toNat_natCast, and_self, if_true, strs_getD _ _ _ x3]))
                | (refine Wp.cond_false ?_ ?_; (· simp only [go_sem, reduceIte, Nat.reduceEqDiff, Nat.reduceAdd, Bool.false_eq_true, Bool.true_beq, Bool.false_beq, Bool.not_true, Bool.not_false, and_self, true_and, and_true, if_true, if_false, true_or, or_true, Nat.zero_mul, Nat.one_mul, Nat.zero_le, Nat.reduceMul, Nat.reduceLeDiff, decide_true, decide_false, Int.toNat_natCast, List.length_append, List.filter_cons, List.filter_nil, ne_eq, not_true_eq_false, not_false_eq_true, hd1, hd2, eh, ek, x1, x2, Int.toNat_natCast, and_self, if_true, strs_getD _ _ _ x3]))
                | refine Wp.skip ?_
                | refine Wp.block ?_
                | refine Wp.exit ?_
                | refine Wp.seq ?_)
              refine Wp.ret ⟨trivial, _, rfl, ?_⟩
              simp only [go_sem, reduceIte, Nat.reduceEqDiff, Nat.reduceAdd, Bool.false_eq_true, Bool.true_beq, Bool.false_beq, Bool.not_true, Bool.not_false]
              exact fin
            · have hd1 : decide ((cut n : Int) < (n.keys.length : Int) - 1 - (bet n : Int)) = false := decide_eq_false (by unfold most at hlt; omega)
              repeat (first
                | (refine Wp.seqItems (its := ?_) (t' := ?_) (h' := ?_) (log := ?_) ?_ ?_; rotate_left 4; (· simp only [go_sem, reduceIte, Nat.reduceEqDiff, Nat.reduceAdd, Bool.false_eq_true, Bool.true_beq, Bool.false_beq, Bool.not_true, Bool.not_false, and_self, true_and, and_true, if_true, if_false, true_or, or_true, Nat.zero_mul, Nat.one_mul, Nat.zero_le, Nat.reduceMul, Nat.reduceLeDiff, decide_true, decide_false, Int.toNat_natCast, List.length_append, List.filter_cons, List.filter_nil, ne_eq, not_true_eq_false, not_false_eq_true, hd1, ek, x1, x2, Int.toNat_natCast, and_self, if_true, strs_getD _ _ _ x3]; exact rfl))
                | (refine Wp.items (its := ?_) (t' := ?_) (h' := ?_) (log := ?_) ?_ ?_; rotate_left 4; (· simp only [go_sem, reduceIte, Nat.reduceEqDiff, Nat.reduceAdd, Bool.false_eq_true, Bool.true_beq, Bool.false_beq, Bool.not_true, Bool.not_false, and_self, true_and, and_true, if_true, if_false, true_or, or_true, Nat.zero_mul, Nat.one_mul, Nat.zero_le, Nat.reduceMul, Nat.reduceLeDiff, decide_true, decide_false, Int.toNat_natCast, List.length_append, List.filter_cons, List.filter_nil, ne_eq, not_true_eq_false, not_false_eq_true, hd1, ek, x1, x2, Int.toNat_natCast, and_self, if_true, strs_getD _ _ _ x3]; exact rfl))
                | (refine WpItems.nil ⟨?_, ?_⟩; (· first | trivial | simp [pairsQ, pairsOk, apart, ent0]))
                | (refine WpItems.pcall ?_ ?_ (partR_p n hs 0 (cut n) (Nat.zero_le _) (by omega) (hvl _ (by omega)) (hkl _ (by omega))) ?_; (· simp only [go_sem, reduceIte, Nat.reduceEqDiff, Nat.reduceAdd, Bool.false_eq_true, Bool.true_beq, Bool.false_beq, Bool.not_true, Bool.not_false]); (· simp only [go_sem, reduceIte, Nat.reduceEqDiff, Nat.reduceAdd, Bool.false_eq_true, Bool.true_beq, Bool.false_beq, Bool.not_true, Bool.not_false, List.map]; first | exact VSubs.refl _ | (repeat (first | exact VSubs.nil | refine VSubs.cons (by first | exact VSub.refl _ | assumption | exact VSub.cap | exact VSub.any _) ?_))); refine WpItems.eval (its := ?_) (t' := ?_) (h' := ?_) (log' := ?_) ?_ ?_; rotate_left 4; (· simp only [go_sem, reduceIte, Nat.reduceEqDiff, Nat.reduceAdd, Bool.false_eq_true, Bool.true_beq, Bool.false_beq, Bool.not_true, Bool.not_false, and_self, true_and, and_true, if_true, if_false, true_or, or_true, Nat.zero_mul, Nat.one_mul, Nat.zero_le, Nat.reduceMul, Nat.reduceLeDiff, decide_true, decide_false, Int.toNat_natCast, List.length_append, List.filter_cons, List.filter_nil, ne_eq, not_true_eq_false, not_false_eq_true, hd1, ek, x1, x2, Int.toNat_natCast, and_self, if_true, strs_getD _ _ _ x3]; exact rfl))
                | (refine WpItems.pcall ?_ ?_ (partR_p n hs (cut n + bet n) n.keys.length (by omega) (by omega) (hvl _ (by omega)) (hkl _ (by omega))) ?_; (· simp only [go_sem, reduceIte, Nat.reduceEqDiff, Nat.reduceAdd, Bool.false_eq_true, Bool.true_beq, Bool.false_beq, Bool.not_true, Bool.not_false]); (· simp only [go_sem, reduceIte, Nat.reduceEqDiff, Nat.reduceAdd, Bool.false_eq_true, Bool.true_beq, Bool.false_beq, Bool.not_true, Bool.not_false, List.map]; first | exact VSubs.refl _ | (repeat (first | exact VSubs.nil | refine VSubs.cons (by first | exact VSub.refl _ | assumption | exact VSub.cap | exact VSub.any _) ?_))); refine WpItems.eval (its := ?_) (t' := ?_) (h' := ?_) (log' := ?_) ?_ ?_; rotate_left 4; (· simp only [go_sem, reduceIte, Nat.reduceEqDiff, Nat.reduceAdd, Bool.false_eq_true, Bool.true_beq, Bool.false_beq, Bool.not_true, Bool.not_false, and_self, true_and, and_true, if_true, if_false, true_or, or_true, Nat.zero_mul, Nat.one_mul, Nat.zero_le, Nat.reduceMul, Nat.reduceLeDiff, decide_true, decide_false, Int.toNat_natCast, List.length_append, List.filter_cons, List.filter_nil, ne_eq, not_true_eq_false, not_false_eq_true, hd1, ek, x1, x2, Int.toNat_natCast, and_self, if_true, strs_getD _ _ _ x3]; exact rfl))
                | (refine Wp.cond_true ?_ ?_; (· simp only [go_sem, reduceIte, Nat.reduceEqDiff, Nat.reduceAdd, Bool.false_eq_true, Bool.true_beq, Bool.false_beq, Bool.not_true, Bool.not_false, and_self, true_and, and_true, if_true, if_false, true_or, or_true, Nat.zero_mul, Nat.one_mul, Nat.zero_le, Nat.reduceMul, Nat.reduceLeDiff, decide_true, decide_false, Int.toNat_natCast, List.length_append, List.filter_cons, List.filter_nil, ne_eq, not_true_eq_false, not_false_eq_true, hd1, ek, x1, x2, Int.toNat_natCast, and_self, if_true, strs_getD _ _ _ x3]))
                | (refine Wp.cond_false ?_ ?_; (· simp only [go_sem, reduceIte, Nat.reduceEqDiff, Nat.reduceAdd, Bool.false_eq_true, Bool.true_beq, Bool.false_beq, Bool.not_true, Bool.not_false, and_self, true_and, and_true, if_true, if_false, true_or, or_true, Nat.zero_mul, Nat.one_mul, Nat.zero_le, Nat.reduceMul, Nat.reduceLeDiff, decide_true, decide_false, Int.toNat_natCast, List.length_append, List.filter_cons, List.filter_nil, ne_eq, not_true_eq_false, not_false_eq_true, hd1, ek, x1, x2, Int.toNat_natCast, and_self, if_true, strs_getD _ _ _ x3]))
                | refine Wp.skip ?_
                | refine Wp.block ?_
                | refine Wp.exit ?_
                | refine Wp.seq ?_)
              refine Wp.ret ⟨trivial, _, rfl, ?_⟩
              simp only [go_sem, reduceIte, Nat.reduceEqDiff, Nat.reduceAdd, Bool.false_eq_true, Bool.true_beq, Bool.false_beq, Bool.not_true, Bool.not_false]
              exact fin
      · have hd : decide ((n.keys.length : Int) - 1 - (bet n : Int) < 1) = true := decide_eq_true (by unfold most at hm; omega)
        have hsp : splits n = false := by simp [splits, hm]
        repeat (first
          | (refine Wp.seqItems (its := ?_) (t' := ?_) (h' := ?_) (log := ?_) ?_ ?_; rotate_left 4; (· simp only [go_sem, reduceIte, Nat.reduceEqDiff, Nat.reduceAdd, Bool.false_eq_true, Bool.true_beq, Bool.false_beq, Bool.not_true, Bool.not_false, and_self, true_and, and_true, if_true, if_false, true_or, or_true, Nat.zero_mul, Nat.one_mul, Nat.zero_le, Nat.reduceMul, Nat.reduceLeDiff, decide_true, decide_false, Int.toNat_natCast, List.length_append, List.filter_cons, List.filter_nil, ne_eq, not_true_eq_false, not_false_eq_true, hr, hd]; exact rfl))
          | (refine Wp.items (its := ?_) (t' := ?_) (h' := ?_) (log := ?_) ?_ ?_; rotate_left 4; (· simp only [go_sem, reduceIte, Nat.reduceEqDiff, Nat.reduceAdd, Bool.false_eq_true, Bool.true_beq, Bool.false_beq, Bool.not_true, Bool.not_false, and_self, true_and, and_true, if_true, if_false, true_or, or_true, Nat.zero_mul, Nat.one_mul, Nat.zero_le, Nat.reduceMul, Nat.reduceLeDiff, decide_true, decide_false, Int.toNat_natCast, List.length_append, List.filter_cons, List.filter_nil, ne_eq, not_true_eq_false, not_false_eq_true, hr, hd]; exact rfl))
          | (refine WpItems.nil ⟨?_, ?_⟩; (· first | trivial | simp [pairsQ, pairsOk, apart, ent0]))
          | (refine WpItems.pcall ?_ ?_ (standsR_p n hn) ?_; (· simp only [go_sem, reduceIte, Nat.reduceEqDiff, Nat.reduceAdd, Bool.false_eq_true, Bool.true_beq, Bool.false_beq, Bool.not_true, Bool.not_false]); (· simp only [go_sem, reduceIte, Nat.reduceEqDiff, Nat.reduceAdd, Bool.false_eq_true, Bool.true_beq, Bool.false_beq, Bool.not_true, Bool.not_false, List.map]; first | exact VSubs.refl _ | (repeat (first | exact VSubs.nil | refine VSubs.cons (by first | exact VSub.refl _ | assumption | exact VSub.cap | exact VSub.any _) ?_))); refine WpItems.eval (its := ?_) (t' := ?_) (h' := ?_) (log' := ?_) ?_ ?_; rotate_left 4; (· simp only [go_sem, reduceIte, Nat.reduceEqDiff, Nat.reduceAdd, Bool.false_eq_true, Bool.true_beq, Bool.false_beq, Bool.not_true, Bool.not_false, and_self, true_and, and_true, if_true, if_false, true_or, or_true, Nat.zero_mul, Nat.one_mul, Nat.zero_le, Nat.reduceMul, Nat.reduceLeDiff, decide_true, decide_false, Int.toNat_natCast, List.length_append, List.filter_cons, List.filter_nil, ne_eq, not_true_eq_false, not_false_eq_true, hr, hd]; exact rfl))
          | (refine Wp.cond_true ?_ ?_; (· simp only [go_sem, reduceIte, Nat.reduceEqDiff, Nat.reduceAdd, Bool.false_eq_true, Bool.true_beq, Bool.false_beq, Bool.not_true, Bool.not_false, and_self, true_and, and_true, if_true, if_false, true_or, or_true, Nat.zero_mul, Nat.one_mul, Nat.zero_le, Nat.reduceMul, Nat.reduceLeDiff, decide_true, decide_false, Int.toNat_natCast, List.length_append, List.filter_cons, List.filter_nil, ne_eq, not_true_eq_false, not_false_eq_true, hr, hd]))
          | (refine Wp.cond_false ?_ ?_; (· simp only [go_sem, reduceIte, Nat.reduceEqDiff, Nat.reduceAdd, Bool.false_eq_true, Bool.true_beq, Bool.false_beq, Bool.not_true, Bool.not_false, and_self, true_and, and_true, if_true, if_false, true_or, or_true, Nat.zero_mul, Nat.one_mul, Nat.zero_le, Nat.reduceMul, Nat.reduceLeDiff, decide_true, decide_false, Int.toNat_natCast, List.length_append, List.filter_cons, List.filter_nil, ne_eq, not_true_eq_false, not_false_eq_true, hr, hd]))
          | refine Wp.skip ?_
          | refine Wp.block ?_
          | refine Wp.exit ?_
          | refine Wp.seq ?_)
        refine Wp.ret ⟨trivial, _, rfl, ?_⟩
        simp only [go_sem, reduceIte, Nat.reduceEqDiff, Nat.reduceAdd, Bool.false_eq_true, Bool.true_beq, Bool.false_beq, Bool.not_true, Bool.not_false]
        rw [split, if_neg (by simp [hsp])]
        exact VSub.tup (VSubs.cons VSub.zeroN (VSubs.cons (VSub.refl _) (VSubs.cons VSub.zeroN (VSubs.cons (VSub.refl _) VSubs.nil))))
    · have hr' : right n = false := by simpa using hr
      have hsp : splits n = false := by simp [splits, hr']
      repeat (first
        | (refine Wp.seqItems (its := ?_) (t' := ?_) (h' := ?_) (log := ?_) ?_ ?_; rotate_left 4; (· simp only [go_sem, reduceIte, Nat.reduceEqDiff, Nat.reduceAdd, Bool.false_eq_true, Bool.true_beq, Bool.false_beq, Bool.not_true, Bool.not_false, and_self, true_and, and_true, if_true, if_false, true_or, or_true, Nat.zero_mul, Nat.one_mul, Nat.zero_le, Nat.reduceMul, Nat.reduceLeDiff, decide_true, decide_false, Int.toNat_natCast, List.length_append, List.filter_cons, List.filter_nil, ne_eq, not_true_eq_false, not_false_eq_true, hr']; exact rfl))
        | (refine Wp.items (its := ?_) (t' := ?_) (h' := ?_) (log := ?_) ?_ ?_; rotate_left 4; (· simp only [go_sem, reduceIte, Nat.reduceEqDiff, Nat.reduceAdd, Bool.false_eq_true, Bool.true_beq, Bool.false_beq, Bool.not_true, Bool.not_false, and_self, true_and, and_true, if_true, if_false, true_or, or_true, Nat.zero_mul, Nat.one_mul, Nat.zero_le, Nat.reduceMul, Nat.reduceLeDiff, decide_true, decide_false, Int.toNat_natCast, List.length_append, List.filter_cons, List.filter_nil, ne_eq, not_true_eq_false, not_false_eq_true, hr']; exact rfl))
        | (refine WpItems.nil ⟨?_, ?_⟩; (· first | trivial | simp [pairsQ, pairsOk, apart, ent0]))
        | (refine WpItems.pcall ?_ ?_ (standsR_p n hn) ?_; (· simp only [go_sem, reduceIte, Nat.reduceEqDiff, Nat.reduceAdd, Bool.false_eq_true, Bool.true_beq, Bool.false_beq, Bool.not_true, Bool.not_false]); (· simp only [go_sem, reduceIte, Nat.reduceEqDiff, Nat.reduceAdd, Bool.false_eq_true, Bool.true_beq, Bool.false_beq, Bool.not_true, Bool.not_false, List.map]; first | exact VSubs.refl _ | (repeat (first | exact VSubs.nil | refine VSubs.cons (by first | exact VSub.refl _ | assumption | exact VSub.cap | exact VSub.any _) ?_))); refine WpItems.eval (its := ?_) (t' := ?_) (h' := ?_) (log' := ?_) ?_ ?_; rotate_left 4; (· simp only [go_sem, reduceIte, Nat.reduceEqDiff, Nat.reduceAdd, Bool.false_eq_true, Bool.true_beq, Bool.false_beq, Bool.not_true, Bool.not_false, and_self, true_and, and_true, if_true, if_false, true_or, or_true, Nat.zero_mul, Nat.one_mul, Nat.zero_le, Nat.reduceMul, Nat.reduceLeDiff, decide_true, decide_false, Int.toNat_natCast, List.length_append, List.filter_cons, List.filter_nil, ne_eq, not_true_eq_false, not_false_eq_true, hr']; exact rfl))
        | (refine Wp.cond_true ?_ ?_; (· simp only [go_sem, reduceIte, Nat.reduceEqDiff, Nat.reduceAdd, Bool.false_eq_true, Bool.true_beq, Bool.false_beq, Bool.not_true, Bool.not_false, and_self, true_and, and_true, if_true, if_false, true_or, or_true, Nat.zero_mul, Nat.one_mul, Nat.zero_le, Nat.reduceMul, Nat.reduceLeDiff, decide_true, decide_false, Int.toNat_natCast, List.length_append, List.filter_cons, List.filter_nil, ne_eq, not_true_eq_false, not_false_eq_true, hr']))
        | (refine Wp.cond_false ?_ ?_; (· simp only [go_sem, reduceIte, Nat.reduceEqDiff, Nat.reduceAdd, Bool.false_eq_true, Bool.true_beq, Bool.false_beq, Bool.not_true, Bool.not_false, and_self, true_and, and_true, if_true, if_false, true_or, or_true, Nat.zero_mul, Nat.one_mul, Nat.zero_le, Nat.reduceMul, Nat.reduceLeDiff, decide_true, decide_false, Int.toNat_natCast, List.length_append, List.filter_cons, List.filter_nil, ne_eq, not_true_eq_false, not_false_eq_true, hr']))
        | refine Wp.skip ?_
        | refine Wp.block ?_
        | refine Wp.exit ?_
        | refine Wp.seq ?_)
      refine Wp.ret ⟨trivial, _, rfl, ?_⟩
      simp only [go_sem, reduceIte, Nat.reduceEqDiff, Nat.reduceAdd, Bool.false_eq_true, Bool.true_beq, Bool.false_beq, Bool.not_true, Bool.not_false]
      rw [split, if_neg (by simp [hsp])]
      exact VSub.tup (VSubs.cons VSub.zeroN (VSubs.cons (VSub.refl _) (VSubs.cons VSub.zeroN (VSubs.cons (VSub.refl _) VSubs.nil))))
end Go.Proofs.Ytgainpikomhepaa.Page
