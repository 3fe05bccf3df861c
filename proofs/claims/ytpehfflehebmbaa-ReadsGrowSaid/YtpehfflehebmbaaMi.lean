/- ReadsGrow: the statement 'ReadsGrowSaid', closed by the law that the walk shows. No condition. -/
import Derived.Deep.CondSized
import Derived.IntWalk
import Derived.KernelRfl
import Derived.Laws.Append
import Derived.Laws.AppendOwn
import Derived.Laws.BytesArg
import Derived.Laws.Cover3
import Derived.Laws.Entries
import Derived.Laws.IdiomCopy
import Derived.Laws.IdiomStrings
import Derived.Laws.Pointers
import Derived.Laws.Small
import Derived.Laws.Strings
import Derived.Laws.StructEq
import Derived.MapKept
import Derived.OpenShut
import Derived.Orders
import Derived.OrdersIn
import Derived.ProofKit
import Derived.RangeFuncRecord
import Derived.RangeFuncSeq
import Derived.ReadAgain
import Derived.Scope
import Derived.Shelf.Slices.Cells
import Derived.Shelf.Spec.SlicesInsertGrow
import Derived.SizedLaws
import Derived.Test.YtpehfflehebmbaaRows
import Derived.Test.YtpehfflehebmbaaMiC
section
set_option linter.unusedSimpArgs false
set_option linter.unusedVariables false
set_option maxRecDepth 10000
namespace Go.Proofs.Ytpehfflehebmbaa.Reads
open Go Go.Av Go.Proofs Go.Proofs.Ytpehfflehebmbaa.C Go.Proofs.Ytpehfflehebmbaa.Batch
def LsS (l : List Sp) : Prop := ∀ i, Ls (l.getD i default).f ∧ Ls (l.getD i default).t
def LsK (k : List Bs) : Prop := ∀ i, Ls (k.getD i [])
theorem ls_nil : Ls [] := by unfold Ls; simp
theorem LsS.of {l : List Sp} (h : ∀ s ∈ l, Ls s.f ∧ Ls s.t) : LsS l := by
  intro i
  by_cases hi : i < l.length
  · rw [getD_el hi]; exact h _ (List.getElem_mem hi)
  · rw [List.getD_eq_getElem?_getD, List.getElem?_eq_none (by omega)]; exact ⟨ls_nil, ls_nil⟩
theorem LsK.of {k : List Bs} (h : ∀ s ∈ k, Ls s) : LsK k := by
  intro i
  by_cases hi : i < k.length
  · rw [getD_el hi]; exact h _ (List.getElem_mem hi)
  · rw [List.getD_eq_getElem?_getD, List.getElem?_eq_none (by omega)]; exact ls_nil
theorem spannedR_p (l : List Sp) (hl : l.length ≤ 1000000) (hs : LsS l) (q : Bs) (hq : Ls q) : PCalls Try.prog 94 [.sl 2 (sps l) .any, .str q] (.bool (spanned l q)) := by
  refine f94.pcalls0 (by simp) (by simp [allPure, isPure, capPure, sps_pure]) rfl ?_
  unfold c94
  repeat (first
    | ((first | apply Wp.seqItems | apply Wp.items); (· simp only [go_sem, reduceIte, Nat.reduceEqDiff, Nat.reduceAdd, bx, ax, if_true, if_false, Nat.reduceMul, Nat.reduceLeDiff]; exact rfl))
    | (refine WpItems.nil ⟨?_, ?_⟩; (· first | trivial | simp [pairsQ, pairsOk, apart, ent0]))
    | (apply Wp.cond_lit; (· simp only [go_sem, reduceIte, Nat.reduceEqDiff, Nat.reduceAdd, bx, ax, if_true, if_false, Nat.reduceMul, Nat.reduceLeDiff]; exact rfl); (· rfl))
    | refine Wp.skip ?_
    | refine Wp.label ?_
    | refine Wp.block ?_
    | refine Wp.exit ?_
    | refine Wp.seq ?_)
  refine Wp.loopK [0, 1] (by simp only [go_sem, reduceIte, Nat.reduceEqDiff, Nat.reduceAdd, bx, List.map]; exact rfl) (fun j : Nat => [(5, .int .i64 j)]) (fun j => j ≤ l.length ∧ ∀ i, i < j → winB (l.getD i default) q = false) (fun j => l.length - j) 0 ⟨Nat.zero_le _, fun i h => absurd h (by omega)⟩ ?_ ?_
  · simp only [AllSub, go_sem, reduceIte, Nat.reduceEqDiff, Nat.reduceAdd, bx]; and_intros <;> first | exact trivial | exact VSub.refl _ | exact VSub.any _ | (refine VSub.int ?_; omega)
  rintro j ⟨hj, hn⟩
  by_cases hc : j < l.length
  · have g1 : decide ((j : Int) < (l.length : Int)) = true := decide_eq_true (by omega)
    have h2 : (0 : Int) ≤ (j : Int) := by omega
    have h3 : (j : Int) < (l.length : Int) := by omega
    have e1 : IntKind.i64.wrap ((j : Int) + 1) = ((j + 1 : Nat) : Int) := by rw [IntWalk.i64_in _ (by omega)]; omega
    cases hw : winB (l.getD j default) q with
    | true =>
      have hsp : spanned l q = true := List.any_eq_true.2 ⟨l.getD j default, by rw [getD_el hc]; exact List.getElem_mem hc, hw⟩
      repeat (first
        | ((first | apply Wp.seqItems | apply Wp.items | ((first
            | (refine WpItems.pcall ?_ ?_ (withinR_p (l.getD j default) q (hs j).1 (hs j).2 hq) ?_; (· simp only [go_sem, reduceIte, Nat.reduceEqDiff, Nat.reduceAdd, bx]); (· simp only [go_sem, reduceIte, Nat.reduceEqDiff, Nat.reduceAdd, bx, List.map]; first | exact VSubs.refl _ | (repeat (first | exact VSubs.nil | refine VSubs.cons (by first | exact VSub.refl _ | assumption | exact VSub.cap | exact VSub.any _) ?_))))); apply WpItems.eval)); (· simp only [go_sem, reduceIte, Nat.reduceEqDiff, Nat.reduceAdd, bx, ax, if_true, if_false, Nat.reduceMul, Nat.reduceLeDiff, g1, h2, h3, e1, sps_length, Int.toNat_natCast, sps_getD _ _ _ hc, encSp, hw]; exact rfl))
        | (refine WpItems.nil ⟨?_, ?_⟩; (· first | trivial | simp [pairsQ, pairsOk, apart, ent0]))
        | (apply Wp.cond_lit; (· simp only [go_sem, reduceIte, Nat.reduceEqDiff, Nat.reduceAdd, bx, ax, if_true, if_false, Nat.reduceMul, Nat.reduceLeDiff, g1, h2, h3, e1, sps_length, Int.toNat_natCast, sps_getD _ _ _ hc, encSp, hw]; exact rfl); (· rfl))
        | refine Wp.skip ?_
        | refine Wp.label ?_
        | refine Wp.block ?_
        | refine Wp.exit ?_
        | refine Wp.seq ?_)
      refine Wp.ret ⟨trivial, _, rfl, ?_⟩
      simp only [go_sem, reduceIte, Nat.reduceEqDiff, Nat.reduceAdd, bx]
      rw [hsp]; exact VSub.refl _
    | false =>
      repeat (first
        | ((first | apply Wp.seqItems | apply Wp.items | ((first
            | (refine WpItems.pcall ?_ ?_ (withinR_p (l.getD j default) q (hs j).1 (hs j).2 hq) ?_; (· simp only [go_sem, reduceIte, Nat.reduceEqDiff, Nat.reduceAdd, bx]); (· simp only [go_sem, reduceIte, Nat.reduceEqDiff, Nat.reduceAdd, bx, List.map]; first | exact VSubs.refl _ | (repeat (first | exact VSubs.nil | refine VSubs.cons (by first | exact VSub.refl _ | assumption | exact VSub.cap | exact VSub.any _) ?_))))); apply WpItems.eval)); (· simp only [go_sem, reduceIte, Nat.reduceEqDiff, Nat.reduceAdd, bx, ax, if_true, if_false, Nat.reduceMul, Nat.reduceLeDiff, g1, h2, h3, e1, sps_length, Int.toNat_natCast, sps_getD _ _ _ hc, encSp, hw]; exact rfl))
        | (refine WpItems.nil ⟨?_, ?_⟩; (· first | trivial | simp [pairsQ, pairsOk, apart, ent0]))
        | (apply Wp.cond_lit; (· simp only [go_sem, reduceIte, Nat.reduceEqDiff, Nat.reduceAdd, bx, ax, if_true, if_false, Nat.reduceMul, Nat.reduceLeDiff, g1, h2, h3, e1, sps_length, Int.toNat_natCast, sps_getD _ _ _ hc, encSp, hw]; exact rfl); (· rfl))
        | refine Wp.skip ?_
        | refine Wp.label ?_
        | refine Wp.block ?_
        | refine Wp.exit ?_
        | refine Wp.seq ?_)
      refine ⟨j + 1, ⟨by omega, fun i hi => ?_⟩, by omega, ?_⟩
      · by_cases e : i = j
        · subst e; exact hw
        · exact hn i (by omega)
      · refine StLe.tm (by simp only [AllSub, go_sem, reduceIte, Nat.reduceEqDiff, Nat.reduceAdd, bx]; and_intros <;> first | exact trivial | exact VSub.refl _ | exact VSub.any _ | (refine VSub.int ?_; omega))
  · obtain rfl : j = l.length := by omega
    have g1 : decide ((l.length : Int) < (l.length : Int)) = false := decide_eq_false (by omega)
    have hsp : spanned l q = false := List.any_eq_false.2 fun s hss => by
      obtain ⟨i, hi, rfl⟩ := List.mem_iff_getElem.1 hss
      have := hn i hi
      rw [getD_el hi] at this
      simp [this]
    repeat (first
      | ((first | apply Wp.seqItems | apply Wp.items); (· simp only [go_sem, reduceIte, Nat.reduceEqDiff, Nat.reduceAdd, bx, ax, if_true, if_false, Nat.reduceMul, Nat.reduceLeDiff, g1, sps_length]; exact rfl))
      | (refine WpItems.nil ⟨?_, ?_⟩; (· first | trivial | simp [pairsQ, pairsOk, apart, ent0]))
      | (apply Wp.cond_lit; (· simp only [go_sem, reduceIte, Nat.reduceEqDiff, Nat.reduceAdd, bx, ax, if_true, if_false, Nat.reduceMul, Nat.reduceLeDiff, g1, sps_length]; exact rfl); (· rfl))
      | refine Wp.skip ?_
      | refine Wp.label ?_
      | refine Wp.block ?_
      | refine Wp.exit ?_
      | refine Wp.seq ?_)
    refine Wp.ret ⟨trivial, _, rfl, ?_⟩
    simp only [go_sem, reduceIte, Nat.reduceEqDiff, Nat.reduceAdd, bx]
    rw [hsp]; exact VSub.refl _
theorem right_p (k : List Bs) (l : List Sp) (hk : LsK k) (hl : LsS l) : PCalls Try.prog 85 [encR k l] (.bool (checkB k l)) := by
  refine f85.pcalls0 (by simp) (by simp [allPure, encR_pure]) rfl ?_
  unfold c85
  refine Wp.seqReg (by simp only [go_sem, reduceIte, Nat.reduceEqDiff, Nat.reduceAdd, bx, encR]; exact rfl) (by trivial) ?_
  refine Wp.frz (fun _ => true) [(1, .ref [.sl 1 (strs k) .any, .sl 2 (sps l) .any])] ⟨none', 1, [], 0⟩ ?_ (OLe.none _) (by simp) (by simp [go_sem]) (Nat.le_refl _) ?_
  · simp only [AllSub, go_sem, reduceIte, Nat.reduceEqDiff, unT, and_true]
    exact VSub.refl _
  by_cases b1 : k.length ≤ 64
  rotate_left
  · have d1 : decide ((64 : Int) < (k.length : Int)) = true := decide_eq_true (by omega)
    repeat (first
      | ((first | apply Wp.seqItems | apply Wp.items); (· simp only [go_sem, reduceIte, Nat.reduceEqDiff, Nat.reduceAdd, bx, ax, if_true, if_false, Nat.reduceMul, Nat.reduceLeDiff, d1, strs_length]; exact rfl))
      | (refine WpItems.nil ⟨?_, ?_⟩; (· first | trivial | simp [pairsQ, pairsOk, apart, ent0]))
      | (apply Wp.cond_lit; (· simp only [go_sem, reduceIte, Nat.reduceEqDiff, Nat.reduceAdd, bx, ax, if_true, if_false, Nat.reduceMul, Nat.reduceLeDiff, d1, strs_length]; exact rfl); (· rfl))
      | refine Wp.skip ?_
      | refine Wp.label ?_
      | refine Wp.block ?_
      | refine Wp.exit ?_
      | refine Wp.seq ?_)
    refine Wp.ret ⟨trivial, _, rfl, ?_⟩
    simp only [go_sem, reduceIte, Nat.reduceEqDiff, Nat.reduceAdd, bx]
    simp only [checkB, decide_eq_false b1, Bool.false_and]
    exact VSub.refl _
  have d1 : decide ((64 : Int) < (k.length : Int)) = false := decide_eq_false (by omega)
  by_cases b2 : l.length ≤ 64
  rotate_left
  · have d2 : decide ((64 : Int) < (l.length : Int)) = true := decide_eq_true (by omega)
    repeat (first
      | ((first | apply Wp.seqItems | apply Wp.items); (· simp only [go_sem, reduceIte, Nat.reduceEqDiff, Nat.reduceAdd, bx, ax, if_true, if_false, Nat.reduceMul, Nat.reduceLeDiff, d1, d2, strs_length, sps_length]; exact rfl))
      | (refine WpItems.nil ⟨?_, ?_⟩; (· first | trivial | simp [pairsQ, pairsOk, apart, ent0]))
      | (apply Wp.cond_lit; (· simp only [go_sem, reduceIte, Nat.reduceEqDiff, Nat.reduceAdd, bx, ax, if_true, if_false, Nat.reduceMul, Nat.reduceLeDiff, d1, d2, strs_length, sps_length]; exact rfl); (· rfl))
      | refine Wp.skip ?_
      | refine Wp.label ?_
      | refine Wp.block ?_
      | refine Wp.exit ?_
      | refine Wp.seq ?_)
    refine Wp.ret ⟨trivial, _, rfl, ?_⟩
    simp only [go_sem, reduceIte, Nat.reduceEqDiff, Nat.reduceAdd, bx]
    simp only [checkB, decide_eq_false b2, Bool.and_false, Bool.false_and]
    exact VSub.refl _
  have d2 : decide ((64 : Int) < (l.length : Int)) = false := decide_eq_false (by omega)
  repeat (first
    | ((first | apply Wp.seqItems | apply Wp.items); (· simp only [go_sem, reduceIte, Nat.reduceEqDiff, Nat.reduceAdd, bx, ax, if_true, if_false, Nat.reduceMul, Nat.reduceLeDiff, d1, d2, strs_length, sps_length]; exact rfl))
    | (refine WpItems.nil ⟨?_, ?_⟩; (· first | trivial | simp [pairsQ, pairsOk, apart, ent0]))
    | (apply Wp.cond_lit; (· simp only [go_sem, reduceIte, Nat.reduceEqDiff, Nat.reduceAdd, bx, ax, if_true, if_false, Nat.reduceMul, Nat.reduceLeDiff, d1, d2, strs_length, sps_length]; exact rfl); (· rfl))
    | refine Wp.skip ?_
    | refine Wp.label ?_
    | refine Wp.block ?_
    | refine Wp.exit ?_
    | refine Wp.seq ?_)
  refine Wp.loopK [1] (by simp only [go_sem, reduceIte, Nat.reduceEqDiff, Nat.reduceAdd, bx, List.map]; exact rfl) (fun j : Nat => [(3, .int .i64 j)]) (fun j => j ≤ l.length ∧ ∀ i, i < j → spOk l i = true) (fun j => l.length - j) 0 ⟨Nat.zero_le _, fun i h => absurd h (by omega)⟩ ?_ ?_
  · simp only [AllSub, go_sem, reduceIte, Nat.reduceEqDiff, Nat.reduceAdd, bx]; and_intros <;> first | exact trivial | exact VSub.refl _ | exact VSub.any _ | (refine VSub.int ?_; omega)
  rintro j ⟨hj, hs⟩
  by_cases hc : j < l.length
  · have g1 : decide ((j : Int) < (l.length : Int)) = true := decide_eq_true (by omega)
    have h2 : (0 : Int) ≤ (j : Int) := by omega
    have h3 : (j : Int) < (l.length : Int) := by omega
    have e1 : IntKind.i64.wrap ((j : Int) + 1) = ((j + 1 : Nat) : Int) := by rw [IntWalk.i64_in _ (by omega)]; omega
    have key : ∀ {b : Bool}, spOk l j = b → (b = true → ∀ i, i < j + 1 → spOk l i = true) ∧ (b = false → checkB k l = false) := by
      intro b hb
      refine ⟨fun h i hi => ?_, fun h => ?_⟩
      · by_cases e : i = j
        · subst e; rw [hb, h]
        · exact hs i (by omega)
      · have : spsOk l = false := all_no hc (hb.trans h)
        simp [checkB, this]
    cases ha : hasB (l.getD j default) with
    | false =>
      have q := (key (b := false) (by simp only [spOk, ha, Bool.false_and])).2 rfl
      repeat (first
        | ((first | apply Wp.seqItems | apply Wp.items | ((first
            | (refine WpItems.pcall ?_ ?_ (hasR_p (l.getD j default) (hl j).1 (hl j).2) ?_; (· simp only [go_sem, reduceIte, Nat.reduceEqDiff, Nat.reduceAdd, bx]); (· simp only [go_sem, reduceIte, Nat.reduceEqDiff, Nat.reduceAdd, bx, List.map]; first | exact VSubs.refl _ | (repeat (first | exact VSubs.nil | refine VSubs.cons (by first | exact VSub.refl _ | assumption | exact VSub.cap | exact VSub.any _) ?_))))); apply WpItems.eval)); (· simp only [go_sem, reduceIte, Nat.reduceEqDiff, Nat.reduceAdd, bx, ax, if_true, if_false, Nat.reduceMul, Nat.reduceLeDiff, g1, h2, h3, e1, sps_length, Int.toNat_natCast, sps_getD _ _ _ hc, encSp, ha]; exact rfl))
        | (refine WpItems.nil ⟨?_, ?_⟩; (· first | trivial | simp [pairsQ, pairsOk, apart, ent0]))
        | (apply Wp.cond_lit; (· simp only [go_sem, reduceIte, Nat.reduceEqDiff, Nat.reduceAdd, bx, ax, if_true, if_false, Nat.reduceMul, Nat.reduceLeDiff, g1, h2, h3, e1, sps_length, Int.toNat_natCast, sps_getD _ _ _ hc, encSp, ha]; exact rfl); (· rfl))
        | refine Wp.skip ?_
        | refine Wp.label ?_
        | refine Wp.block ?_
        | refine Wp.exit ?_
        | refine Wp.seq ?_)
      refine Wp.ret ⟨trivial, _, rfl, ?_⟩
      simp only [go_sem, reduceIte, Nat.reduceEqDiff, Nat.reduceAdd, bx]
      rw [q]; exact VSub.refl _
    | true =>
      by_cases hz : j = 0
      · have g2 : decide ((0 : Int) < (j : Int)) = false := decide_eq_false (by omega)
        have q := (key (b := true) (by simp only [spOk, ha, hz, decide_true, Bool.true_or, Bool.and_self] at ha ⊢; simp only [ha, Bool.and_self])).1 rfl
        repeat (first
          | ((first | apply Wp.seqItems | apply Wp.items | ((first
              | (refine WpItems.pcall ?_ ?_ (hasR_p (l.getD j default) (hl j).1 (hl j).2) ?_; (· simp only [go_sem, reduceIte, Nat.reduceEqDiff, Nat.reduceAdd, bx]); (· simp only [go_sem, reduceIte, Nat.reduceEqDiff, Nat.reduceAdd, bx, List.map]; first | exact VSubs.refl _ | (repeat (first | exact VSubs.nil | refine VSubs.cons (by first | exact VSub.refl _ | assumption | exact VSub.cap | exact VSub.any _) ?_))))); apply WpItems.eval)); (· simp only [go_sem, reduceIte, Nat.reduceEqDiff, Nat.reduceAdd, bx, ax, if_true, if_false, Nat.reduceMul, Nat.reduceLeDiff, g1, g2, h2, h3, e1, sps_length, Int.toNat_natCast, sps_getD _ _ _ hc, encSp, ha]; exact rfl))
          | (refine WpItems.nil ⟨?_, ?_⟩; (· first | trivial | simp [pairsQ, pairsOk, apart, ent0]))
          | (apply Wp.cond_lit; (· simp only [go_sem, reduceIte, Nat.reduceEqDiff, Nat.reduceAdd, bx, ax, if_true, if_false, Nat.reduceMul, Nat.reduceLeDiff, g1, g2, h2, h3, e1, sps_length, Int.toNat_natCast, sps_getD _ _ _ hc, encSp, ha]; exact rfl); (· rfl))
          | refine Wp.skip ?_
          | refine Wp.label ?_
          | refine Wp.block ?_
          | refine Wp.exit ?_
          | refine Wp.seq ?_)
        refine ⟨j + 1, ⟨by omega, q⟩, by omega, ?_⟩
        refine StLe.tm (by simp only [AllSub, go_sem, reduceIte, Nat.reduceEqDiff, Nat.reduceAdd, bx]; and_intros <;> first | exact trivial | exact VSub.refl _ | exact VSub.any _ | (refine VSub.int ?_; omega))
      · have g2 : decide ((0 : Int) < (j : Int)) = true := decide_eq_true (by omega)
        have e2 : IntKind.i64.wrap ((j : Int) - 1) = ((j - 1 : Nat) : Int) := by rw [IntWalk.i64_in _ (by omega)]; omega
        have h4 : (0 : Int) ≤ ((j - 1 : Nat) : Int) := by omega
        have h5 : ((j - 1 : Nat) : Int) < (l.length : Int) := by omega
        have h6 : j - 1 < l.length := by omega
        have hq : spOk l j = apartB (l.getD (j - 1) default) (l.getD j default) := by simp only [spOk, ha, decide_eq_false hz, Bool.true_and, Bool.false_or]
        cases he : decide ((l.getD (j - 1) default).t = []) with
        | true =>
          have q := (key (b := false) (by rw [hq, apartB, he]; rfl)).2 rfl
          repeat (first
            | ((first | apply Wp.seqItems | apply Wp.items | ((first
                | (refine WpItems.pcall ?_ ?_ (hasR_p (l.getD j default) (hl j).1 (hl j).2) ?_; (· simp only [go_sem, reduceIte, Nat.reduceEqDiff, Nat.reduceAdd, bx]); (· simp only [go_sem, reduceIte, Nat.reduceEqDiff, Nat.reduceAdd, bx, List.map]; first | exact VSubs.refl _ | (repeat (first | exact VSubs.nil | refine VSubs.cons (by first | exact VSub.refl _ | assumption | exact VSub.cap | exact VSub.any _) ?_))))); apply WpItems.eval)); (· simp only [go_sem, reduceIte, Nat.reduceEqDiff, Nat.reduceAdd, bx, ax, if_true, if_false, Nat.reduceMul, Nat.reduceLeDiff, g1, g2, h2, h3, h4, h5, e1, e2, sps_length, Int.toNat_natCast, sps_getD _ _ _ hc, sps_getD _ _ _ h6, encSp, ha, he]; exact rfl))
            | (refine WpItems.nil ⟨?_, ?_⟩; (· first | trivial | simp [pairsQ, pairsOk, apart, ent0]))
            | (apply Wp.cond_lit; (· simp only [go_sem, reduceIte, Nat.reduceEqDiff, Nat.reduceAdd, bx, ax, if_true, if_false, Nat.reduceMul, Nat.reduceLeDiff, g1, g2, h2, h3, h4, h5, e1, e2, sps_length, Int.toNat_natCast, sps_getD _ _ _ hc, sps_getD _ _ _ h6, encSp, ha, he]; exact rfl); (· rfl))
            | refine Wp.skip ?_
            | refine Wp.label ?_
            | refine Wp.block ?_
            | refine Wp.exit ?_
            | refine Wp.seq ?_)
          refine Wp.ret ⟨trivial, _, rfl, ?_⟩
          simp only [go_sem, reduceIte, Nat.reduceEqDiff, Nat.reduceAdd, bx]
          rw [q]; exact VSub.refl _
        | false =>
          cases hp : Op.bytesLess (l.getD (j - 1) default).t (l.getD j default).f with
          | true =>
            have q := (key (b := true) (by rw [hq, apartB, he, hp]; rfl)).1 rfl
            repeat (first
              | ((first | apply Wp.seqItems | apply Wp.items | ((first
                  | (refine WpItems.pcall ?_ ?_ (hasR_p (l.getD j default) (hl j).1 (hl j).2) ?_; (· simp only [go_sem, reduceIte, Nat.reduceEqDiff, Nat.reduceAdd, bx]); (· simp only [go_sem, reduceIte, Nat.reduceEqDiff, Nat.reduceAdd, bx, List.map]; first | exact VSubs.refl _ | (repeat (first | exact VSubs.nil | refine VSubs.cons (by first | exact VSub.refl _ | assumption | exact VSub.cap | exact VSub.any _) ?_))))
                  | (refine WpItems.pcall ?_ ?_ (below_p (l.getD (j - 1) default).t (l.getD j default).f (hl _).2 (hl _).1) ?_; (· simp only [go_sem, reduceIte, Nat.reduceEqDiff, Nat.reduceAdd, bx]); (· simp only [go_sem, reduceIte, Nat.reduceEqDiff, Nat.reduceAdd, bx, List.map]; first | exact VSubs.refl _ | (repeat (first | exact VSubs.nil | refine VSubs.cons (by first | exact VSub.refl _ | assumption | exact VSub.cap | exact VSub.any _) ?_))))); apply WpItems.eval)); (· simp only [go_sem, reduceIte, Nat.reduceEqDiff, Nat.reduceAdd, bx, ax, if_true, if_false, Nat.reduceMul, Nat.reduceLeDiff, g1, g2, h2, h3, h4, h5, e1, e2, sps_length, Int.toNat_natCast, sps_getD _ _ _ hc, sps_getD _ _ _ h6, encSp, ha, he, hp]; exact rfl))
              | (refine WpItems.nil ⟨?_, ?_⟩; (· first | trivial | simp [pairsQ, pairsOk, apart, ent0]))
              | (apply Wp.cond_lit; (· simp only [go_sem, reduceIte, Nat.reduceEqDiff, Nat.reduceAdd, bx, ax, if_true, if_false, Nat.reduceMul, Nat.reduceLeDiff, g1, g2, h2, h3, h4, h5, e1, e2, sps_length, Int.toNat_natCast, sps_getD _ _ _ hc, sps_getD _ _ _ h6, encSp, ha, he, hp]; exact rfl); (· rfl))
              | refine Wp.skip ?_
              | refine Wp.label ?_
              | refine Wp.block ?_
              | refine Wp.exit ?_
              | refine Wp.seq ?_)
            refine ⟨j + 1, ⟨by omega, q⟩, by omega, ?_⟩
            refine StLe.tm (by simp only [AllSub, go_sem, reduceIte, Nat.reduceEqDiff, Nat.reduceAdd, bx]; and_intros <;> first | exact trivial | exact VSub.refl _ | exact VSub.any _ | (refine VSub.int ?_; omega))
          | false =>
            have q := (key (b := false) (by rw [hq, apartB, he, hp]; rfl)).2 rfl
            repeat (first
              | ((first | apply Wp.seqItems | apply Wp.items | ((first
                  | (refine WpItems.pcall ?_ ?_ (hasR_p (l.getD j default) (hl j).1 (hl j).2) ?_; (· simp only [go_sem, reduceIte, Nat.reduceEqDiff, Nat.reduceAdd, bx]); (· simp only [go_sem, reduceIte, Nat.reduceEqDiff, Nat.reduceAdd, bx, List.map]; first | exact VSubs.refl _ | (repeat (first | exact VSubs.nil | refine VSubs.cons (by first | exact VSub.refl _ | assumption | exact VSub.cap | exact VSub.any _) ?_))))
                  | (refine WpItems.pcall ?_ ?_ (below_p (l.getD (j - 1) default).t (l.getD j default).f (hl _).2 (hl _).1) ?_; (· simp only [go_sem, reduceIte, Nat.reduceEqDiff, Nat.reduceAdd, bx]); (· simp only [go_sem, reduceIte, Nat.reduceEqDiff, Nat.reduceAdd, bx, List.map]; first | exact VSubs.refl _ | (repeat (first | exact VSubs.nil | refine VSubs.cons (by first | exact VSub.refl _ | assumption | exact VSub.cap | exact VSub.any _) ?_))))); apply WpItems.eval)); (· simp only [go_sem, reduceIte, Nat.reduceEqDiff, Nat.reduceAdd, bx, ax, if_true, if_false, Nat.reduceMul, Nat.reduceLeDiff, g1, g2, h2, h3, h4, h5, e1, e2, sps_length, Int.toNat_natCast, sps_getD _ _ _ hc, sps_getD _ _ _ h6, encSp, ha, he, hp]; exact rfl))
              | (refine WpItems.nil ⟨?_, ?_⟩; (· first | trivial | simp [pairsQ, pairsOk, apart, ent0]))
              | (apply Wp.cond_lit; (· simp only [go_sem, reduceIte, Nat.reduceEqDiff, Nat.reduceAdd, bx, ax, if_true, if_false, Nat.reduceMul, Nat.reduceLeDiff, g1, g2, h2, h3, h4, h5, e1, e2, sps_length, Int.toNat_natCast, sps_getD _ _ _ hc, sps_getD _ _ _ h6, encSp, ha, he, hp]; exact rfl); (· rfl))
              | refine Wp.skip ?_
              | refine Wp.label ?_
              | refine Wp.block ?_
              | refine Wp.exit ?_
              | refine Wp.seq ?_)
            refine Wp.ret ⟨trivial, _, rfl, ?_⟩
            simp only [go_sem, reduceIte, Nat.reduceEqDiff, Nat.reduceAdd, bx]
            rw [q]; exact VSub.refl _
  obtain rfl : j = l.length := by omega
  have g1 : decide ((l.length : Int) < (l.length : Int)) = false := decide_eq_false (by omega)
  have hsp : spsOk l = true := all_yes hs
  repeat (first
    | ((first | apply Wp.seqItems | apply Wp.items); (· simp only [go_sem, reduceIte, Nat.reduceEqDiff, Nat.reduceAdd, bx, ax, if_true, if_false, Nat.reduceMul, Nat.reduceLeDiff, g1, sps_length]; exact rfl))
    | (refine WpItems.nil ⟨?_, ?_⟩; (· first | trivial | simp [pairsQ, pairsOk, apart, ent0]))
    | (apply Wp.cond_lit; (· simp only [go_sem, reduceIte, Nat.reduceEqDiff, Nat.reduceAdd, bx, ax, if_true, if_false, Nat.reduceMul, Nat.reduceLeDiff, g1, sps_length]; exact rfl); (· rfl))
    | refine Wp.skip ?_
    | refine Wp.label ?_
    | refine Wp.block ?_
    | refine Wp.exit ?_
    | refine Wp.seq ?_)
  refine Wp.loopK [1] (by simp only [go_sem, reduceIte, Nat.reduceEqDiff, Nat.reduceAdd, bx, List.map]; exact rfl) (fun j : Nat => [(4, .int .i64 j)]) (fun j => j ≤ k.length ∧ ∀ i, i < j → kOk k l i = true) (fun j => k.length - j) 0 ⟨Nat.zero_le _, fun i h => absurd h (by omega)⟩ ?_ ?_
  · simp only [AllSub, go_sem, reduceIte, Nat.reduceEqDiff, Nat.reduceAdd, bx]; and_intros <;> first | exact trivial | exact VSub.refl _ | exact VSub.any _ | (refine VSub.int ?_; omega)
  rintro j ⟨hj, hs'⟩
  by_cases hc : j < k.length
  · have g1 : decide ((j : Int) < (k.length : Int)) = true := decide_eq_true (by omega)
    have h2 : (0 : Int) ≤ (j : Int) := by omega
    have h3 : (j : Int) < (k.length : Int) := by omega
    have e1 : IntKind.i64.wrap ((j : Int) + 1) = ((j + 1 : Nat) : Int) := by rw [IntWalk.i64_in _ (by omega)]; omega
    have key : ∀ {b : Bool}, kOk k l j = b → (b = true → ∀ i, i < j + 1 → kOk k l i = true) ∧ (b = false → checkB k l = false) := by
      intro b hb
      refine ⟨fun h i hi => ?_, fun h => ?_⟩
      · by_cases e : i = j
        · subst e; rw [hb, h]
        · exact hs' i (by omega)
      · have : ksOk k l = false := all_no hc (hb.trans h)
        simp [checkB, this]
    have go : ∀ g : Bool, ((decide (j = 0) || Op.bytesLess (k.getD (j - 1) []) (k.getD j [])) = g) → kOk k l j = (g && !spanned l (k.getD j [])) := fun g hg => by simp only [kOk, hg]
    by_cases hz : j = 0
    · have g2 : decide ((0 : Int) < (j : Int)) = false := decide_eq_false (by omega)
      have hg := go true (by simp [hz])
      cases hp : spanned l (k.getD j []) with
      | true =>
        have q := (key (b := false) (by rw [hg, hp]; rfl)).2 rfl
        repeat (first
          | ((first | apply Wp.seqItems | apply Wp.items | ((first
              | (refine WpItems.pcall ?_ ?_ (spannedR_p l (by omega) hl (k.getD j []) (hk j)) ?_; (· simp only [go_sem, reduceIte, Nat.reduceEqDiff, Nat.reduceAdd, bx]); (· simp only [go_sem, reduceIte, Nat.reduceEqDiff, Nat.reduceAdd, bx, List.map]; first | exact VSubs.refl _ | (repeat (first | exact VSubs.nil | refine VSubs.cons (by first | exact VSub.refl _ | assumption | exact VSub.cap | exact VSub.any _) ?_))))); apply WpItems.eval)); (· simp only [go_sem, reduceIte, Nat.reduceEqDiff, Nat.reduceAdd, bx, ax, if_true, if_false, Nat.reduceMul, Nat.reduceLeDiff, g1, g2, h2, h3, e1, strs_length, Int.toNat_natCast, strs_getD _ _ _ hc, hp]; exact rfl))
          | (refine WpItems.nil ⟨?_, ?_⟩; (· first | trivial | simp [pairsQ, pairsOk, apart, ent0]))
          | (apply Wp.cond_lit; (· simp only [go_sem, reduceIte, Nat.reduceEqDiff, Nat.reduceAdd, bx, ax, if_true, if_false, Nat.reduceMul, Nat.reduceLeDiff, g1, g2, h2, h3, e1, strs_length, Int.toNat_natCast, strs_getD _ _ _ hc, hp]; exact rfl); (· rfl))
          | refine Wp.skip ?_
          | refine Wp.label ?_
          | refine Wp.block ?_
          | refine Wp.exit ?_
          | refine Wp.seq ?_)
        refine Wp.ret ⟨trivial, _, rfl, ?_⟩
        simp only [go_sem, reduceIte, Nat.reduceEqDiff, Nat.reduceAdd, bx]
        rw [q]; exact VSub.refl _
      | false =>
        have q := (key (b := true) (by rw [hg, hp]; rfl)).1 rfl
        repeat (first
          | ((first | apply Wp.seqItems | apply Wp.items | ((first
              | (refine WpItems.pcall ?_ ?_ (spannedR_p l (by omega) hl (k.getD j []) (hk j)) ?_; (· simp only [go_sem, reduceIte, Nat.reduceEqDiff, Nat.reduceAdd, bx]); (· simp only [go_sem, reduceIte, Nat.reduceEqDiff, Nat.reduceAdd, bx, List.map]; first | exact VSubs.refl _ | (repeat (first | exact VSubs.nil | refine VSubs.cons (by first | exact VSub.refl _ | assumption | exact VSub.cap | exact VSub.any _) ?_))))); apply WpItems.eval)); (· simp only [go_sem, reduceIte, Nat.reduceEqDiff, Nat.reduceAdd, bx, ax, if_true, if_false, Nat.reduceMul, Nat.reduceLeDiff, g1, g2, h2, h3, e1, strs_length, Int.toNat_natCast, strs_getD _ _ _ hc, hp]; exact rfl))
          | (refine WpItems.nil ⟨?_, ?_⟩; (· first | trivial | simp [pairsQ, pairsOk, apart, ent0]))
          | (apply Wp.cond_lit; (· simp only [go_sem, reduceIte, Nat.reduceEqDiff, Nat.reduceAdd, bx, ax, if_true, if_false, Nat.reduceMul, Nat.reduceLeDiff, g1, g2, h2, h3, e1, strs_length, Int.toNat_natCast, strs_getD _ _ _ hc, hp]; exact rfl); (· rfl))
          | refine Wp.skip ?_
          | refine Wp.label ?_
          | refine Wp.block ?_
          | refine Wp.exit ?_
          | refine Wp.seq ?_)
        refine ⟨j + 1, ⟨by omega, q⟩, by omega, ?_⟩
        refine StLe.tm (by simp only [AllSub, go_sem, reduceIte, Nat.reduceEqDiff, Nat.reduceAdd, bx]; and_intros <;> first | exact trivial | exact VSub.refl _ | exact VSub.any _ | (refine VSub.int ?_; omega))
    · have g2 : decide ((0 : Int) < (j : Int)) = true := decide_eq_true (by omega)
      have e2 : IntKind.i64.wrap ((j : Int) - 1) = ((j - 1 : Nat) : Int) := by rw [IntWalk.i64_in _ (by omega)]; omega
      have h4 : (0 : Int) ≤ ((j - 1 : Nat) : Int) := by omega
      have h5 : ((j - 1 : Nat) : Int) < (k.length : Int) := by omega
      have h6 : j - 1 < k.length := by omega
      have hg := go _ (show _ = Op.bytesLess (k.getD (j - 1) []) (k.getD j []) by simp [hz])
      cases hp : Op.bytesLess (k.getD (j - 1) []) (k.getD j []) with
      | false =>
        have q := (key (b := false) (by rw [hg, hp]; rfl)).2 rfl
        repeat (first
          | ((first | apply Wp.seqItems | apply Wp.items | ((first
              | (refine WpItems.pcall ?_ ?_ (below_p (k.getD (j - 1) []) (k.getD j []) (hk _) (hk _)) ?_; (· simp only [go_sem, reduceIte, Nat.reduceEqDiff, Nat.reduceAdd, bx]); (· simp only [go_sem, reduceIte, Nat.reduceEqDiff, Nat.reduceAdd, bx, List.map]; first | exact VSubs.refl _ | (repeat (first | exact VSubs.nil | refine VSubs.cons (by first | exact VSub.refl _ | assumption | exact VSub.cap | exact VSub.any _) ?_))))); apply WpItems.eval)); (· simp only [go_sem, reduceIte, Nat.reduceEqDiff, Nat.reduceAdd, bx, ax, if_true, if_false, Nat.reduceMul, Nat.reduceLeDiff, g1, g2, h2, h3, h4, h5, e1, e2, strs_length, Int.toNat_natCast, strs_getD _ _ _ hc, strs_getD _ _ _ h6, hp]; exact rfl))
          | (refine WpItems.nil ⟨?_, ?_⟩; (· first | trivial | simp [pairsQ, pairsOk, apart, ent0]))
          | (apply Wp.cond_lit; (· simp only [go_sem, reduceIte, Nat.reduceEqDiff, Nat.reduceAdd, bx, ax, if_true, if_false, Nat.reduceMul, Nat.reduceLeDiff, g1, g2, h2, h3, h4, h5, e1, e2, strs_length, Int.toNat_natCast, strs_getD _ _ _ hc, strs_getD _ _ _ h6, hp]; exact rfl); (· rfl))
          | refine Wp.skip ?_
          | refine Wp.label ?_
          | refine Wp.block ?_
          | refine Wp.exit ?_
          | refine Wp.seq ?_)
        refine Wp.ret ⟨trivial, _, rfl, ?_⟩
        simp only [go_sem, reduceIte, Nat.reduceEqDiff, Nat.reduceAdd, bx]
        rw [q]; exact VSub.refl _
      | true =>
        cases hp2 : spanned l (k.getD j []) with
        | true =>
          have q := (key (b := false) (by rw [hg, hp, hp2]; rfl)).2 rfl
          repeat (first
            | ((first | apply Wp.seqItems | apply Wp.items | ((first
                | (refine WpItems.pcall ?_ ?_ (below_p (k.getD (j - 1) []) (k.getD j []) (hk _) (hk _)) ?_; (· simp only [go_sem, reduceIte, Nat.reduceEqDiff, Nat.reduceAdd, bx]); (· simp only [go_sem, reduceIte, Nat.reduceEqDiff, Nat.reduceAdd, bx, List.map]; first | exact VSubs.refl _ | (repeat (first | exact VSubs.nil | refine VSubs.cons (by first | exact VSub.refl _ | assumption | exact VSub.cap | exact VSub.any _) ?_))))
                | (refine WpItems.pcall ?_ ?_ (spannedR_p l (by omega) hl (k.getD j []) (hk j)) ?_; (· simp only [go_sem, reduceIte, Nat.reduceEqDiff, Nat.reduceAdd, bx]); (· simp only [go_sem, reduceIte, Nat.reduceEqDiff, Nat.reduceAdd, bx, List.map]; first | exact VSubs.refl _ | (repeat (first | exact VSubs.nil | refine VSubs.cons (by first | exact VSub.refl _ | assumption | exact VSub.cap | exact VSub.any _) ?_))))); apply WpItems.eval)); (· simp only [go_sem, reduceIte, Nat.reduceEqDiff, Nat.reduceAdd, bx, ax, if_true, if_false, Nat.reduceMul, Nat.reduceLeDiff, g1, g2, h2, h3, h4, h5, e1, e2, strs_length, Int.toNat_natCast, strs_getD _ _ _ hc, strs_getD _ _ _ h6, hp, hp2]; exact rfl))
            | (refine WpItems.nil ⟨?_, ?_⟩; (· first | trivial | simp [pairsQ, pairsOk, apart, ent0]))
            | (apply Wp.cond_lit; (· simp only [go_sem, reduceIte, Nat.reduceEqDiff, Nat.reduceAdd, bx, ax, if_true, if_false, Nat.reduceMul, Nat.reduceLeDiff, g1, g2, h2, h3, h4, h5, e1, e2, strs_length, Int.toNat_natCast, strs_getD _ _ _ hc, strs_getD _ _ _ h6, hp, hp2]; exact rfl); (· rfl))
            | refine Wp.skip ?_
            | refine Wp.label ?_
            | refine Wp.block ?_
            | refine Wp.exit ?_
            | refine Wp.seq ?_)
          refine Wp.ret ⟨trivial, _, rfl, ?_⟩
          simp only [go_sem, reduceIte, Nat.reduceEqDiff, Nat.reduceAdd, bx]
          rw [q]; exact VSub.refl _
        | false =>
          have q := (key (b := true) (by rw [hg, hp, hp2]; rfl)).1 rfl
          repeat (first
            | ((first | apply Wp.seqItems | apply Wp.items | ((first
                | (refine WpItems.pcall ?_ ?_ (below_p (k.getD (j - 1) []) (k.getD j []) (hk _) (hk _)) ?_; (· simp only [go_sem, reduceIte, Nat.reduceEqDiff, Nat.reduceAdd, bx]); (· simp only [go_sem, reduceIte, Nat.reduceEqDiff, Nat.reduceAdd, bx, List.map]; first | exact VSubs.refl _ | (repeat (first | exact VSubs.nil | refine VSubs.cons (by first | exact VSub.refl _ | assumption | exact VSub.cap | exact VSub.any _) ?_))))
                | (refine WpItems.pcall ?_ ?_ (spannedR_p l (by omega) hl (k.getD j []) (hk j)) ?_; (· simp only [go_sem, reduceIte, Nat.reduceEqDiff, Nat.reduceAdd, bx]); (· simp only [go_sem, reduceIte, Nat.reduceEqDiff, Nat.reduceAdd, bx, List.map]; first | exact VSubs.refl _ | (repeat (first | exact VSubs.nil | refine VSubs.cons (by first | exact VSub.refl _ | assumption | exact VSub.cap | exact VSub.any _) ?_))))); apply WpItems.eval)); (· simp only [go_sem, reduceIte, Nat.reduceEqDiff, Nat.reduceAdd, bx, ax, if_true, if_false, Nat.reduceMul, Nat.reduceLeDiff, g1, g2, h2, h3, h4, h5, e1, e2, strs_length, Int.toNat_natCast, strs_getD _ _ _ hc, strs_getD _ _ _ h6, hp, hp2]; exact rfl))
            | (refine WpItems.nil ⟨?_, ?_⟩; (· first | trivial | simp [pairsQ, pairsOk, apart, ent0]))
            | (apply Wp.cond_lit; (· simp only [go_sem, reduceIte, Nat.reduceEqDiff, Nat.reduceAdd, bx, ax, if_true, if_false, Nat.reduceMul, Nat.reduceLeDiff, g1, g2, h2, h3, h4, h5, e1, e2, strs_length, Int.toNat_natCast, strs_getD _ _ _ hc, strs_getD _ _ _ h6, hp, hp2]; exact rfl); (· rfl))
            | refine Wp.skip ?_
            | refine Wp.label ?_
            | refine Wp.block ?_
            | refine Wp.exit ?_
            | refine Wp.seq ?_)
          refine ⟨j + 1, ⟨by omega, q⟩, by omega, ?_⟩
          refine StLe.tm (by simp only [AllSub, go_sem, reduceIte, Nat.reduceEqDiff, Nat.reduceAdd, bx]; and_intros <;> first | exact trivial | exact VSub.refl _ | exact VSub.any _ | (refine VSub.int ?_; omega))
  obtain rfl : j = k.length := by omega
  have g1 : decide ((k.length : Int) < (k.length : Int)) = false := decide_eq_false (by omega)
  have hk : ksOk k l = true := all_yes hs'
  repeat (first
    | ((first | apply Wp.seqItems | apply Wp.items); (· simp only [go_sem, reduceIte, Nat.reduceEqDiff, Nat.reduceAdd, bx, ax, if_true, if_false, Nat.reduceMul, Nat.reduceLeDiff, g1, strs_length]; exact rfl))
    | (refine WpItems.nil ⟨?_, ?_⟩; (· first | trivial | simp [pairsQ, pairsOk, apart, ent0]))
    | (apply Wp.cond_lit; (· simp only [go_sem, reduceIte, Nat.reduceEqDiff, Nat.reduceAdd, bx, ax, if_true, if_false, Nat.reduceMul, Nat.reduceLeDiff, g1, strs_length]; exact rfl); (· rfl))
    | refine Wp.skip ?_
    | refine Wp.label ?_
    | refine Wp.block ?_
    | refine Wp.exit ?_
    | refine Wp.seq ?_)
  refine Wp.ret ⟨trivial, _, rfl, ?_⟩
  simp only [go_sem, reduceIte, Nat.reduceEqDiff, Nat.reduceAdd, bx]
  simp only [checkB, decide_eq_true b1, decide_eq_true b2, hsp, hk, Bool.and_self]
  exact VSub.refl _
theorem checkR_p (k : List Bs) (l : List Sp) (hk : LsK k) (hl : LsS l) : PCalls Try.prog 44 [encR k l] (.int .i64 (if checkB k l then 0 else 4)) := by
  refine f44.pcalls0 (by simp) (by simp [allPure, encR_pure]) rfl ?_
  unfold c44
  have h := right_p k l hk hl
  cases hc : checkB k l
  all_goals
    rw [hc] at h
    repeat (first
      | ((first | apply Wp.seqItems | apply Wp.items | ((first
          | (refine WpItems.pcall ?_ ?_ (h) ?_; (· simp only [go_sem, reduceIte, Nat.reduceEqDiff, Nat.reduceAdd, bx]); (· simp only [go_sem, reduceIte, Nat.reduceEqDiff, Nat.reduceAdd, bx, List.map]; first | exact VSubs.refl _ | (repeat (first | exact VSubs.nil | refine VSubs.cons (by first | exact VSub.refl _ | assumption | exact VSub.cap | exact VSub.any _) ?_))))); apply WpItems.eval)); (· simp only [go_sem, reduceIte, Nat.reduceEqDiff, Nat.reduceAdd, bx, ax, if_true, if_false, Nat.reduceMul, Nat.reduceLeDiff, encR]; exact rfl))
      | (refine WpItems.nil ⟨?_, ?_⟩; (· first | trivial | simp [pairsQ, pairsOk, apart, ent0]))
      | (apply Wp.cond_lit; (· simp only [go_sem, reduceIte, Nat.reduceEqDiff, Nat.reduceAdd, bx, ax, if_true, if_false, Nat.reduceMul, Nat.reduceLeDiff, encR]; exact rfl); (· rfl))
      | refine Wp.skip ?_
      | refine Wp.label ?_
      | refine Wp.block ?_
      | refine Wp.exit ?_
      | refine Wp.seq ?_)
    refine Wp.ret ⟨trivial, _, rfl, ?_⟩
    simp only [go_sem, reduceIte, Nat.reduceEqDiff, Nat.reduceAdd, bx]
    exact VSub.refl _
end Go.Proofs.Ytpehfflehebmbaa.Reads
end
section
set_option linter.unusedVariables false
set_option linter.unusedSimpArgs false
namespace Go.Av
section
variable {P : Program} {N : Nat} {o : Oper} {t : Tm} {h : H} {G : Ghost} {w : World} {a : Act}
theorem VSub.slt {sz : Nat} {xs ys : List AV} : VSub (.slt sz xs ys) (.sl sz xs .any) := by
  intro G w v hv
  unfold VRel at hv ⊢
  obtain ⟨B, off, C, us, vs, h1, h2, h3, h4, h5, h6⟩ := hv
  refine .inr ⟨B, off, C, us, h1, by omega, h3, h4, fun i v hi => h6 i v ?_, trivial⟩
  rw [List.getElem?_append_left (List.getElem?_eq_some_iff.1 hi).1]; exact hi
def aopS (ρ : Opd → AV) : AOp → Option AV
  | .len false x => match ρ x with
    | .slt _ xs _ => some (.int .i64 xs.length)
    | _ => none
  | .slc false sz x none (some hi) none => match ρ x, ρ hi with
    | .slt s xs ys, .int _ n => if s = sz ∧ 0 ≤ n ∧ n ≤ ((xs.length + ys.length : Nat) : Int) then some (.sl s ((xs ++ ys).take n.toNat) .any) else none
    | .sl s xs _, .int _ n => if s = sz ∧ 0 ≤ n ∧ n ≤ (xs.length : Int) ∧ 0 < xs.length then some (.slt s (xs.take n.toNat) (xs.drop n.toNat)) else none
    | _, _ => none
  | _ => none
theorem cOp_len {y : Opd} (h : cOp P o = some (.len false y)) : ∃ c z T e, o.op = .call c ∧ c.callee = .builtin .len ∧ c.args.toList = [z] ∧ c.argTypes.toList = [T] ∧ opd P T z = some y ∧ P.underlying T = some (.slice e) := by
  unfold cOp at h
  split at h
  case h_28 c hop =>
    split at h
    case h_1 hcal =>
      split at h
      · rename_i z T ha hta
        split at h
        · cases h
        · cases h
          exact ⟨c, z, T, _, hop, hcal, ha, hta, ‹_›, ‹_›⟩
        · cases h
        · cases h
      · cases h
    all_goals first
      | (cases h; done)
      | ((repeat' split at h) <;> (try cases h) <;> simp at h)
  all_goals first
    | (cases h; done)
    | (simp at h; done)
    | ((repeat' split at h) <;> (try cases h) <;> (try simp at h) ; done)
theorem cOp_slc {y yh : Opd} {sz : Nat} (h : cOp P o = some (.slc false sz y none (some yh) none)) : ∃ ty z zh e, o.op = .slice ty z none (some zh) none ∧ P.underlying ty = some (.slice e) ∧ (P.info? e).isSome = true ∧ sz = P.cellsOf e ∧ opd P ty z = some y ∧ opd P 0 zh = some yh := by
  unfold cOp at h
  split at h
  case h_15 ty x lo hi mx hop =>
    split at h
    · split at h <;> cases h
    · rename_i a l hh m e ea el eh em eu
      split at h
      · rename_i hq
        cases h
        have l0 : lo = none := by
          cases lo with
          | none => rfl
          | some q => simp [opdO] at el
        have m0 : mx = none := by
          cases mx with
          | none => rfl
          | some q => simp [opdO] at em
        obtain ⟨zh, h0, h1⟩ : ∃ zh, hi = some zh ∧ opd P 0 zh = some yh := by
          cases hi with
          | none => simp [opdO] at eh
          | some q =>
            simp only [opdO, Option.map_eq_some_iff] at eh
            obtain ⟨b, hb, e⟩ := eh
            cases e
            exact ⟨q, rfl, hb⟩
        subst l0 m0 h0
        exact ⟨ty, x, zh, e, hop, eu, hq.1, rfl, ea, h1⟩
      · cases h
    · cases h
  all_goals first
    | (cases h; done)
    | (simp at h; done)
    | ((repeat' split at h) <;> (try cases h) <;> (try simp at h) ; done)
theorem run_sliceTo {ty e : TypeId} {k : IntKind} {n : Int} {len C : Nat} {B off : Nat} (hu : P.underlying ty = some (.slice e)) (hinf : (P.info? e).isSome = true) (h0 : 0 ≤ n) (h1 : n ≤ (C : Int)) :
    (Instr.sliceAt ty (.slice (some ⟨B, off, none⟩) len C) none (some (.int k n)) none).run P w = .ok (.slice (some ⟨B, off, none⟩) n.toNat C) w := by
  have hb : (Instr.sliceBounds true len C none (some (.int k n)) none).run P w = .ok (0, n.toNat, C) w := by
    unfold Instr.sliceBounds
    simp [run_bound P w h0 h1]
  simp [Instr.sliceAt, run_underlying hu, Instr.slice, hb, run_size P w e hinf]
  intro _
  rfl
theorem aopS_plain {op : AOp} {x : AV} (hc : cOp P o = some op) (hx : aopS (ev t) op = some x) (ht : TRel G w t a) : Plain P G w a o x := by
  unfold aopS at hx
  split at hx
  · rename_i y
    split at hx
    · rename_i s xs ys hy
      cases hx
      obtain ⟨c, z, T, e, hop, hcal, ha, hta, h1, hT⟩ := cOp_len hc
      have r1 := opd_rel h1 ht
      rw [hy] at r1
      have ha' : c.args = #[z] := by rw [← Array.toArray_toList (xs := c.args), ha]
      have hta' : c.argTypes = #[T] := by rw [← Array.toArray_toList (xs := c.argTypes), hta]
      simp only [VRel] at r1
      obtain ⟨B, off, C, us, vs, r1, -⟩ := r1
      exact ⟨.int .i64 xs.length, by simp [execOp, hop, resolve, hcal, ha', hta', invoke, builtin, Builtin.len_, run_underlying hT, r1, goInt], by simp [VRel]⟩
    · cases hx
  · rename_i sz y yh
    obtain ⟨ty, z, zh, e, hop, hu, hinf, rfl, h1, h2⟩ := cOp_slc hc
    split at hx
    · rename_i s xs ys k n hy hyh
      split at hx
      · rename_i hq
        obtain ⟨rfl, q1, q2⟩ := hq
        cases hx
        have r1 := opd_rel h1 ht
        have r2 := opd_rel h2 ht
        rw [hy] at r1
        rw [hyh] at r2
        simp only [VRel] at r1 r2
        obtain ⟨B, off, C, us, vs, g1, g2, g3, g4, g5, g6⟩ := r1
        refine ⟨.slice (some ⟨B, off, none⟩) n.toNat C, ?_, ?_⟩
        · simp [execOp, hop, g1, r2, run_sliceTo (P := P) (w := w) hu hinf q1 (show n ≤ (C : Int) by omega)]
        · have hl : ((xs ++ ys).take n.toNat).length = n.toNat := by rw [List.length_take, List.length_append]; omega
          have he := VElems.take n.toNat (VElems.append g4 g5)
          unfold VRel
          refine .inr ⟨B, off, C, _, by rw [hl], by rw [hl]; omega, ?_, he, fun i v hi => g6 i v ?_, trivial⟩
          · exact he.length
          · rw [List.getElem?_take] at hi
            split at hi
            · exact hi
            · cases hi
      · cases hx
    · rename_i s xs c k n hy hyh
      split at hx
      · rename_i hq
        obtain ⟨rfl, q1, q2, q3⟩ := hq
        cases hx
        have r1 := opd_rel h1 ht
        have r2 := opd_rel h2 ht
        rw [hy] at r1
        rw [hyh] at r2
        simp only [VRel] at r1 r2
        rcases r1 with ⟨e0, -⟩ | ⟨B, off, C, vs, g1, g2, g3, g4, g5, -⟩
        · subst e0; simp at q3
        · refine ⟨.slice (some ⟨B, off, none⟩) n.toNat C, ?_, ?_⟩
          · simp [execOp, hop, g1, r2, run_sliceTo (P := P) (w := w) hu hinf q1 (show n ≤ (C : Int) by omega)]
          · have hl : (xs.take n.toNat).length = n.toNat := by rw [List.length_take]; omega
            unfold VRel
            refine ⟨B, off, C, vs.take (n.toNat * P.cellsOf e), vs.drop (n.toNat * P.cellsOf e), by rw [hl], ?_, (VElems.take n.toNat g4).length, VElems.take _ g4, VElems.drop _ g4, by rw [List.take_append_drop]; exact g5⟩
            rw [List.length_take, List.length_drop]; omega
      · cases hx
    · cases hx
  · cases hx
theorem aopS_congr {ρ ρ' : Opd → AV} {op : AOp} (hx : ∀ y ∈ opdsOf op, ρ y = ρ' y) : aopS ρ op = aopS ρ' op := by
  cases op <;> (try rfl)
  case len str x => cases str <;> simp only [aopS, hx x (by simp [opdsOf])]
  case slc str sz x lo hi mx =>
    cases str <;> cases lo <;> cases hi <;> cases mx <;> (try rfl)
    rename_i hi
    simp only [aopS, hx x (by simp [opdsOf]), hx hi (by simp [opdsOf])]
theorem itrun_opS {ops : Array Oper} {i : Nat} {o : Oper} {it : AItem} {t : Tm} {h : H} {x : AV} (ho : ops[i]? = some o) (hit : cItem P N ops o = some it) (hg : guardOf t it.guard = some true) (hx : aopS (ev t) it.op = some x) :
    ItRun P ops i o t (.only none' [] h.n h.m) x (.only none' [] h.n h.m) := by
  unfold cItem at hit
  split at hit
  · rename_i op g hop hgd
    split at hit <;> cases hit
    rename_i hcond
    simp only [Bool.and_eq_true] at hcond
    have hop := cOpD_of hop (by rintro rfl; simp [aopS] at hx)
    have hx' : aopS (ev (cutTo (names ops o) t)) op = some x := by
      rw [aopS_congr (cut_ev hcond.2)]; exact hx
    intro G w a ht R F K Q hK ro
    unfold wpOpIn
    rw [ho]
    simp only [guard_wanted hgd ht hg, if_true]
    obtain ⟨v, e1, V⟩ := aopS_plain hop hx' (cut_rel ht)
    refine ⟨fun _ _ => trivial, ?_⟩
    rw [Oper.semAt_eq _ _ _ (cOp_plain hop), e1, Oper.uponIn_value]
    exact hK G w v (Trans.refl _ _ _) R V
  · cases hit
theorem WpItems.opS {dst : Option Nat} {g : Option (Nat × Bool)} {op : AOp} {its : List AItem} {t : Tm} {h : H} {log : List Ent} {K : Tm → H → List Ent → Prop} {x : AV} (hg : guardOf t g = some true) (hx : aopS (ev t) op = some x)
    (rest : WpItems P N its (putT t dst x) h (ent0 :: log) K) : WpItems P N (⟨dst, g, op⟩ :: its) t h log K :=
  WpItems.step (it := ⟨dst, g, op⟩) (touch_none h) (fun ops i o ho hit => itrun_opS ho hit hg hx) (fun _ => rfl) rest
end
end Go.Av
end
section
set_option linter.unusedVariables false
set_option linter.unusedSimpArgs false
namespace Go.Av
section
variable {P : Program} {N : Nat}
def YCalls (P : Program) (id : Nat) (args : List AV) (h : H) (r : AV) (h' : H) : Prop :=
  ∀ G w vs, G.dom id → VRels G w args vs → RepH G h w → Fresh G h h' → YieldAt Fence.wide 0 P (G.ι id) vs.toArray w fun e w' => ∃ v G', e = .returned v ∧ Trans G w h G' w' h' ∧ RepH G' h' w' ∧ VRel G' w' r v
inductive RoundEnd : AExit → Bool → LoopState → Option Code → Prop where
  | normal : RoundEnd .normal true .ready none
  | ret : RoundEnd .ret false .done (some .ret)
  | exit (i : Nat) : RoundEnd (.exit i) false .done (some (.exit i))
  | goto (l : Nat) : RoundEnd (.goto l) false .done (some (.goto l))
theorem code_rfun {code : Code} {g : Opd} {ps : List Nat} {x y : AC} (h : cCode P N code = some (.rfun g ps x y)) : ∃ z qs a b, code = .rangeFunc z qs a b ∧ opd P 0 z = some g ∧ qs.toList = ps ∧ cCode P N a = some x ∧ cCode P N b = some y ∧ noRF a = true ∧ noRF b = true := by
  cases code with
  | rangeFunc z qs a b =>
    simp only [cCode] at h
    split at h
    · rename_i g' x' y' h1 h2 h3
      split at h
      · rename_i hcc
        cases h
        have hcc' : noRF a = true ∧ noRF b = true := by simpa using hcc
        exact ⟨_, _, _, _, rfl, h1, rfl, h2, h3, hcc'.1, hcc'.2⟩
      · cases h
    · cases h
  | _ =>
    simp only [cCode] at h
    first | (simp at h; done) | (cases h; done) | ((repeat' split at h) <;> cases h; done)
inductive LoopEnd : Option Code → AExit → Prop where
  | none : LoopEnd none .normal
  | ret : LoopEnd (some .ret) .ret
  | exit (i : Nat) : LoopEnd (some (.exit i)) (.exit i)
  | goto (l : Nat) : LoopEnd (some (.goto l)) (.goto l)
theorem Wp.rfun {g : Opd} {ps : List Nat} {x y : AC} {t : Tm} {f : Objs} {n m : Nat} {T : List Nat} {Q : AExit → St → Prop} {fi : FuncId} {fn : Func} {first caps : List AV} (hg : ev t g = .clo (.func fi) first caps) (hf : P.funcs[fi]? = some fn) (hfb : fn.body.isSome = true) (hfn : fn.name ≠ "runtime.NumGoroutine")
    (hfresh : f n = none)
    (hw : ∀ asg body, cCode P N asg = some x → cCode P N body = some y → noRF asg = true → noRF body = true → ∃ r f2 n2 T2 m2 t2 st pend e,
      ACalls P fi (first ++ [.yld n] ++ caps) ⟨upd f n (some (.loop N t ps asg body .ready none)), n + 1, T, m⟩ r ⟨f2, n2, T2, m2⟩ ∧ n + 1 ≤ n2 ∧ m ≤ m2 ∧ f2 n = some (.loop N t2 ps asg body st pend) ∧ st ≠ .busy ∧ LoopEnd pend e ∧
      Q e ⟨t, ⟨fun j => if j = n then none else f2 j, n2, T2, m2⟩⟩) : Wp P N (.rfun g ps x y) ⟨t, ⟨f, n, T, m⟩⟩ Q := by
  intro code hc
  obtain ⟨z, qs, asg, body, rfl, c1, c2, c3, c4, c5, c6⟩ := code_rfun hc
  obtain ⟨r, f2, n2, T2, m2, t2, st, pend, e, hcall, hn2, hm2, ho2, hst, hle, hq⟩ := hw asg body c3 c4 c5 c6
  refine ⟨e, _, ⟨⟨by simp only; omega, by simp only; omega⟩, fun ro okc G w a rel F => ?_⟩, hq⟩
  obtain rfl : ro = none := by
    rcases okc with h | h
    · exact h
    · simp [noRF] at h
  have hz : VRel G w (.clo (.func fi) first caps) (a.eval z) := by rw [← hg]; exact opd_rel c1 rel.t
  simp only [VRel] at hz
  obtain ⟨vs, us, hz, hv1, hv2⟩ := hz
  refine wpIn_rangeFunc (F := rd none) (n := 0) fun fid _ => ?_
  let D := w.heap.size
  let rec0 : Loop := { state := .ready, pending := none, fn := fid, tmps := a.tmps, params := qs, assign := asg, body := body, defers := w.heap.size }
  let w1 := (w.alloc (.deferred (some []))).alloc (.loop rec0)
  have hD1 : w1.heap[D]? = some (.deferred (some [])) := by
    show ((w.heap.push (.deferred (some []))).push (.loop rec0))[w.heap.size]? = _
    rw [Array.getElem?_push, if_neg (by simp), Array.getElem?_push, if_pos rfl]
  have hL1 : w1.heap[D + 1]? = some (.loop rec0) := by
    show ((w.heap.push (.deferred (some []))).push (.loop rec0))[w.heap.size + 1]? = _
    rw [Array.getElem?_push, if_pos (by simp)]
  have hsz1 : w1.heap.size = w.heap.size + 2 := by show ((w.heap.push (.deferred (some []))).push (.loop rec0)).size = _; simp
  have hold : ∀ B, B < w.heap.size → w1.heap[B]? = w.heap[B]? := by
    intro B hB
    show ((w.heap.push (.deferred (some []))).push (.loop rec0))[B]? = _
    rw [Array.getElem?_push, if_neg (by rw [Array.size_push]; omega), Array.getElem?_push, if_neg (by omega)]
  have hndom : ¬ G.dom n := F.1 n (Nat.le_refl _) (by simp only; omega)
  let G1 : Ghost := { G with dom := fun j => G.dom j ∨ j = n, ι := upd G.ι n (D + 1), own := fun B => G.own B ∨ B = D + 1 }
  have hι1 : ∀ j, G.dom j → G1.ι j = G.ι j := fun j hj => by
    simp only [G1, upd]; rw [if_neg]; rintro rfl; exact hndom hj
  have hιn : G1.ι n = D + 1 := by simp [G1, upd]
  have hne : ∀ j o, f j = some o → j ≠ n := fun j o h e => by subst e; rw [hfresh] at h; cases h
  have hO : ∀ B, B < w.heap.size → H.O ⟨upd f n (some (.loop N t ps asg body .ready none)), n + 1, T, m⟩ G1 B → H.O ⟨f, n, T, m⟩ G B := by
    rintro B hB ⟨j, o, h1, h2⟩
    by_cases e' : j = n
    · subst e'; rw [hιn] at h2; omega
    · have h1' : f j = some o := by simpa [upd, e'] using h1
      exact ⟨j, o, h1', by rw [← hι1 j (rel.h.obj j o h1').1]; exact h2⟩
  have Tr1 : Trans G w ⟨f, n, T, m⟩ G1 w1 ⟨upd f n (some (.loop N t ps asg body .ready none)), n + 1, T, m⟩ := by
    constructor
    · exact fun _ x => .inl x
    · rintro j (h | rfl)
      · exact .inl h
      · exact .inr ⟨Nat.le_refl _, Nat.lt_succ_self _⟩
    · exact hι1
    · exact fun _ x => x
    · exact fun _ => .inl
    · exact fun _ _ => rfl
    · exact Nat.le_succ _
    · exact Nat.le_refl _
    · rw [hsz1]; omega
    · rfl
    · rfl
    · intro B hB; rw [hold B hB]; exact SameForm.refl _
    · exact fun B hB _ _ => hold B hB
    · intro B hB _
      exact ⟨fun h => h.resolve_right (by omega), .inl⟩
    · exact fun _ _ _ _ => rfl
    · intro B hB h1 h2 e' he'
      refine ⟨fun j hj => ?_, fun e'' he'' => ?_⟩
      · have := hold B hB
        unfold World.cell?
        simp only [this]
      · have he2 : G.lim B = some e'' := he''
        rw [he'] at he2; cases he2; exact Nat.le_refl _
    · exact hO
    · exact fun _ _ h => h
    · intro j o h
      by_cases e' : j = n
      · subst e'; exact .inr ⟨Nat.le_refl _, Nat.lt_succ_self _⟩
      · exact .inl ⟨o, by simpa [upd, e'] using h⟩
    · exact fun _ => .inl
  have R1 : RepH G1 ⟨upd f n (some (.loop N t ps asg body .ready none)), n + 1, T, m⟩ w1 := by
    refine ⟨fun j o h => ?_, fun i j o o' h1 h2 h3 => ?_, fun k hk => ⟨(rel.h.tok k hk).1, fun B e' he' => ?_⟩, rel.h.tinj⟩
    · by_cases e' : j = n
      · subst e'
        have : o = .loop N t ps asg body .ready none := by simpa [upd] using h.symm
        subst this
        refine ⟨.inr rfl, by rw [hιn]; exact .inr rfl, by rw [hιn, hsz1]; show w.heap.size + 1 < _; omega, rec0, by rw [hιn]; exact hL1, rel.size, fun i => VRel.mono rel.h Tr1 _ _ (rel.t i), c2, rfl, rfl, rfl, rfl⟩
      · have h' : f j = some o := by simpa [upd, e'] using h
        obtain ⟨a1, a2, a3, a4⟩ := rel.h.obj j o h'
        refine ⟨.inl a1, by rw [hι1 j a1]; exact .inl a2, by rw [hι1 j a1, hsz1]; omega, ?_⟩
        rw [hι1 j a1, hold _ a3]
        exact a4.mono rel.h Tr1
    · have low : ∀ k p, f k = some p → G1.ι k < w.heap.size := fun k p hk => by rw [hι1 k (rel.h.obj k p hk).1]; exact (rel.h.obj k p hk).2.2.1
      by_cases e1 : i = n
      · by_cases e2 : j = n
        · rw [e1, e2]
        · have := low j o' (by simpa [upd, e2] using h2)
          rw [← h3, e1, hιn] at this
          omega
      · have hi : f i = some o := by simpa [upd, e1] using h1
        by_cases e2 : j = n
        · have := low i o hi
          rw [h3, e2, hιn] at this
          omega
        · have hj : f j = some o' := by simpa [upd, e2] using h2
          exact rel.h.inj i j o o' hi hj (by rw [← hι1 i (rel.h.obj i o hi).1, ← hι1 j (rel.h.obj j o' hj).1]; exact h3)
    · obtain ⟨b1, b2, b3⟩ := (rel.h.tok k hk).2 B e' he'
      refine ⟨b1, ?_, by rw [hsz1]; omega⟩
      rintro (h | h)
      · exact b2 h
      · omega
  have F1 : Fresh G1 ⟨upd f n (some (.loop N t ps asg body .ready none)), n + 1, T, m⟩ ⟨f2, n2, T2, m2⟩ := F.step Tr1
  have hargs : VRels G1 w1 (first ++ [.yld n] ++ caps) (vs ++ [Value.func (.yield (D + 1)) #[] #[]] ++ us) := by
    refine VRels.append (VRels.append (VRels.mono rel.h Tr1 _ _ hv1) ?_) (VRels.mono rel.h Tr1 _ _ hv2)
    simp only [VRels, VRel]
    exact ⟨_, [], rfl, ⟨.inr rfl, by rw [hιn]⟩, rfl⟩
  refine ⟨D + 1, [{ target := .collected D, args := #[] }], w1, { target := .fn (.func fi) us.toArray, args := vs.toArray ++ #[Value.func (.yield (D + 1)) #[] #[]] }, w1, fi, (vs ++ [Value.func (.yield (D + 1)) #[] #[]] ++ us).toArray, w1, ?_, ?_, fun _ _ => trivial, ?_, fun h => by simp [rd, Fence.wide] at h, callsIn_rd ?_⟩
  · exact run_enterLoop_outer fid a.tmps qs asg body
  · have he : ∀ v, a.eval (.const v) = v := fun _ => rfl
    simp [resolve, rangeCall, hz, Deferred.ofValue, he]
  · simp [invoke, run_callFunc w1 hf hfb hfn]
  · refine (hcall G1 w1 _ hargs R1 F1).mono ?_
    rintro e' w3 ⟨v, G3, rfl, T3, R3, V3⟩
    obtain ⟨b1, b2, b3, ⟨st3, pend3, fn3, tmps3, params3, asg3, body3, df3⟩, b4, b5, b6, b7, b8, b9, b10, b11⟩ := R3.obj n _ ho2
    simp only at b10 b11
    subst b11
    have hι3 : G3.ι n = D + 1 := (T3.ι_eq n (.inr rfl)).trans hιn
    rw [hι3] at b3 b4
    have hDO1 : ¬ H.O ⟨upd f n (some (.loop N t ps asg body .ready none)), n + 1, T, m⟩ G1 D := by
      rintro ⟨j, o, h1, h2⟩
      by_cases e' : j = n
      · subst e'; rw [hιn] at h2; omega
      · have h1' : f j = some o := by simpa [upd, e'] using h1
        have := (rel.h.obj j o h1').2.2.1
        rw [hι1 j (rel.h.obj j o h1').1] at h2
        omega
    have hDT1 : ¬ H.T ⟨upd f n (some (.loop N t ps asg body .ready none)), n + 1, T, m⟩ G1 D := by
      rintro ⟨k, hk, e', he'⟩
      have := ((rel.h.tok k hk).2 D e' he').2.2
      omega
    have hDlt : D < w1.heap.size := by rw [hsz1]; show w.heap.size < _; omega
    have hD3 : w3.heap[D]? = some (.deferred (some [])) := (T3.keep D hDlt hDO1 hDT1).trans hD1
    have hDO3 : ¬ H.O ⟨f2, n2, T2, m2⟩ G3 D := fun h => hDO1 (T3.O_new D hDlt h)
    have hDT3 : ¬ H.T ⟨f2, n2, T2, m2⟩ G3 D := fun h => hDT1 (T3.T_new D hDlt h)
    refine ⟨pend3, _, run_endLoop b4 (by simp only; rw [b10]; exact hst), ?_⟩
    let w4 := w3.putObj (D + 1) (.loop ⟨.exhausted, pend3, fn3, tmps3, params3, asg3, body3, df3⟩)
    have tu : Turned (D + 1) w3 w4 := ⟨by simp [w4], fun B hB => World.putObj_heap_other hB, fun c T fr e => absurd (b4.symm.trans e) (by simp), rfl, rfl⟩
    have hle3 : HLe ⟨f2, n2, T2, m2⟩ ⟨fun j => if j = n then none else f2 j, n2, T2, m2⟩ := by
      refine ⟨fun j o' hj => ?_, fun t h => h⟩
      simp only at hj
      split at hj
      · cases hj
      · exact ⟨o', hj, OSub.refl _⟩
    have T03 : Trans G w ⟨f, n, T, m⟩ G3 w3 ⟨fun j => if j = n then none else f2 j, n2, T2, m2⟩ := (Tr1.trans rel.h R1 T3).trans rel.h R3 (Trans.le hle3 (Nat.le_refl _) (Nat.le_refl _))
    have R03 := R3.le hle3
    have hLO : ¬ H.O ⟨fun j => if j = n then none else f2 j, n2, T2, m2⟩ G3 (D + 1) := by
      rintro ⟨j, o, h1, h2⟩
      simp only at h1
      split at h1
      · cases h1
      · rename_i hjn
        exact hjn (R3.inj j n o _ h1 ho2 (by rw [h2, hι3]))
    have T04 := T03.turn tu (by show w.heap.size ≤ w.heap.size + 1; omega)
    have R04 := R03.turn tu hLO
    have hD4 : w4.heap[D]? = some (.deferred (some [])) := by rw [tu.same D (by omega)]; exact hD3
    have relEnd : Rel N ⟨t, ⟨fun j => if j = n then none else f2 j, n2, T2, m2⟩⟩ G3 w4 { a with defers := [({ target := .collected D, args := #[] } : Deferred)] ++ a.defers } := by
      refine ⟨rel.size, fun i => VRel.turn tu _ _ (VRel.mono rel.h T03 _ _ (rel.t i)), R04, ?_, ?_⟩
      · show ([({ target := .collected D, args := #[] } : Deferred)] ++ a.defers).Nodup
        rw [List.singleton_append, List.nodup_cons]
        refine ⟨fun hm => ?_, rel.df.1⟩
        obtain ⟨D', e', h1, -⟩ := rel.df.2 _ hm
        simp only [Deferred.mk.injEq, Target.collected.injEq, and_true] at e'
        have := heap_lt h1
        rw [← e'] at this
        exact absurd this (Nat.lt_irrefl _)
      · intro d hd
        rcases List.mem_append.1 hd with hd | hd
        · rw [List.mem_singleton.1 hd]
          exact ⟨D, rfl, hD4, fun ⟨j, o, h1, h2⟩ => by
            simp only at h1
            split at h1
            · cases h1
            · exact hDO3 ⟨j, o, h1, h2⟩, hDT3⟩
        · exact (rel.df.mono T04).2 d hd
    have hnew : NewM w a.defers ([({ target := .collected D, args := #[] } : Deferred)] ++ a.defers) := by
      intro d hd
      rcases List.mem_append.1 hd with hd | hd
      · rw [List.mem_singleton.1 hd]; exact .inr ⟨D, Nat.le_refl _, rfl⟩
      · exact .inl hd
    cases hle with
    | none => exact ⟨trivial, hnew, G3, T04, relEnd⟩
    | ret => exact wpIn_ret ⟨trivial, hnew, G3, T04, relEnd⟩
    | exit i => exact wpIn_exit ⟨rfl, hnew, G3, T04, relEnd⟩
    | goto l => exact wpIn_goto ⟨rfl, hnew, G3, T04, relEnd⟩
end
end Go.Av
end
section
set_option linter.unusedVariables false
set_option linter.unusedSimpArgs false
namespace Go.Av
section
variable {P : Program} {N : Nat} {o : Oper} {t : Tm} {h : H} {en : Ent}
end
end Go.Av
end
section
set_option linter.unusedVariables false
set_option linter.unusedSimpArgs false
namespace Go.Av
section
variable {P : Program} {N : Nat}
theorem Ends.same {l : List Fr} {n m : Nat} {Q : AV → List Fr → Prop} {q r : AV} {h : H} (ok : Ok l n (ks l) m) (hs : VSub q r) (hk : ∀ j, j < n → h.objs j = lay l j) (hn : n ≤ h.n) (hm : m ≤ h.m) (ht : ∀ t ∈ ks l, t ∈ h.toks) (hq : Q r l) : Ends l n m Q q h r l where
  sub := hs
  ole j o hj := by
    refine ⟨o, ?_, OSub.refl _⟩
    rcases Nat.lt_or_ge j n with e | e
    · rw [hk j e]; exact hj
    · rw [ok.lay_bd e] at hj; cases hj
  tk := ht
  ok := ok.grow hn hm
  new j := by
    cases h : lay l j with
    | none => exact .inr (.inr rfl)
    | some o => exact .inr (.inl rfl)
  knew t ht := .inl ht
  q := hq
theorem Ok.lt {F : Fr} {l : List Fr} {n m j : Nat} {T : List Nat} {o : Obj} (ok : Ok l n T m) (hF : F ∈ l) (h : F.o j = some o) : j < n := by
  rcases Nat.lt_or_ge j n with e | e
  · exact e
  · rw [ok.bd F hF j e] at h; cases h
theorem Ok.at {F : Fr} {A B : List Fr} {n m j : Nat} {T : List Nat} {o : Obj} (ok : Ok (A ++ F :: B) n T m) (h : F.o j = some o) : lay (A ++ F :: B) j = some o := by
  rw [lay_append, lay_cons, h]
  have : lay A j = none := lay_none.2 fun F' hF' => by
    rcases (List.pairwise_append.1 ok.dj).2.2 F' hF' F (by simp) j with e | e
    · exact e
    · rw [e] at h; cases h
  rw [this]; rfl
theorem Ok.sub {l : List Fr} {n m : Nat} {T : List Nat} (ok : Ok l n T m) {F : Fr} (hF : F ∈ l) : ∀ j o, F.o j = some o → lay l j = some o := by
  intro j o h
  obtain ⟨A, B, rfl⟩ := List.append_of_mem hF
  exact ok.at h
end
end Go.Av
end
section
set_option linter.unusedVariables false
set_option linter.unusedSimpArgs false
namespace Go.Av
section
variable {P : Program} {N : Nat} {Q : AExit → St → Prop}
structure On (l0 : List Fr) (n0 m0 : Nat) (l : List Fr) (n : Nat) (T : List Nat) (m : Nat) : Prop where
  gn : n0 ≤ n
  gm : m0 ≤ m
  ok : Ok l n T m
  wi : Wi l0 n0 l
  ki : Ki l0 m0 l
theorem On.refl {l : List Fr} {n m : Nat} {T : List Nat} (ok : Ok l n T m) : On l n m l n T m := ⟨Nat.le_refl _, Nat.le_refl _, ok, .refl, .refl⟩
theorem On.step {l0 l l' : List Fr} {n0 m0 n m n' m' : Nat} {T T' : List Nat} (a : On l0 n0 m0 l n T m) (b : On l n m l' n' T' m') : On l0 n0 m0 l' n' T' m' :=
  ⟨Nat.le_trans a.gn b.gn, Nat.le_trans a.gm b.gm, b.ok, a.wi.trans a.gn b.wi, a.ki.trans a.gm b.ki⟩
theorem Ok.more {l : List Fr} {n m : Nat} {T : List Nat} (ok : Ok l n T m) (o : Obj) : Ok (ob n o :: l) (n + 1) T m where
  bd F hF j hj := by
    rcases List.mem_cons.1 hF with rfl | hF
    · rw [ob_o, if_neg (by omega)]
    · exact ok.bd F hF j (by omega)
  dj := List.pairwise_cons.2 ⟨fun F hF j => by
    rw [ob_o]
    by_cases e : j = n
    · exact .inr (ok.bd F hF j (by omega))
    · exact .inl (if_neg e), ok.dj⟩
  tk t ht := ok.tk t (by simpa [ks, ob] using ht)
  td := List.pairwise_cons.2 ⟨fun F hF t ht => by simp [ob] at ht, ok.td⟩
  tb := ok.tb
theorem Ok.alone {i : Nat} {o : Obj} {l : List Fr} {n m : Nat} {T : List Nat} (ok : Ok (ob i o :: l) n T m) : lay l i = none := ok.old (by simp [ob_o])
theorem Ok.turn {i : Nat} {o o' : Obj} {l : List Fr} {n m : Nat} {T : List Nat} (ok : Ok (ob i o :: l) n T m) : Ok (ob i o' :: l) n T m := by
  have hi : i < n := ok.lt (by simp) (j := i) (F := ob i o) (o := o) (by simp [ob_o])
  have := ok.put (i := i) (o := o') ok.alone hi
  have e : (⟨upd (ob i o).o i (some o'), (ob i o).k⟩ : Fr) = ob i o' := by
    simp only [ob, Fr.mk.injEq, and_true]
    funext j
    simp only [upd, none']
    split <;> rfl
  rwa [e] at this
theorem On.put {F : Fr} {l : List Fr} {i : Nat} {o : Obj} {n m : Nat} {T : List Nat} (ok : Ok (F :: l) n T m) (h : (F.o i).isSome = true) : On (F :: l) n m (⟨upd F.o i (some o), F.k⟩ :: l) n T m := by
  have hn : i < n := by
    obtain ⟨x, hx⟩ := Option.isSome_iff_exists.1 h
    exact ok.lt (by simp) hx
  refine ⟨Nat.le_refl _, Nat.le_refl _, ok.put (ok.old h) hn, fun j => ?_, fun t ht => .inl (by simpa [ks] using ht)⟩
  simp only [lay, upd]
  by_cases e : j = i
  · subst e
    right; left
    obtain ⟨x, hx⟩ := Option.isSome_iff_exists.1 h
    rw [hx]; rfl
  · rw [if_neg e]
    cases hh : (F.o j).or (lay l j) with
    | none => exact .inr (.inr rfl)
    | some x => exact .inr (.inl rfl)
theorem YCalls.le {id : Nat} {args : List AV} {h h' h'' : H} {r r' : AV} (hc : YCalls P id args h r h') (hs : VSub r r') (hl : HLe h' h'') (n : h'.n = h''.n) (m : h'.m = h''.m) : YCalls P id args h r' h'' := by
  intro G w vs hd hv R F
  obtain ⟨fn, tmps, assign, body, q1, q2⟩ := hc G w vs hd hv R (by unfold Fresh at F ⊢; rwa [n, m])
  refine ⟨fn, tmps, assign, body, q1, q2.mono ?_⟩
  rintro e w' ⟨v, G', rfl, T, R', V⟩
  exact ⟨v, G', rfl, T.trans R R' (Trans.le hl (by omega) (by omega)), R'.le hl, hs G' w' v V⟩
end
end Go.Av
end
section
set_option linter.unusedSimpArgs false
set_option linter.unusedVariables false
set_option maxRecDepth 10000
namespace Go.Proofs.Ytpehfflehebmbaa.Reads
open Go Go.Av Go.Proofs Go.Proofs.Ytpehfflehebmbaa.C Go.Proofs.Ytpehfflehebmbaa.Batch
def encT (k : List Bs) (l : List Sp) : AV := .agg [.slt 1 (strs k) [.str [63]], .slt 2 (sps l) [.agg [.str [63], .str []]]]
theorem encT_sub (k : List Bs) (l : List Sp) : VSub (encT k l) (encR k l) := VSub.agg (VSubs.cons VSub.slt (VSubs.cons VSub.slt VSubs.nil))
theorem own_p (k : List Bs) (l : List Sp) (hk : k.length ≤ 100) (hl : l.length ≤ 100) : PCalls Try.prog 38 [encR k l] (encT k l) := by
  refine f38.pcalls0 (by simp) (by simp [allPure, encR_pure]) (by simp [encT, isPure, allPure, strs_pure, sps_pure]) ?_
  unfold c38
  have r1 : k.length * 16 ≤ 140737488355328 := by omega
  have r2 : k.length < 4611686018427387904 := by omega
  have r3 : (k.length + 1) * 16 ≤ 140737488355328 := by omega
  have r4 : k.length + 1 < 4611686018427387904 := by omega
  have r5 : l.length * 32 ≤ 140737488355328 := by omega
  have r6 : l.length < 4611686018427387904 := by omega
  have r7 : (l.length + 1) * 32 ≤ 140737488355328 := by omega
  have r8 : l.length + 1 < 4611686018427387904 := by omega
  repeat (first
    | ((first | apply Wp.seqItemsR | apply Wp.itemsR); (· simp only [go_sem, reduceIte, Nat.reduceEqDiff, Nat.reduceAdd, bx, ax, if_true, if_false, Nat.reduceMul, Nat.reduceLeDiff, encR, strs_length, sps_length, List.length_nil, List.length_cons, List.map_nil, List.nil_append, List.all_nil, Nat.zero_add, r1, r2, r3, r4, r5, r6, r7, r8]; exact rfl))
    | (refine WpItems.nil ⟨?_, ?_⟩; (· first | trivial | simp [pairsQ, pairsOk, apart, ent0]))
    | (apply Wp.cond_lit; (· simp only [go_sem, reduceIte, Nat.reduceEqDiff, Nat.reduceAdd, bx, ax, if_true, if_false, Nat.reduceMul, Nat.reduceLeDiff, encR, strs_length, sps_length, List.length_nil, List.length_cons, List.map_nil, List.nil_append, List.all_nil, Nat.zero_add, r1, r2, r3, r4, r5, r6, r7, r8]; exact rfl); (· rfl))
    | refine Wp.skip ?_
    | refine Wp.label ?_
    | refine Wp.block ?_
    | refine Wp.exit ?_
    | refine Wp.seq ?_)
  have q1 : (0 : Int) ≤ (k.length : Int) := by omega
  have q2 : (k.length : Int) ≤ ((k.length + 1 : Nat) : Int) := by omega
  have q3 : 0 < k.length + 1 := by omega
  have q4 : (0 : Int) ≤ (l.length : Int) := by omega
  have q5 : (l.length : Int) ≤ ((l.length + 1 : Nat) : Int) := by omega
  have q6 : 0 < l.length + 1 := by omega
  have t1 : (strs k ++ [AV.str [63]]).take k.length = strs k := by rw [← strs_length k]; exact List.take_left
  have t2 : (strs k ++ [AV.str [63]]).drop k.length = [AV.str [63]] := by rw [← strs_length k]; exact List.drop_left
  have t3 : (sps l ++ [AV.agg [AV.str [63], AV.str []]]).take l.length = sps l := by rw [← sps_length l]; exact List.take_left
  have t4 : (sps l ++ [AV.agg [AV.str [63], AV.str []]]).drop l.length = [AV.agg [AV.str [63], AV.str []]] := by rw [← sps_length l]; exact List.drop_left
  refine Wp.reg ?_
  refine WpItems.part 4 (by simp only [go_sem, reduceIte, Nat.reduceEqDiff, Nat.reduceAdd, bx, strs_length]; exact rfl) ?_
  simp only [List.drop_succ_cons, List.drop_zero, List.drop_nil]
  refine WpItems.opS (by simp only [go_sem, reduceIte, Nat.reduceEqDiff, Nat.reduceAdd, bx]) (by simp only [aopS, go_sem, reduceIte, Nat.reduceEqDiff, Nat.reduceAdd, bx, strs_length, List.length_append, List.length_cons, List.length_nil, Nat.zero_add, q1, q2, q3, and_self, if_true, true_and, Int.toNat_natCast, t1, t2]; exact rfl) ?_
  refine WpItems.part 4 (by simp only [go_sem, reduceIte, Nat.reduceEqDiff, Nat.reduceAdd, bx, sps_length]; exact rfl) ?_
  simp only [List.drop_succ_cons, List.drop_zero, List.drop_nil]
  refine WpItems.opS (by simp only [go_sem, reduceIte, Nat.reduceEqDiff, Nat.reduceAdd, bx]) (by simp only [aopS, go_sem, reduceIte, Nat.reduceEqDiff, Nat.reduceAdd, bx, sps_length, List.length_append, List.length_cons, List.length_nil, Nat.zero_add, q4, q5, q6, and_self, if_true, true_and, Int.toNat_natCast, t3, t4]; exact rfl) ?_
  refine WpItems.evR (by simp only [go_sem, reduceIte, Nat.reduceEqDiff, Nat.reduceAdd, bx, ax, Nat.reduceLeDiff]; exact rfl) ?_
  refine WpItems.nil ⟨by simp [pairsQ, pairsOk, apart, ent0], ?_⟩
  refine Wp.ret ⟨trivial, _, rfl, VSub.refl _⟩
theorem sub01 {g : Nat → Option Av.Obj} {A B B' : Av.Obj} (h1 : g 0 = some A) (h2 : g 1 = some B) (hs : OSub B B') : OLe g (upd (upd none' 0 (some A)) 1 (some B')) := OLe.put (OLe.at h1) h2 hs
def mkR (l : List Sp) (ks : List Bs) : List Bs := ks.filter fun x => !spanned l x
theorem mkR_snoc (l : List Sp) {ks : List Bs} {j : Nat} (h : j < ks.length) : mkR l (ks.take (j + 1)) = if spanned l (ks.getD j []) = true then mkR l (ks.take j) else mkR l (ks.take j) ++ [ks.getD j []] := by
  rw [Av.take_snoc [] h, mkR, List.filter_append, List.filter_cons, List.filter_nil]
  cases spanned l (ks.getD j []) <;> simp [mkR]
set_option maxHeartbeats 1000000 in
theorem madeR_p (ks : List Bs) (l : List Sp) (hk : ks.length ≤ 1000) (hl : l.length ≤ 1000) (lk : LsK ks) (ll : LsS l) : PCalls Try.prog 86 [.sl 1 (strs ks) .any, .sl 2 (sps l) .any] (.tup [encR (mkR l ks) l, .bool (decide ((mkR l ks).length ≤ 64) && decide (l.length ≤ 64))]) := by
  refine f86.pcalls0 (by simp) (by simp [allPure, isPure, capPure, strs_pure, sps_pure]) (by simp [isPure, allPure, encR_pure]) ?_
  unfold c86
  repeat (first
    | ((first | apply Wp.seqItemsR | apply Wp.itemsR); (· simp only [go_sem, reduceIte, Nat.reduceEqDiff, Nat.reduceAdd, bx, ax, if_true, if_false, Nat.reduceMul, Nat.reduceLeDiff, strs_length]; exact rfl))
    | (refine WpItems.nil ⟨?_, ?_⟩; (· first | trivial | simp [pairsQ, pairsOk, apart, ent0]))
    | (apply Wp.cond_lit; (· simp only [go_sem, reduceIte, Nat.reduceEqDiff, Nat.reduceAdd, bx, ax, if_true, if_false, Nat.reduceMul, Nat.reduceLeDiff, strs_length]; exact rfl); (· rfl))
    | refine Wp.skip ?_
    | refine Wp.label ?_
    | refine Wp.block ?_
    | refine Wp.exit ?_
    | refine Wp.seq ?_)
  refine Wp.le (StLe.tok _ _) ?_
  refine Wp.le (StLe.of (fun i => VSub.refl _) (sub01 (A := .cells [.sl 1 [] (.exact 0), .sl 2 [] (.exact 0)]) (B := .cells [.sl 1 [] (.exact 0), .sl 2 [] (.exact 0)]) (B' := .cells [.sl 1 (strs []) (.own 0), .sl 2 [] (.exact 0)]) (by simp [upd]) (by simp [upd]) (VSubs.cons (VSub.own_of rfl) (VSubs.refl _))) (fun _ h => h) (Nat.le_refl _) (Nat.le_refl _)) ?_
  refine Wp.loopH (β := Nat × Nat × Nat) [0, 1, 4, 6] (by simp only [go_sem, reduceIte, Nat.reduceEqDiff, List.map]; exact rfl) (fun j => [(7, .int .i64 (j.1 : Nat))]) (fun j => ⟨upd (upd none' 0 (some (.cells [.sl 1 [] (.exact 0), .sl 2 [] (.exact 0)]))) 1 (some (.cells [.sl 1 (strs (mkR l (ks.take j.1))) (.own j.2.1), .sl 2 [] (.exact 0)])), 2, [j.2.1], j.2.2⟩) (fun j => j.1 ≤ ks.length) (fun j => ks.length - j.1) (0, 0, 1) (Nat.zero_le _) rfl ?_ ?_
  · simp only [AllSub, go_sem, reduceIte, Nat.reduceEqDiff, Nat.reduceAdd, bx]; and_intros <;> first | exact trivial | exact VSub.refl _ | exact VSub.any _ | (refine VSub.int ?_; omega)
  rintro ⟨j, tk, m⟩ hj
  simp only at hj ⊢
  have hfl : (mkR l (ks.take j)).length ≤ 1000 := by
    have := List.length_filter_le (fun x => !spanned l x) (ks.take j)
    rw [List.length_take] at this
    unfold mkR; omega
  have r1 : ((mkR l (ks.take j)).length + 1) * 16 ≤ 140737488355328 := by omega
  have r2 : (mkR l (ks.take j)).length + 1 < 4611686018427387904 := by omega
  by_cases hc : j < ks.length
  · have g1 : decide (((j : Nat) : Int) < ((ks.length : Nat) : Int)) = true := decide_eq_true (by omega)
    have h2 : (0 : Int) ≤ ((j : Nat) : Int) := by omega
    have h3 : ((j : Nat) : Int) < ((ks.length : Nat) : Int) := by omega
    have e1 : IntKind.i64.wrap (((j : Nat) : Int) + 1) = ((j + 1 : Nat) : Int) := by rw [IntWalk.i64_in _ (by omega)]; omega
    have hsp := spannedR_p l (by omega) ll (ks.getD j []) (lk j)
    have hsn := mkR_snoc l hc
    generalize hnx : mkR l (ks.take (j + 1)) = nx at *
    generalize mkR l (ks.take j) = o at *
    cases hb : spanned l (ks.getD j []) with
    | true =>
      rw [hb] at hsp hsn
      repeat (first
        | ((first | apply Wp.seqItemsR | apply Wp.itemsR | ((first
            | (refine WpItems.pcall ?_ ?_ (hsp) ?_; (· simp only [go_sem, reduceIte, Nat.reduceEqDiff, Nat.reduceAdd, bx]); (· simp only [go_sem, reduceIte, Nat.reduceEqDiff, Nat.reduceAdd, bx, List.map]; first | exact VSubs.refl _ | (repeat (first | exact VSubs.nil | refine VSubs.cons (by first | exact VSub.refl _ | assumption | exact VSub.cap | exact VSub.any _) ?_))))); apply WpItems.evR)); (· simp only [go_sem, reduceIte, Nat.reduceEqDiff, Nat.reduceAdd, bx, ax, if_true, if_false, Nat.reduceMul, Nat.reduceLeDiff, g1, h2, h3, e1, strs_length, strs_getD _ _ _ hc]; exact rfl))
        | (refine WpItems.nil ⟨?_, ?_⟩; (· first | trivial | simp [pairsQ, pairsOk, apart, ent0]))
        | (apply Wp.cond_lit; (· simp only [go_sem, reduceIte, Nat.reduceEqDiff, Nat.reduceAdd, bx, ax, if_true, if_false, Nat.reduceMul, Nat.reduceLeDiff, g1, h2, h3, e1, strs_length, strs_getD _ _ _ hc]; exact rfl); (· rfl))
        | refine Wp.skip ?_
        | refine Wp.label ?_
        | refine Wp.block ?_
        | refine Wp.exit ?_
        | refine Wp.seq ?_)
      refine ⟨(j + 1, tk, m), by simp only; omega, by simp only; omega, ?_⟩
      rw [if_pos rfl] at hsn
      simp only [hnx, hsn]
      refine StLe.tm (by simp only [AllSub, go_sem, reduceIte, Nat.reduceEqDiff, Nat.reduceAdd, bx]; and_intros <;> first | exact trivial | exact VSub.refl _ | exact VSub.any _ | (refine VSub.int ?_; omega))
    | false =>
      rw [hb] at hsp hsn
      repeat (first
        | ((first | apply Wp.seqItemsR | apply Wp.itemsR | ((first
            | (refine WpItems.pcall ?_ ?_ (hsp) ?_; (· simp only [go_sem, reduceIte, Nat.reduceEqDiff, Nat.reduceAdd, bx]); (· simp only [go_sem, reduceIte, Nat.reduceEqDiff, Nat.reduceAdd, bx, List.map]; first | exact VSubs.refl _ | (repeat (first | exact VSubs.nil | refine VSubs.cons (by first | exact VSub.refl _ | assumption | exact VSub.cap | exact VSub.any _) ?_))))); apply WpItems.evR)); (· simp only [go_sem, reduceIte, Nat.reduceEqDiff, Nat.reduceAdd, bx, ax, if_true, if_false, Nat.reduceMul, Nat.reduceLeDiff, g1, h2, h3, e1, strs_length, strs_getD _ _ _ hc, List.length_cons, List.length_nil, Nat.zero_add, r1, r2]; exact rfl))
        | (refine WpItems.nil ⟨?_, ?_⟩; (· first | trivial | simp [pairsQ, pairsOk, apart, ent0]))
        | (apply Wp.cond_lit; (· simp only [go_sem, reduceIte, Nat.reduceEqDiff, Nat.reduceAdd, bx, ax, if_true, if_false, Nat.reduceMul, Nat.reduceLeDiff, g1, h2, h3, e1, strs_length, strs_getD _ _ _ hc, List.length_cons, List.length_nil, Nat.zero_add, r1, r2]; exact rfl); (· rfl))
        | refine Wp.skip ?_
        | refine Wp.label ?_
        | refine Wp.block ?_
        | refine Wp.exit ?_
        | refine Wp.seq ?_)
      rw [if_neg Bool.false_ne_true] at hsn
      have hss : strs o ++ [.str (ks.getD j [])] = strs (o ++ [ks.getD j []]) := by simp [strs]
      refine ⟨(j + 1, m, m + 1), by simp only; omega, by simp only; omega, ?_⟩
      simp only [hnx, hsn]
      refine StLe.of (tm_le ?_) (sub01 (A := .cells [.sl 1 [] (.exact 0), .sl 2 [] (.exact 0)]) (B := .cells [.sl 1 (strs o ++ [.str (ks.getD j [])]) (.own m), .sl 2 [] (.exact 0)]) (by simp [upd]) (by simp [upd]) (VSubs.cons (VSub.of_eq (by rw [hss])) (VSubs.refl _))) (fun _ h => h) (Nat.le_refl _) (Nat.le_refl _)
      simp only [AllSub, go_sem, reduceIte, Nat.reduceEqDiff, Nat.reduceAdd, bx]; and_intros <;> first | exact trivial | exact VSub.refl _ | exact VSub.any _ | (refine VSub.int ?_; omega)
  · have hje : j = ks.length := by omega
    subst hje
    have g1 : decide (((ks.length : Nat) : Int) < ((ks.length : Nat) : Int)) = false := decide_eq_false (by omega)
    rw [List.take_length] at *
    have c1 : decide (((mkR l ks).length : Int) ≤ 64) = decide ((mkR l ks).length ≤ 64) := by simp; omega
    have c2 : decide ((l.length : Int) ≤ 64) = decide (l.length ≤ 64) := by simp; omega
    cases hd : decide ((mkR l ks).length ≤ 64) with
    | true =>
      rw [hd] at c1
      repeat (first
        | ((first | apply Wp.seqItemsR | apply Wp.itemsR); (· simp only [go_sem, reduceIte, Nat.reduceEqDiff, Nat.reduceAdd, bx, ax, if_true, if_false, Nat.reduceMul, Nat.reduceLeDiff, g1, strs_length, sps_length, c1, c2]; exact rfl))
        | (refine WpItems.nil ⟨?_, ?_⟩; (· first | trivial | simp [pairsQ, pairsOk, apart, ent0]))
        | (apply Wp.cond_lit; (· simp only [go_sem, reduceIte, Nat.reduceEqDiff, Nat.reduceAdd, bx, ax, if_true, if_false, Nat.reduceMul, Nat.reduceLeDiff, g1, strs_length, sps_length, c1, c2]; exact rfl); (· rfl))
        | refine Wp.skip ?_
        | refine Wp.label ?_
        | refine Wp.block ?_
        | refine Wp.exit ?_
        | refine Wp.seq ?_)
      refine Wp.ret ⟨trivial, _, rfl, ?_⟩
      simp only [go_sem, reduceIte, Nat.reduceEqDiff, Nat.reduceAdd, bx]
      exact VSub.tup (VSubs.cons (VSub.agg (VSubs.cons VSub.own (VSubs.refl _))) (VSubs.refl _))
    | false =>
      rw [hd] at c1
      repeat (first
        | ((first | apply Wp.seqItemsR | apply Wp.itemsR); (· simp only [go_sem, reduceIte, Nat.reduceEqDiff, Nat.reduceAdd, bx, ax, if_true, if_false, Nat.reduceMul, Nat.reduceLeDiff, g1, strs_length, sps_length, c1, c2]; exact rfl))
        | (refine WpItems.nil ⟨?_, ?_⟩; (· first | trivial | simp [pairsQ, pairsOk, apart, ent0]))
        | (apply Wp.cond_lit; (· simp only [go_sem, reduceIte, Nat.reduceEqDiff, Nat.reduceAdd, bx, ax, if_true, if_false, Nat.reduceMul, Nat.reduceLeDiff, g1, strs_length, sps_length, c1, c2]; exact rfl); (· rfl))
        | refine Wp.skip ?_
        | refine Wp.label ?_
        | refine Wp.block ?_
        | refine Wp.exit ?_
        | refine Wp.seq ?_)
      refine Wp.ret ⟨trivial, _, rfl, ?_⟩
      simp only [go_sem, reduceIte, Nat.reduceEqDiff, Nat.reduceAdd, bx]
      exact VSub.tup (VSubs.cons (VSub.agg (VSubs.cons VSub.own (VSubs.refl _))) (VSubs.refl _))
def kGo (q : Bs) : Bool → List Bs → List Bs
  | laid, [] => if laid then [] else [q]
  | laid, p :: l => (if laid = false ∧ Op.bytesLess p q = false then [q] else []) ++ ((if p = q then [] else [p]) ++ kGo q (laid || !Op.bytesLess p q) l)
theorem kGo_true (q : Bs) : ∀ l : List Bs, (∀ p ∈ l, p ≠ q) → kGo q true l = l
  | [], _ => rfl
  | p :: l, h => by
    rw [kGo, if_neg (h p (by simp))]
    simp only [Bool.true_eq_false, false_and, if_false, List.nil_append, Bool.true_or, List.singleton_append]
    rw [kGo_true q l fun x hx => h x (by simp [hx])]
theorem place_cons (x : Bs) (k : List Bs) (q : Bs) : place (x :: k) q = if Op.bytesLess x q = true then place k q + 1 else 0 := by
  simp only [place, List.findIdx_cons]
  cases h : Op.bytesLess x q <;> simp
theorem there_cons (x : Bs) (k : List Bs) (q : Bs) : there (x :: k) q = if Op.bytesLess x q = true then there k q else decide (x = q) := by
  simp only [there, place_cons]
  cases h : Op.bytesLess x q <;> simp
theorem ins_cons (x : Bs) (k : List Bs) (q : Bs) : insK (x :: k) q = if Op.bytesLess x q = true then x :: insK k q else if x = q then x :: k else q :: x :: k := by
  simp only [insK, there_cons, place_cons]
  by_cases h : Op.bytesLess x q = true
  · simp only [if_pos h, List.take_succ_cons, List.drop_succ_cons, List.cons_append]
    split <;> rfl
  · simp only [if_neg h]
    by_cases e : x = q <;> simp [e]
theorem kGo_eq (q : Bs) : ∀ k : List Bs, Rise k → kGo q false k = insK k q
  | [], _ => by simp [kGo, insK, there, place]
  | x :: k, hr => by
    obtain ⟨h1, h2⟩ := List.pairwise_cons.1 hr
    have ih := kGo_eq q k h2
    rw [ins_cons, kGo]
    by_cases h : Op.bytesLess x q = true
    · have hn : x ≠ q := fun e => by rw [e, less_irrefl] at h; cases h
      rw [if_pos h, ← ih]
      simp [h, hn]
    · have h' : Op.bytesLess x q = false := by simpa using h
      have ht := kGo_true q k fun y hy e => by
        have := h1 y hy
        rw [e, h'] at this; cases this
      rw [if_neg h]
      by_cases e : x = q
      · subst e; simp [h', ht]
      · simp [h', e, ht]
theorem kGo_len (q : Bs) : ∀ (l : List Bs) (b : Bool), (kGo q b l).length ≤ l.length + 1
  | [], b => by cases b <;> simp [kGo]
  | p :: l, b => by
    have key : ∀ (l : List Bs), (kGo q true l).length ≤ l.length := by
      intro l
      induction l with
      | nil => simp [kGo]
      | cons p l ih =>
        rw [kGo]
        simp only [Bool.true_eq_false, false_and, if_false, List.nil_append, Bool.true_or, List.length_append, List.length_cons]
        split <;> simp <;> omega
    have h1 := key l
    have h2 := kGo_len q l false
    rw [kGo]
    cases b <;> cases Op.bytesLess p q <;> by_cases hk : p = q <;> simp [hk] <;> omega
set_option maxHeartbeats 2000000 in
theorem keyR_p (k : List Bs) (l : List Sp) (lk : LsK k) (ll : LsS l) (q : Bs) (hq : Ls q) : PCalls Try.prog 40 [encR k l, .str q] (encO (keyB k l q)) := by
  refine f40.pcalls0 (by simp) (by simp [allPure, isPure, encR_pure]) (encO_pure _) ?_
  unfold c40
  have hr := right_p k l lk ll
  unfold encR at hr
  cases hc : checkB k l with
  | false =>
    rw [hc] at hr
    repeat (first
      | ((first | apply Wp.seqItemsR | apply Wp.itemsR | ((first
          | (refine WpItems.pcall ?_ ?_ (hr) ?_; (· simp only [go_sem, reduceIte, Nat.reduceEqDiff, Nat.reduceAdd, bx]); (· simp only [go_sem, reduceIte, Nat.reduceEqDiff, Nat.reduceAdd, bx, List.map]; first | exact VSubs.refl _ | (repeat (first | exact VSubs.nil | refine VSubs.cons (by first | exact VSub.refl _ | assumption | exact VSub.cap | exact VSub.any _) ?_))))); apply WpItems.evR)); (· simp only [go_sem, reduceIte, Nat.reduceEqDiff, Nat.reduceAdd, bx, ax, if_true, if_false, Nat.reduceMul, Nat.reduceLeDiff, encR]; exact rfl))
      | (refine WpItems.nil ⟨?_, ?_⟩; (· first | trivial | simp [pairsQ, pairsOk, apart, ent0]))
      | (apply Wp.cond_lit; (· simp only [go_sem, reduceIte, Nat.reduceEqDiff, Nat.reduceAdd, bx, ax, if_true, if_false, Nat.reduceMul, Nat.reduceLeDiff, encR]; exact rfl); (· rfl))
      | refine Wp.skip ?_
      | refine Wp.label ?_
      | refine Wp.block ?_
      | refine Wp.exit ?_
      | refine Wp.seq ?_)
    refine Wp.ret ⟨trivial, _, rfl, ?_⟩
    simp only [go_sem, reduceIte, Nat.reduceEqDiff, Nat.reduceAdd, bx]
    rw [keyB, hc]; exact nil_sub 4
  | true =>
  rw [hc] at hr
  obtain ⟨b1, b2, b3, b4⟩ := check_ok hc
  have hri := (ks_of b4).1
  repeat (first
    | ((first | apply Wp.seqItemsR | apply Wp.itemsR | ((first
        | (refine WpItems.pcall ?_ ?_ (hr) ?_; (· simp only [go_sem, reduceIte, Nat.reduceEqDiff, Nat.reduceAdd, bx]); (· simp only [go_sem, reduceIte, Nat.reduceEqDiff, Nat.reduceAdd, bx, List.map]; first | exact VSubs.refl _ | (repeat (first | exact VSubs.nil | refine VSubs.cons (by first | exact VSub.refl _ | assumption | exact VSub.cap | exact VSub.any _) ?_))))); apply WpItems.evR)); (· simp only [go_sem, reduceIte, Nat.reduceEqDiff, Nat.reduceAdd, bx, ax, if_true, if_false, Nat.reduceMul, Nat.reduceLeDiff, encR]; exact rfl))
    | (refine WpItems.nil ⟨?_, ?_⟩; (· first | trivial | simp [pairsQ, pairsOk, apart, ent0]))
    | (apply Wp.cond_lit; (· simp only [go_sem, reduceIte, Nat.reduceEqDiff, Nat.reduceAdd, bx, ax, if_true, if_false, Nat.reduceMul, Nat.reduceLeDiff, encR]; exact rfl); (· rfl))
    | refine Wp.skip ?_
    | refine Wp.label ?_
    | refine Wp.block ?_
    | refine Wp.exit ?_
    | refine Wp.seq ?_)
  refine Wp.le (StLe.tok _ _) ?_
  refine Wp.loopTok [1, 2, 4, 5] (by simp only [go_sem, reduceIte, Nat.reduceEqDiff, List.map]; exact rfl) (fun (j : Nat × List Bs × Bool) tk => [(6, .sl 1 (strs j.2.1) (.own tk)), (7, .bool j.2.2), (8, .int .i64 (j.1 : Nat))]) (fun j => j.1 ≤ k.length ∧ j.2.1 ++ kGo q j.2.2 (k.drop j.1) = kGo q false k ∧ j.2.1.length ≤ 2 * j.1) (fun j => k.length - j.1) (0, [], false) _ ⟨Nat.zero_le _, by simp, Nat.le_refl _⟩ rfl ?_ ?_
  · simp only [AllSub, go_sem, reduceIte, Nat.reduceEqDiff, Nat.reduceAdd, bx]; and_intros <;> first | exact trivial | exact VSub.refl _ | exact VSub.any _ | exact VSub.own_of rfl | (refine VSub.int ?_; omega)
  rintro ⟨j, o, b⟩ tk m ⟨hj, ho, hol⟩
  simp only at hj ho hol
  have g0 : (o.length + 1) * 16 ≤ 140737488355328 := by omega
  have g0' : o.length + 1 < 4611686018427387904 := by omega
  have g1' : (o.length + 1 + 1) * 16 ≤ 140737488355328 := by omega
  have g1'' : o.length + 1 + 1 < 4611686018427387904 := by omega
  have snoc : ∀ (o : List Bs) (x : Bs), strs o ++ [.str x] = strs (o ++ [x]) := fun o x => by simp [strs]
  by_cases hcj : j < k.length
  · have g1 : decide (((j : Nat) : Int) < ((k.length : Nat) : Int)) = true := decide_eq_true (by omega)
    have h2 : (0 : Int) ≤ ((j : Nat) : Int) := by omega
    have h3 : ((j : Nat) : Int) < ((k.length : Nat) : Int) := by omega
    have e1 : IntKind.i64.wrap (((j : Nat) : Int) + 1) = ((j + 1 : Nat) : Int) := by rw [IntWalk.i64_in _ (by omega)]; omega
    have hdr : k.drop j = k.getD j [] :: k.drop (j + 1) := by
      rw [List.drop_eq_getElem_cons hcj, Av.getD_el hcj]
    rw [hdr, kGo] at ho
    have hbel := below_p (k.getD j []) q (lk j) hq
    have hsg := strs_getD k j .any hcj
    generalize k.getD j [] = x at *
    by_cases hk : x = q
    · have q4 : decide (x = q) = true := decide_eq_true hk
      rw [if_pos hk, List.nil_append] at ho
      cases b with
      | true =>
        simp only [Bool.true_eq_false, false_and, if_false, List.nil_append, Bool.true_or] at ho
        repeat (first
          | ((first | apply Wp.seqItemsR | apply Wp.itemsR); (· simp only [go_sem, reduceIte, Nat.reduceEqDiff, Nat.reduceAdd, bx, ax, if_true, if_false, Nat.reduceMul, Nat.reduceLeDiff, strs_length, g1, h2, h3, q4, e1, hsg]; exact rfl))
          | (refine WpItems.nil ⟨?_, ?_⟩; (· first | trivial | simp [pairsQ, pairsOk, apart, ent0]))
          | (apply Wp.cond_lit; (· simp only [go_sem, reduceIte, Nat.reduceEqDiff, Nat.reduceAdd, bx, ax, if_true, if_false, Nat.reduceMul, Nat.reduceLeDiff, strs_length, g1, h2, h3, q4, e1, hsg]; exact rfl); (· rfl))
          | refine Wp.skip ?_
          | refine Wp.label ?_
          | refine Wp.block ?_
          | refine Wp.exit ?_
          | refine Wp.seq ?_)
        refine ⟨(j + 1, o, true), tk, m, ⟨by simp only; omega, ho, by simp only; omega⟩, by simp only; omega, ?_⟩
        refine StLe.tm (by simp only [AllSub, go_sem, reduceIte, Nat.reduceEqDiff, Nat.reduceAdd, bx]; and_intros <;> first | exact trivial | exact VSub.refl _ | exact VSub.any _ | (refine VSub.int ?_; omega))
      | false =>
        have hb : Op.bytesLess x q = false := by rw [hk, less_irrefl]
        rw [hb] at hbel ho
        simp only [true_and, and_self, if_true, Bool.not_false, Bool.or_true] at ho
        repeat (first
          | ((first | apply Wp.seqItemsR | apply Wp.itemsR | ((first
              | (refine WpItems.pcall ?_ ?_ (hbel) ?_; (· simp only [go_sem, reduceIte, Nat.reduceEqDiff, Nat.reduceAdd, bx]); (· simp only [go_sem, reduceIte, Nat.reduceEqDiff, Nat.reduceAdd, bx, List.map]; first | exact VSubs.refl _ | (repeat (first | exact VSubs.nil | refine VSubs.cons (by first | exact VSub.refl _ | assumption | exact VSub.cap | exact VSub.any _) ?_))))); apply WpItems.evR)); (· simp only [go_sem, reduceIte, Nat.reduceEqDiff, Nat.reduceAdd, bx, ax, if_true, if_false, Nat.reduceMul, Nat.reduceLeDiff, strs_length, g1, h2, h3, q4, e1, hsg, List.length_cons, List.length_nil, Nat.zero_add, g0, g0']; exact rfl))
          | (refine WpItems.nil ⟨?_, ?_⟩; (· first | trivial | simp [pairsQ, pairsOk, apart, ent0]))
          | (apply Wp.cond_lit; (· simp only [go_sem, reduceIte, Nat.reduceEqDiff, Nat.reduceAdd, bx, ax, if_true, if_false, Nat.reduceMul, Nat.reduceLeDiff, strs_length, g1, h2, h3, q4, e1, hsg, List.length_cons, List.length_nil, Nat.zero_add, g0, g0']; exact rfl); (· rfl))
          | refine Wp.skip ?_
          | refine Wp.label ?_
          | refine Wp.block ?_
          | refine Wp.exit ?_
          | refine Wp.seq ?_)
        refine ⟨(j + 1, o ++ [q], true), m, m + 1, ⟨by simp only; omega, by rw [← ho]; simp, by simp; omega⟩, by simp only; omega, ?_⟩
        refine StLe.tm (by simp only [AllSub, go_sem, reduceIte, Nat.reduceEqDiff, Nat.reduceAdd, bx]; and_intros <;> first | exact trivial | exact VSub.refl _ | exact VSub.any _ | exact VSub.of_eq (by rw [snoc]) | (refine VSub.int ?_; omega))
    · have q4 : decide (x = q) = false := decide_eq_false hk
      rw [if_neg hk] at ho
      cases b with
      | true =>
        simp only [Bool.true_eq_false, false_and, if_false, List.nil_append, Bool.true_or] at ho
        repeat (first
          | ((first | apply Wp.seqItemsR | apply Wp.itemsR); (· simp only [go_sem, reduceIte, Nat.reduceEqDiff, Nat.reduceAdd, bx, ax, if_true, if_false, Nat.reduceMul, Nat.reduceLeDiff, strs_length, g1, h2, h3, q4, e1, hsg, List.length_cons, List.length_nil, Nat.zero_add, g0, g0']; exact rfl))
          | (refine WpItems.nil ⟨?_, ?_⟩; (· first | trivial | simp [pairsQ, pairsOk, apart, ent0]))
          | (apply Wp.cond_lit; (· simp only [go_sem, reduceIte, Nat.reduceEqDiff, Nat.reduceAdd, bx, ax, if_true, if_false, Nat.reduceMul, Nat.reduceLeDiff, strs_length, g1, h2, h3, q4, e1, hsg, List.length_cons, List.length_nil, Nat.zero_add, g0, g0']; exact rfl); (· rfl))
          | refine Wp.skip ?_
          | refine Wp.label ?_
          | refine Wp.block ?_
          | refine Wp.exit ?_
          | refine Wp.seq ?_)
        refine ⟨(j + 1, o ++ [x], true), m, m + 1, ⟨by simp only; omega, by rw [← ho]; simp, by simp; omega⟩, by simp only; omega, ?_⟩
        refine StLe.tm (by simp only [AllSub, go_sem, reduceIte, Nat.reduceEqDiff, Nat.reduceAdd, bx]; and_intros <;> first | exact trivial | exact VSub.refl _ | exact VSub.any _ | exact VSub.of_eq (by rw [snoc]) | (refine VSub.int ?_; omega))
      | false =>
        cases hb : Op.bytesLess x q with
        | true =>
          rw [hb] at hbel ho
          simp only [Bool.true_eq_false, and_false, if_false, List.nil_append, Bool.not_true, Bool.or_self] at ho
          repeat (first
            | ((first | apply Wp.seqItemsR | apply Wp.itemsR | ((first
                | (refine WpItems.pcall ?_ ?_ (hbel) ?_; (· simp only [go_sem, reduceIte, Nat.reduceEqDiff, Nat.reduceAdd, bx]); (· simp only [go_sem, reduceIte, Nat.reduceEqDiff, Nat.reduceAdd, bx, List.map]; first | exact VSubs.refl _ | (repeat (first | exact VSubs.nil | refine VSubs.cons (by first | exact VSub.refl _ | assumption | exact VSub.cap | exact VSub.any _) ?_))))); apply WpItems.evR)); (· simp only [go_sem, reduceIte, Nat.reduceEqDiff, Nat.reduceAdd, bx, ax, if_true, if_false, Nat.reduceMul, Nat.reduceLeDiff, strs_length, g1, h2, h3, q4, e1, hsg, List.length_cons, List.length_nil, Nat.zero_add, g0, g0']; exact rfl))
            | (refine WpItems.nil ⟨?_, ?_⟩; (· first | trivial | simp [pairsQ, pairsOk, apart, ent0]))
            | (apply Wp.cond_lit; (· simp only [go_sem, reduceIte, Nat.reduceEqDiff, Nat.reduceAdd, bx, ax, if_true, if_false, Nat.reduceMul, Nat.reduceLeDiff, strs_length, g1, h2, h3, q4, e1, hsg, List.length_cons, List.length_nil, Nat.zero_add, g0, g0']; exact rfl); (· rfl))
            | refine Wp.skip ?_
            | refine Wp.label ?_
            | refine Wp.block ?_
            | refine Wp.exit ?_
            | refine Wp.seq ?_)
          refine ⟨(j + 1, o ++ [x], false), m, m + 1, ⟨by simp only; omega, by rw [← ho]; simp, by simp; omega⟩, by simp only; omega, ?_⟩
          refine StLe.tm (by simp only [AllSub, go_sem, reduceIte, Nat.reduceEqDiff, Nat.reduceAdd, bx]; and_intros <;> first | exact trivial | exact VSub.refl _ | exact VSub.any _ | exact VSub.of_eq (by rw [snoc]) | (refine VSub.int ?_; omega))
        | false =>
          rw [hb] at hbel ho
          simp only [true_and, and_self, if_true, Bool.not_false, Bool.or_true] at ho
          repeat (first
            | ((first | apply Wp.seqItemsR | apply Wp.itemsR | ((first
                | (refine WpItems.pcall ?_ ?_ (hbel) ?_; (· simp only [go_sem, reduceIte, Nat.reduceEqDiff, Nat.reduceAdd, bx]); (· simp only [go_sem, reduceIte, Nat.reduceEqDiff, Nat.reduceAdd, bx, List.map]; first | exact VSubs.refl _ | (repeat (first | exact VSubs.nil | refine VSubs.cons (by first | exact VSub.refl _ | assumption | exact VSub.cap | exact VSub.any _) ?_))))); apply WpItems.evR)); (· simp only [go_sem, reduceIte, Nat.reduceEqDiff, Nat.reduceAdd, bx, ax, if_true, if_false, Nat.reduceMul, Nat.reduceLeDiff, strs_length, g1, h2, h3, q4, e1, hsg, List.length_cons, List.length_nil, Nat.zero_add, g0, g0', g1', g1'']; exact rfl))
            | (refine WpItems.nil ⟨?_, ?_⟩; (· first | trivial | simp [pairsQ, pairsOk, apart, ent0]))
            | (apply Wp.cond_lit; (· simp only [go_sem, reduceIte, Nat.reduceEqDiff, Nat.reduceAdd, bx, ax, if_true, if_false, Nat.reduceMul, Nat.reduceLeDiff, strs_length, g1, h2, h3, q4, e1, hsg, List.length_cons, List.length_nil, Nat.zero_add, g0, g0', g1', g1'']; exact rfl); (· rfl))
            | refine Wp.skip ?_
            | refine Wp.label ?_
            | refine Wp.block ?_
            | refine Wp.exit ?_
            | refine Wp.seq ?_)
          refine ⟨(j + 1, o ++ [q] ++ [x], true), m + 1, m + 2, ⟨by simp only; omega, by rw [← ho]; simp, by simp; omega⟩, by simp only; omega, ?_⟩
          refine StLe.tm (by simp only [AllSub, go_sem, reduceIte, Nat.reduceEqDiff, Nat.reduceAdd, bx]; and_intros <;> first | exact trivial | exact VSub.refl _ | exact VSub.any _ | exact VSub.of_eq (by rw [← snoc, ← snoc]) | (refine VSub.int ?_; omega))
  · obtain rfl : j = k.length := by omega
    have g1 : decide (((k.length : Nat) : Int) < ((k.length : Nat) : Int)) = false := decide_eq_false (by omega)
    rw [List.drop_length, kGo] at ho
    have hlen := kGo_len q k false
    have hins : LsK (kGo q false k) := by
      refine LsK.of fun s hs => ?_
      rw [kGo_eq q k hri] at hs
      rcases (ins_mem hri q s).1 hs with h | h
      · obtain ⟨i, hi, rfl⟩ := List.mem_iff_getElem.1 h
        have := lk i
        rwa [Av.getD_el hi] at this
      · rw [h]; exact hq
    have hm := madeR_p (kGo q false k) l (by omega) (by omega) hins ll
    have hres : keyB k l q = if (decide ((mkR l (kGo q false k)).length ≤ 64) && decide (l.length ≤ 64)) = true then (mkR l (kGo q false k), l, 0) else ([], [], 9) := by
      rw [keyB, if_pos hc, madeB, kGo_eq q k hri]; rfl
    rw [hres]
    unfold encR at hm
    generalize hok : (decide ((mkR l (kGo q false k)).length ≤ 64) && decide (l.length ≤ 64)) = okb at *
    have fin : ∀ (tkk : AV), True := fun _ => trivial
    cases b with
    | true =>
      simp only [if_true, List.append_nil] at ho
      rw [← ho] at hm ⊢
      cases okb
      · repeat (first
          | ((first | apply Wp.seqItemsR | apply Wp.itemsR | ((first
              | (refine WpItems.pcall ?_ ?_ (hm) ?_; (· simp only [go_sem, reduceIte, Nat.reduceEqDiff, Nat.reduceAdd, bx]); (· simp only [go_sem, reduceIte, Nat.reduceEqDiff, Nat.reduceAdd, bx, List.map]; first | exact VSubs.refl _ | (repeat (first | exact VSubs.nil | refine VSubs.cons (by first | exact VSub.refl _ | assumption | exact VSub.cap | exact VSub.any _) ?_))))); apply WpItems.evR)); (· simp only [go_sem, reduceIte, Nat.reduceEqDiff, Nat.reduceAdd, bx, ax, if_true, if_false, Nat.reduceMul, Nat.reduceLeDiff, strs_length, g1]; exact rfl))
          | (refine WpItems.nil ⟨?_, ?_⟩; (· first | trivial | simp [pairsQ, pairsOk, apart, ent0]))
          | (apply Wp.cond_lit; (· simp only [go_sem, reduceIte, Nat.reduceEqDiff, Nat.reduceAdd, bx, ax, if_true, if_false, Nat.reduceMul, Nat.reduceLeDiff, strs_length, g1]; exact rfl); (· rfl))
          | refine Wp.skip ?_
          | refine Wp.label ?_
          | refine Wp.block ?_
          | refine Wp.exit ?_
          | refine Wp.seq ?_)
        refine Wp.ret ⟨trivial, _, rfl, ?_⟩
        simp only [go_sem, reduceIte, Nat.reduceEqDiff, Nat.reduceAdd, bx]
        exact nil_sub 9
      · repeat (first
          | ((first | apply Wp.seqItemsR | apply Wp.itemsR | ((first
              | (refine WpItems.pcall ?_ ?_ (hm) ?_; (· simp only [go_sem, reduceIte, Nat.reduceEqDiff, Nat.reduceAdd, bx]); (· simp only [go_sem, reduceIte, Nat.reduceEqDiff, Nat.reduceAdd, bx, List.map]; first | exact VSubs.refl _ | (repeat (first | exact VSubs.nil | refine VSubs.cons (by first | exact VSub.refl _ | assumption | exact VSub.cap | exact VSub.any _) ?_))))); apply WpItems.evR)); (· simp only [go_sem, reduceIte, Nat.reduceEqDiff, Nat.reduceAdd, bx, ax, if_true, if_false, Nat.reduceMul, Nat.reduceLeDiff, strs_length, g1]; exact rfl))
          | (refine WpItems.nil ⟨?_, ?_⟩; (· first | trivial | simp [pairsQ, pairsOk, apart, ent0]))
          | (apply Wp.cond_lit; (· simp only [go_sem, reduceIte, Nat.reduceEqDiff, Nat.reduceAdd, bx, ax, if_true, if_false, Nat.reduceMul, Nat.reduceLeDiff, strs_length, g1]; exact rfl); (· rfl))
          | refine Wp.skip ?_
          | refine Wp.label ?_
          | refine Wp.block ?_
          | refine Wp.exit ?_
          | refine Wp.seq ?_)
        refine Wp.ret ⟨trivial, _, rfl, ?_⟩
        simp only [go_sem, reduceIte, Nat.reduceEqDiff, Nat.reduceAdd, bx]
        exact VSub.refl _
    | false =>
      simp only [Bool.false_eq_true, if_false] at ho
      rw [← ho] at hm ⊢
      have fit : VSubs [.sl 1 (strs o ++ [.str q]) (.own m), .sl 2 (sps l) .any] [.sl 1 (strs (o ++ [q])) .any, .sl 2 (sps l) .any] := by
        rw [snoc]; exact VSubs.cons VSub.own (VSubs.refl _)
      cases okb
      · repeat (first
          | ((first | apply Wp.seqItemsR | apply Wp.itemsR | ((first
              | (refine WpItems.pcall ?_ ?_ (hm) ?_; (· simp only [go_sem, reduceIte, Nat.reduceEqDiff, Nat.reduceAdd, bx]); (· simp only [go_sem, reduceIte, Nat.reduceEqDiff, Nat.reduceAdd, bx, List.map]; exact fit))); apply WpItems.evR)); (· simp only [go_sem, reduceIte, Nat.reduceEqDiff, Nat.reduceAdd, bx, ax, if_true, if_false, Nat.reduceMul, Nat.reduceLeDiff, strs_length, g1, List.length_cons, List.length_nil, Nat.zero_add, g0, g0']; exact rfl))
          | (refine WpItems.nil ⟨?_, ?_⟩; (· first | trivial | simp [pairsQ, pairsOk, apart, ent0]))
          | (apply Wp.cond_lit; (· simp only [go_sem, reduceIte, Nat.reduceEqDiff, Nat.reduceAdd, bx, ax, if_true, if_false, Nat.reduceMul, Nat.reduceLeDiff, strs_length, g1, List.length_cons, List.length_nil, Nat.zero_add, g0, g0']; exact rfl); (· rfl))
          | refine Wp.skip ?_
          | refine Wp.label ?_
          | refine Wp.block ?_
          | refine Wp.exit ?_
          | refine Wp.seq ?_)
        refine Wp.ret ⟨trivial, _, rfl, ?_⟩
        simp only [go_sem, reduceIte, Nat.reduceEqDiff, Nat.reduceAdd, bx]
        exact nil_sub 9
      · repeat (first
          | ((first | apply Wp.seqItemsR | apply Wp.itemsR | ((first
              | (refine WpItems.pcall ?_ ?_ (hm) ?_; (· simp only [go_sem, reduceIte, Nat.reduceEqDiff, Nat.reduceAdd, bx]); (· simp only [go_sem, reduceIte, Nat.reduceEqDiff, Nat.reduceAdd, bx, List.map]; exact fit))); apply WpItems.evR)); (· simp only [go_sem, reduceIte, Nat.reduceEqDiff, Nat.reduceAdd, bx, ax, if_true, if_false, Nat.reduceMul, Nat.reduceLeDiff, strs_length, g1, List.length_cons, List.length_nil, Nat.zero_add, g0, g0']; exact rfl))
          | (refine WpItems.nil ⟨?_, ?_⟩; (· first | trivial | simp [pairsQ, pairsOk, apart, ent0]))
          | (apply Wp.cond_lit; (· simp only [go_sem, reduceIte, Nat.reduceEqDiff, Nat.reduceAdd, bx, ax, if_true, if_false, Nat.reduceMul, Nat.reduceLeDiff, strs_length, g1, List.length_cons, List.length_nil, Nat.zero_add, g0, g0']; exact rfl); (· rfl))
          | refine Wp.skip ?_
          | refine Wp.label ?_
          | refine Wp.block ?_
          | refine Wp.exit ?_
          | refine Wp.seq ?_)
        refine Wp.ret ⟨trivial, _, rfl, ?_⟩
        simp only [go_sem, reduceIte, Nat.reduceEqDiff, Nat.reduceAdd, bx]
        exact VSub.refl _
end Go.Proofs.Ytpehfflehebmbaa.Reads
end
section
set_option linter.unusedSimpArgs false
set_option linter.unusedVariables false
set_option maxRecDepth 10000
namespace Go.Proofs.Ytpehfflehebmbaa.Reads
open Go Go.Av Go.Proofs Go.Proofs.Ytpehfflehebmbaa.C Go.Proofs.Ytpehfflehebmbaa.Batch
structure RS where
  x : Sp
  a : List Sp
  b : List Sp
def joinR (x y : Sp) : Sp := ⟨if Op.bytesLess y.f x.f = true then y.f else x.f, if y.t = [] ∨ (x.t ≠ [] ∧ Op.bytesLess x.t y.t = true) then y.t else x.t⟩
theorem joinR_eq (x y : Sp) : joinR x y = joinB x y := by
  unfold joinR joinB
  have e1 : (if Op.bytesLess y.f x.f = true then y.f else x.f) = if (Op.bytesLess x.f y.f || decide (x.f = y.f)) = true then x.f else y.f := by
    rcases less_total x.f y.f with h | h | h
    · have : Op.bytesLess y.f x.f = false := by
        cases h2 : Op.bytesLess y.f x.f with
        | false => rfl
        | true => have := less_trans h h2; rw [less_irrefl] at this; cases this
      simp [h, this]
    · simp [h, less_irrefl]
    · have h2 : Op.bytesLess x.f y.f = false := by
        cases h2 : Op.bytesLess x.f y.f with
        | false => rfl
        | true => have := less_trans h h2; rw [less_irrefl] at this; cases this
      have h3 : x.f ≠ y.f := fun e => by rw [e, less_irrefl] at h; cases h
      simp [h, h2, h3]
  have e2 : (if y.t = [] ∨ (x.t ≠ [] ∧ Op.bytesLess x.t y.t = true) then y.t else x.t) = if x.t = [] then [] else if y.t = [] then [] else if (!Op.bytesLess x.t y.t) = true then x.t else y.t := by
    by_cases h1 : y.t = []
    · by_cases h2 : x.t = [] <;> simp [h1, h2]
    · by_cases h2 : x.t = []
      · simp [h1, h2]
      · cases h3 : Op.bytesLess x.t y.t <;> simp [h1, h2, h3]
  rw [e1, e2]
def stepR (s : RS) (y : Sp) : RS :=
  if apartB y s.x = true then ⟨s.x, s.a ++ [y], s.b⟩ else if apartB s.x y = true then ⟨s.x, s.a, s.b ++ [y]⟩ else ⟨joinR s.x y, s.a, s.b⟩
def spanR (l : List Sp) (x : Sp) : RS := l.foldl stepR ⟨x, [], []⟩
structure Rel (s : SS) (r : RS) (rest : List Sp) : Prop where
  x : s.x = r.x
  has : hasB r.x = true
  op : s.laid = false → r.b = [] ∧ s.out = r.a
  sh : s.laid = true → s.out = r.a ++ [r.x] ++ r.b ∧ ∀ z ∈ rest, apartB r.x z = true
theorem no_both {x y : Sp} (hx : hasB x = true) (hy : hasB y = true) (h : apartB x y = true) : apartB y x = false := by
  cases h2 : apartB y x with
  | false => rfl
  | true =>
    have := apart_trans h hy h2
    obtain ⟨a, b⟩ := apart_iff.1 this
    rcases has_iff.1 hx with e | e
    · exact absurd e a
    · have := less_trans e b
      rw [less_irrefl] at this; cases this
theorem rel_go : ∀ (l : List Sp) (s : SS) (r : RS), NF l → Rel s r l → Rel (l.foldl stepS s) (l.foldl stepR r) []
  | [], s, r, _, h => h
  | y :: l, s, r, hn, h => by
    have hy := hn.1 y (by simp)
    have hap := (List.pairwise_cons.1 hn.2).1
    rw [List.foldl_cons, List.foldl_cons]
    refine rel_go l _ _ (nf_tail hn) ?_
    obtain ⟨hx, hh, hop, hsh⟩ := h
    have eS : stepS s y = if apartB y r.x = true then ⟨r.x, s.laid, s.out ++ [y]⟩ else if apartB r.x y = false then ⟨joinB r.x y, s.laid, s.out⟩ else if s.laid = false then ⟨r.x, true, s.out ++ [r.x] ++ [y]⟩ else ⟨r.x, true, s.out ++ [y]⟩ := by unfold stepS; rw [hx]
    cases hl : s.laid with
    | false =>
      obtain ⟨o1, o2⟩ := hop hl
      cases c1 : apartB y r.x with
      | true =>
        have e1 : stepS s y = ⟨r.x, false, s.out ++ [y]⟩ := by rw [eS, c1, hl]; simp
        have e2 : stepR r y = ⟨r.x, r.a ++ [y], r.b⟩ := by unfold stepR; rw [c1]; simp
        rw [e1, e2]
        exact ⟨rfl, hh, fun _ => ⟨o1, by simp only; rw [o2]⟩, fun h => by simp at h⟩
      | false =>
        cases c2 : apartB r.x y with
        | false =>
          have e1 : stepS s y = ⟨joinB r.x y, false, s.out⟩ := by rw [eS, c1, c2, hl]; simp
          have e2 : stepR r y = ⟨joinR r.x y, r.a, r.b⟩ := by unfold stepR; rw [c1, c2]; simp
          rw [e1, e2]
          exact ⟨(joinR_eq _ _).symm, by simp only; rw [joinR_eq]; exact join_has hh hy, fun _ => ⟨o1, o2⟩, fun h => by simp at h⟩
        | true =>
          have e1 : stepS s y = ⟨r.x, true, s.out ++ [r.x] ++ [y]⟩ := by rw [eS, c1, c2, hl]; simp
          have e2 : stepR r y = ⟨r.x, r.a, r.b ++ [y]⟩ := by unfold stepR; rw [c1, c2]; simp
          rw [e1, e2]
          exact ⟨rfl, hh, fun h => by simp at h, fun _ => ⟨by simp only; rw [o1, o2]; simp, fun z hz => apart_trans c2 hy (hap z hz)⟩⟩
    | true =>
      obtain ⟨o1, o2⟩ := hsh hl
      have c2 := o2 y (by simp)
      have c1 := no_both hh hy c2
      have e1 : stepS s y = ⟨r.x, true, s.out ++ [y]⟩ := by rw [eS, c1, c2, hl]; simp
      have e2 : stepR r y = ⟨r.x, r.a, r.b ++ [y]⟩ := by unfold stepR; rw [c1, c2]; simp
      rw [e1, e2]
      exact ⟨rfl, hh, fun h => by simp at h, fun _ => ⟨by simp only; rw [o1]; simp, fun z hz => o2 z (by simp [hz])⟩⟩
theorem span_eq {l : List Sp} {x : Sp} (h : NF l) (hx : hasB x = true) : (spanR l x).a ++ [(spanR l x).x] ++ (spanR l x).b = spanL l x := by
  have hr := rel_go l ⟨x, false, []⟩ ⟨x, [], []⟩ h ⟨rfl, hx, fun _ => ⟨rfl, rfl⟩, fun h => by simp at h⟩
  unfold spanL spanGo spanR
  obtain ⟨h1, -, h2, h3⟩ := hr
  cases hl : (l.foldl stepS ⟨x, false, []⟩).laid with
  | false =>
    obtain ⟨e1, e2⟩ := h2 hl
    rw [if_neg Bool.false_ne_true, e1, e2, h1]; simp
  | true =>
    rw [if_pos rfl, (h3 hl).1]
end Go.Proofs.Ytpehfflehebmbaa.Reads
end
section
set_option linter.unusedSimpArgs false
set_option linter.unusedVariables false
set_option maxRecDepth 10000
namespace Go.Proofs.Ytpehfflehebmbaa.Reads
open Go Go.Av Go.Proofs Go.Proofs.Ytpehfflehebmbaa.C Go.Proofs.Ytpehfflehebmbaa.Batch
def LsP (s : Sp) : Prop := Ls s.f ∧ Ls s.t
structure RsOk (r : RS) (n : Nat) : Prop where
  a : ∀ s ∈ r.a, LsP s
  b : ∀ s ∈ r.b, LsP s
  x : LsP r.x
  n : r.a.length + r.b.length ≤ n
theorem rs_step {r : RS} {n : Nat} {y : Sp} (h : RsOk r n) (hy : LsP y) : RsOk (stepR r y) (n + 1) := by
  obtain ⟨h1, h2, h3, h4⟩ := h
  unfold stepR
  split
  · exact ⟨fun s hs => by rcases List.mem_append.1 hs with e | e; exact h1 s e; rw [List.mem_singleton.1 e]; exact hy, h2, h3, by simp only [List.length_append, List.length_cons, List.length_nil]; omega⟩
  · split
    · exact ⟨h1, fun s hs => by rcases List.mem_append.1 hs with e | e; exact h2 s e; rw [List.mem_singleton.1 e]; exact hy, h3, by simp only [List.length_append, List.length_cons, List.length_nil]; omega⟩
    · refine ⟨h1, h2, ?_, by simp only; omega⟩
      unfold joinR LsP
      simp only
      constructor
      · split
        · exact hy.1
        · exact h3.1
      · split
        · exact hy.2
        · exact h3.2
theorem rs_snoc (l : List Sp) (x : Sp) {j : Nat} (h : j < l.length) : spanR (l.take (j + 1)) x = stepR (spanR (l.take j) x) (l.getD j default) := by
  rw [Av.take_snoc default h, spanR, List.foldl_append]; rfl
theorem rs_all {l : List Sp} (hl : LsS l) {x : Sp} (hx : LsP x) : ∀ j, j ≤ l.length → RsOk (spanR (l.take j) x) j
  | 0, _ => ⟨by simp [spanR], by simp [spanR], by simpa [spanR] using hx, by simp [spanR]⟩
  | j + 1, hj => by
    rw [rs_snoc l x (show j < l.length by omega)]
    exact rs_step (rs_all hl hx j (by omega)) (hl j)
theorem sub012 {g : Nat → Option Av.Obj} {A B C : Av.Obj} (h0 : g 0 = some A) (h1 : g 1 = some B) (h2 : g 2 = some C) : OLe g (upd (upd (upd none' 0 (some A)) 1 (some B)) 2 (some C)) := OLe.put (OLe.put (OLe.at h0) h1 (OSub.refl _)) h2 (OSub.refl _)
set_option maxHeartbeats 4000000 in
theorem spanR_p (k : List Bs) (l : List Sp) (lk : LsK k) (ll : LsS l) (x : Sp) (hx : LsP x) : PCalls Try.prog 42 [encR k l, .str x.f, .str x.t] (encO (spanB k l x)) := by
  refine f42.pcalls0 (by simp) (by simp [allPure, isPure, encR_pure]) (encO_pure _) ?_
  unfold c42
  have hr := right_p k l lk ll
  unfold encR at hr
  cases hc : checkB k l with
  | false =>
    rw [hc] at hr
    repeat (first
      | ((first | apply Wp.seqItemsR | apply Wp.itemsR | ((first
          | (refine WpItems.pcall ?_ ?_ (hr) ?_; (· simp only [go_sem, reduceIte, Nat.reduceEqDiff, Nat.reduceAdd, bx]); (· simp only [go_sem, reduceIte, Nat.reduceEqDiff, Nat.reduceAdd, bx, List.map]; first | exact VSubs.refl _ | (repeat (first | exact VSubs.nil | refine VSubs.cons (by first | exact VSub.refl _ | assumption | exact VSub.cap | exact VSub.any _) ?_))))); apply WpItems.evR)); (· simp only [go_sem, reduceIte, Nat.reduceEqDiff, Nat.reduceAdd, bx, ax, if_true, if_false, Nat.reduceMul, Nat.reduceLeDiff, encR]; exact rfl))
      | (refine WpItems.nil ⟨?_, ?_⟩; (· first | trivial | simp [pairsQ, pairsOk, apart, ent0]))
      | (apply Wp.cond_lit; (· simp only [go_sem, reduceIte, Nat.reduceEqDiff, Nat.reduceAdd, bx, ax, if_true, if_false, Nat.reduceMul, Nat.reduceLeDiff, encR]; exact rfl); (· rfl))
      | refine Wp.skip ?_
      | refine Wp.label ?_
      | refine Wp.block ?_
      | refine Wp.exit ?_
      | refine Wp.seq ?_)
    refine Wp.ret ⟨trivial, _, rfl, ?_⟩
    simp only [go_sem, reduceIte, Nat.reduceEqDiff, Nat.reduceAdd, bx]
    rw [spanB, hc]; exact nil_sub 4
  | true =>
  rw [hc] at hr
  obtain ⟨b1, b2, b3, b4⟩ := check_ok hc
  have hhas := hasR_p x hx.1 hx.2
  cases hB : hasB x with
  | false =>
    rw [hB] at hhas
    have hmk : mkR l k = k := List.filter_eq_self.2 fun s hs => by rw [(ks_of b4).2 s hs]; rfl
    have hres : spanB k l x = (k, l, 0) := by
      have e : (k.filter fun x => !spanned l x) = k := hmk
      rw [spanB, if_pos hc, if_neg (by rw [hB]; exact Bool.false_ne_true), madeB, e, decide_eq_true b1, decide_eq_true b2]; rfl
    repeat (first
      | ((first | apply Wp.seqItemsR | apply Wp.itemsR | ((first
          | (refine WpItems.pcall ?_ ?_ (hr) ?_; (· simp only [go_sem, reduceIte, Nat.reduceEqDiff, Nat.reduceAdd, bx]); (· simp only [go_sem, reduceIte, Nat.reduceEqDiff, Nat.reduceAdd, bx, List.map]; first | exact VSubs.refl _ | (repeat (first | exact VSubs.nil | refine VSubs.cons (by first | exact VSub.refl _ | assumption | exact VSub.cap | exact VSub.any _) ?_))))
          | (refine WpItems.pcall ?_ ?_ (hhas) ?_; (· simp only [go_sem, reduceIte, Nat.reduceEqDiff, Nat.reduceAdd, bx]); (· simp only [go_sem, reduceIte, Nat.reduceEqDiff, Nat.reduceAdd, bx, List.map]; first | exact VSubs.refl _ | (repeat (first | exact VSubs.nil | refine VSubs.cons (by first | exact VSub.refl _ | assumption | exact VSub.cap | exact VSub.any _) ?_))))); apply WpItems.evR)); (· simp only [go_sem, reduceIte, Nat.reduceEqDiff, Nat.reduceAdd, bx, ax, if_true, if_false, Nat.reduceMul, Nat.reduceLeDiff, encR, encSp]; exact rfl))
      | (refine WpItems.nil ⟨?_, ?_⟩; (· first | trivial | simp [pairsQ, pairsOk, apart, ent0]))
      | (apply Wp.cond_lit; (· simp only [go_sem, reduceIte, Nat.reduceEqDiff, Nat.reduceAdd, bx, ax, if_true, if_false, Nat.reduceMul, Nat.reduceLeDiff, encR, encSp]; exact rfl); (· rfl))
      | refine Wp.skip ?_
      | refine Wp.label ?_
      | refine Wp.block ?_
      | refine Wp.exit ?_
      | refine Wp.seq ?_)
    refine Wp.ret ⟨trivial, _, rfl, ?_⟩
    simp only [go_sem, reduceIte, Nat.reduceEqDiff, Nat.reduceAdd, bx]
    rw [hres]; exact VSub.refl _
  | true =>
  rw [hB] at hhas
  have hall := rs_all ll hx
  repeat (first
    | ((first | apply Wp.seqItemsR | apply Wp.itemsR | ((first
        | (refine WpItems.pcall ?_ ?_ (hr) ?_; (· simp only [go_sem, reduceIte, Nat.reduceEqDiff, Nat.reduceAdd, bx]); (· simp only [go_sem, reduceIte, Nat.reduceEqDiff, Nat.reduceAdd, bx, List.map]; first | exact VSubs.refl _ | (repeat (first | exact VSubs.nil | refine VSubs.cons (by first | exact VSub.refl _ | assumption | exact VSub.cap | exact VSub.any _) ?_))))
        | (refine WpItems.pcall ?_ ?_ (hhas) ?_; (· simp only [go_sem, reduceIte, Nat.reduceEqDiff, Nat.reduceAdd, bx]); (· simp only [go_sem, reduceIte, Nat.reduceEqDiff, Nat.reduceAdd, bx, List.map]; first | exact VSubs.refl _ | (repeat (first | exact VSubs.nil | refine VSubs.cons (by first | exact VSub.refl _ | assumption | exact VSub.cap | exact VSub.any _) ?_))))); apply WpItems.evR)); (· simp only [go_sem, reduceIte, Nat.reduceEqDiff, Nat.reduceAdd, bx, ax, if_true, if_false, Nat.reduceMul, Nat.reduceLeDiff, encR, encSp]; exact rfl))
    | (refine WpItems.nil ⟨?_, ?_⟩; (· first | trivial | simp [pairsQ, pairsOk, apart, ent0]))
    | (apply Wp.cond_lit; (· simp only [go_sem, reduceIte, Nat.reduceEqDiff, Nat.reduceAdd, bx, ax, if_true, if_false, Nat.reduceMul, Nat.reduceLeDiff, encR, encSp]; exact rfl); (· rfl))
    | refine Wp.skip ?_
    | refine Wp.label ?_
    | refine Wp.block ?_
    | refine Wp.exit ?_
    | refine Wp.seq ?_)
  refine Wp.le (StLe.tok _ _) ?_
  refine Wp.le (StLe.tok _ _) ?_
  refine Wp.le (StLe.of (fun i => VSub.refl _) (sub012 (A := .cells [.sl 1 (strs k) .any, .sl 2 (sps l) .any]) (B := .cells [.sl 1 [] (.exact 0), .sl 2 [] (.exact 0)]) (C := .cells [.str x.f, .str x.t]) (by simp [upd]) (by simp [upd]) (by simp [upd])) (fun _ h => h) (Nat.le_refl _) (Nat.le_refl _)) ?_
  refine Wp.loopH (β := Nat × (Nat × Nat) × Nat × Nat) [3, 6, 8] (by simp only [go_sem, reduceIte, Nat.reduceEqDiff, List.map]; exact rfl) (fun j => [(9, .sl 2 (sps (spanR (l.take j.1) x).a) (.own j.2.1.1)), (10, .sl 2 (sps (spanR (l.take j.1) x).b) (.own j.2.1.2)), (11, .int .i64 (j.1 : Nat))]) (fun j => ⟨upd (upd (upd none' 0 (some (.cells [.sl 1 (strs k) .any, .sl 2 (sps l) .any]))) 1 (some (.cells [.sl 1 [] (.exact 0), .sl 2 [] (.exact 0)]))) 2 (some (.cells [.str (spanR (l.take j.1) x).x.f, .str (spanR (l.take j.1) x).x.t])), j.2.2.1, [j.2.1.1, j.2.1.2], j.2.2.2⟩) (fun j => j.1 ≤ l.length ∧ 3 ≤ j.2.2.1 ∧ j.2.1.1 ≠ j.2.1.2 ∧ j.2.1.1 < j.2.2.2 ∧ j.2.1.2 < j.2.2.2) (fun j => l.length - j.1) (0, (1, 0), 3, 2) ⟨Nat.zero_le _, Nat.le_refl _, by decide, by decide, by decide⟩ ?_ ?_ ?_
  · rfl
  · simp only [AllSub, go_sem, reduceIte, Nat.reduceEqDiff, Nat.reduceAdd, bx, List.take_zero]; and_intros <;> first | exact trivial | exact VSub.refl _ | exact VSub.any _ | exact VSub.own_of rfl | (refine VSub.int ?_; omega)
  rintro ⟨j, ⟨ta, tb⟩, n, m⟩ ⟨hj, hn, htt, hta, htb⟩
  simp only at hj hn htt hta htb ⊢
  have hro := hall j hj
  by_cases hcj : j < l.length
  · have g1 : decide (((j : Nat) : Int) < ((l.length : Nat) : Int)) = true := decide_eq_true (by omega)
    have h2 : (0 : Int) ≤ ((j : Nat) : Int) := by omega
    have h3 : ((j : Nat) : Int) < ((l.length : Nat) : Int) := by omega
    have e1 : IntKind.i64.wrap (((j : Nat) : Int) + 1) = ((j + 1 : Nat) : Int) := by rw [IntWalk.i64_in _ (by omega)]; omega
    have hat := sps_getD l j .any hcj
    have hy : LsP (l.getD j default) := ll j
    have hsn := rs_snoc l x hcj
    generalize hR1 : spanR (l.take (j + 1)) x = R1 at *
    generalize spanR (l.take j) x = R at *
    generalize l.getD j default = y at *
    have a0 : (0 = n) = False := eq_false (by omega)
    have a1 : (1 = n) = False := eq_false (by omega)
    have a2 : (2 = n) = False := eq_false (by omega)
    have a3 : (n = 0) = False := eq_false (by omega)
    have a4 : (n = 1) = False := eq_false (by omega)
    have a5 : (n = 2) = False := eq_false (by omega)
    have ft1 : (ta = tb) = False := eq_false htt
    have ft2 : (tb = ta) = False := eq_false (fun e => htt e.symm)
    have hrn := hro.n
    have r1 : (R.a.length + 1) * 32 ≤ 140737488355328 := by omega
    have r2 : R.a.length + 1 < 4611686018427387904 := by omega
    have r3 : (R.b.length + 1) * 32 ≤ 140737488355328 := by omega
    have r4 : R.b.length + 1 < 4611686018427387904 := by omega
    have hp1 := apartR_p y R.x hy.2 hro.x.1
    have hp2 := apartR_p R.x y hro.x.2 hy.1
    have hbf := below_p y.f R.x.f hy.1 hro.x.1
    have hbt := below_p R.x.t y.t hro.x.2 hy.2
    unfold encSp at hp1 hp2
    have sn : ∀ (o : List Sp) (s : Sp), sps o ++ [.agg [.str s.f, .str s.t]] = sps (o ++ [s]) := fun o s => by simp [sps, encSp]
    cases c1 : apartB y R.x with
    | true =>
      rw [c1] at hp1
      have hst : R1 = ⟨R.x, R.a ++ [y], R.b⟩ := by rw [hsn]; unfold stepR; rw [c1]; simp
      repeat (first
        | ((first | apply Wp.seqItemsR | apply Wp.itemsR | ((first
            | (refine WpItems.pcall ?_ ?_ (hp1) ?_; (· simp only [go_sem, reduceIte, Nat.reduceEqDiff, Nat.reduceAdd, bx]); (· simp only [go_sem, reduceIte, Nat.reduceEqDiff, Nat.reduceAdd, bx, List.map]; first | exact VSubs.refl _ | (repeat (first | exact VSubs.nil | refine VSubs.cons (by first | exact VSub.refl _ | assumption | exact VSub.cap | exact VSub.any _) ?_))))); apply WpItems.evR)); (· simp only [go_sem, reduceIte, Nat.reduceEqDiff, Nat.reduceAdd, bx, ax, if_true, if_false, Nat.reduceMul, Nat.reduceLeDiff, g1, h2, h3, e1, sps_length, hat, encSp, a0, a1, a2, a3, a4, a5, ft1, ft2, List.length_cons, List.length_nil, Nat.zero_add, r1, r2, r3, r4]; exact rfl))
        | (refine WpItems.nil ⟨?_, ?_⟩; (· first | trivial | simp [pairsQ, pairsOk, apart, ent0]))
        | (apply Wp.cond_lit; (· simp only [go_sem, reduceIte, Nat.reduceEqDiff, Nat.reduceAdd, bx, ax, if_true, if_false, Nat.reduceMul, Nat.reduceLeDiff, g1, h2, h3, e1, sps_length, hat, encSp, a0, a1, a2, a3, a4, a5, ft1, ft2, List.length_cons, List.length_nil, Nat.zero_add, r1, r2, r3, r4]; exact rfl); (· rfl))
        | refine Wp.skip ?_
        | refine Wp.label ?_
        | refine Wp.block ?_
        | refine Wp.exit ?_
        | refine Wp.seq ?_)
      refine ⟨(j + 1, (m, tb), n + 1, m + 1), ⟨by simp only; omega, by simp only; omega, by simp only; omega, by simp only; omega, by simp only; omega⟩, by simp only; omega, ?_⟩
      simp only [hR1, hst]
      refine StLe.of (tm_le ?_) (sub012 (by simp [upd, a0, a1, a2, a3, a4, a5]) (by simp [upd, a0, a1, a2, a3, a4, a5]) (by simp [upd, a0, a1, a2, a3, a4, a5])) (fun u hu => by first | exact hu | (simp at hu ⊢; omega)) (by simp) (by simp)
      simp only [AllSub, go_sem, reduceIte, Nat.reduceEqDiff, Nat.reduceAdd, bx]; and_intros <;> first | exact trivial | exact VSub.refl _ | exact VSub.any _ | exact VSub.of_eq (by rw [sn]) | (refine VSub.int ?_; omega)
    | false =>
    rw [c1] at hp1
    cases c2 : apartB R.x y with
    | true =>
      rw [c2] at hp2
      have hst : R1 = ⟨R.x, R.a, R.b ++ [y]⟩ := by rw [hsn]; unfold stepR; rw [c1, c2]; simp
      repeat (first
        | ((first | apply Wp.seqItemsR | apply Wp.itemsR | ((first
            | (refine WpItems.pcall ?_ ?_ (hp1) ?_; (· simp only [go_sem, reduceIte, Nat.reduceEqDiff, Nat.reduceAdd, bx]); (· simp only [go_sem, reduceIte, Nat.reduceEqDiff, Nat.reduceAdd, bx, List.map]; first | exact VSubs.refl _ | (repeat (first | exact VSubs.nil | refine VSubs.cons (by first | exact VSub.refl _ | assumption | exact VSub.cap | exact VSub.any _) ?_))))
            | (refine WpItems.pcall ?_ ?_ (hp2) ?_; (· simp only [go_sem, reduceIte, Nat.reduceEqDiff, Nat.reduceAdd, bx]); (· simp only [go_sem, reduceIte, Nat.reduceEqDiff, Nat.reduceAdd, bx, List.map]; first | exact VSubs.refl _ | (repeat (first | exact VSubs.nil | refine VSubs.cons (by first | exact VSub.refl _ | assumption | exact VSub.cap | exact VSub.any _) ?_))))); apply WpItems.evR)); (· simp only [go_sem, reduceIte, Nat.reduceEqDiff, Nat.reduceAdd, bx, ax, if_true, if_false, Nat.reduceMul, Nat.reduceLeDiff, g1, h2, h3, e1, sps_length, hat, encSp, a0, a1, a2, a3, a4, a5, ft1, ft2, List.length_cons, List.length_nil, Nat.zero_add, r1, r2, r3, r4]; exact rfl))
        | (refine WpItems.nil ⟨?_, ?_⟩; (· first | trivial | simp [pairsQ, pairsOk, apart, ent0]))
        | (apply Wp.cond_lit; (· simp only [go_sem, reduceIte, Nat.reduceEqDiff, Nat.reduceAdd, bx, ax, if_true, if_false, Nat.reduceMul, Nat.reduceLeDiff, g1, h2, h3, e1, sps_length, hat, encSp, a0, a1, a2, a3, a4, a5, ft1, ft2, List.length_cons, List.length_nil, Nat.zero_add, r1, r2, r3, r4]; exact rfl); (· rfl))
        | refine Wp.skip ?_
        | refine Wp.label ?_
        | refine Wp.block ?_
        | refine Wp.exit ?_
        | refine Wp.seq ?_)
      refine ⟨(j + 1, (ta, m), n + 1, m + 1), ⟨by simp only; omega, by simp only; omega, by simp only; omega, by simp only; omega, by simp only; omega⟩, by simp only; omega, ?_⟩
      simp only [hR1, hst]
      refine StLe.of (tm_le ?_) (sub012 (by simp [upd, a0, a1, a2, a3, a4, a5]) (by simp [upd, a0, a1, a2, a3, a4, a5]) (by simp [upd, a0, a1, a2, a3, a4, a5])) (fun u hu => by first | exact hu | (simp at hu ⊢; omega)) (by simp) (by simp)
      simp only [AllSub, go_sem, reduceIte, Nat.reduceEqDiff, Nat.reduceAdd, bx]; and_intros <;> first | exact trivial | exact VSub.refl _ | exact VSub.any _ | exact VSub.of_eq (by rw [sn]) | (refine VSub.int ?_; omega)
    | false =>
    rw [c2] at hp2
    have hst : R1 = ⟨joinR R.x y, R.a, R.b⟩ := by rw [hsn]; unfold stepR; rw [c1, c2]; simp
    have hL : Op.bytesLess y.f R.x.f = true ∨ Op.bytesLess y.f R.x.f = false := by cases Op.bytesLess y.f R.x.f <;> simp
    rcases hL with L1E | L1E
    · rw [L1E] at hbf
      by_cases p1 : y.t = []
      · have d1 := decide_eq_true p1
        repeat (first
          | ((first | apply Wp.seqItemsR | apply Wp.itemsR | ((first
              | (refine WpItems.pcall ?_ ?_ (hp1) ?_; (· simp only [go_sem, reduceIte, Nat.reduceEqDiff, Nat.reduceAdd, bx]); (· simp only [go_sem, reduceIte, Nat.reduceEqDiff, Nat.reduceAdd, bx, List.map]; first | exact VSubs.refl _ | (repeat (first | exact VSubs.nil | refine VSubs.cons (by first | exact VSub.refl _ | assumption | exact VSub.cap | exact VSub.any _) ?_))))
              | (refine WpItems.pcall ?_ ?_ (hp2) ?_; (· simp only [go_sem, reduceIte, Nat.reduceEqDiff, Nat.reduceAdd, bx]); (· simp only [go_sem, reduceIte, Nat.reduceEqDiff, Nat.reduceAdd, bx, List.map]; first | exact VSubs.refl _ | (repeat (first | exact VSubs.nil | refine VSubs.cons (by first | exact VSub.refl _ | assumption | exact VSub.cap | exact VSub.any _) ?_))))
              | (refine WpItems.pcall ?_ ?_ (hbf) ?_; (· simp only [go_sem, reduceIte, Nat.reduceEqDiff, Nat.reduceAdd, bx]); (· simp only [go_sem, reduceIte, Nat.reduceEqDiff, Nat.reduceAdd, bx, List.map]; first | exact VSubs.refl _ | (repeat (first | exact VSubs.nil | refine VSubs.cons (by first | exact VSub.refl _ | assumption | exact VSub.cap | exact VSub.any _) ?_))))
              | (refine WpItems.pcall ?_ ?_ (hbt) ?_; (· simp only [go_sem, reduceIte, Nat.reduceEqDiff, Nat.reduceAdd, bx]); (· simp only [go_sem, reduceIte, Nat.reduceEqDiff, Nat.reduceAdd, bx, List.map]; first | exact VSubs.refl _ | (repeat (first | exact VSubs.nil | refine VSubs.cons (by first | exact VSub.refl _ | assumption | exact VSub.cap | exact VSub.any _) ?_))))); apply WpItems.evR)); (· simp only [go_sem, reduceIte, Nat.reduceEqDiff, Nat.reduceAdd, bx, ax, if_true, if_false, Nat.reduceMul, Nat.reduceLeDiff, g1, h2, h3, e1, sps_length, hat, encSp, a0, a1, a2, a3, a4, a5, ft1, ft2, List.length_cons, List.length_nil, Nat.zero_add, r1, r2, r3, r4, d1]; exact rfl))
          | (refine WpItems.nil ⟨?_, ?_⟩; (· first | trivial | simp [pairsQ, pairsOk, apart, ent0]))
          | (apply Wp.cond_lit; (· simp only [go_sem, reduceIte, Nat.reduceEqDiff, Nat.reduceAdd, bx, ax, if_true, if_false, Nat.reduceMul, Nat.reduceLeDiff, g1, h2, h3, e1, sps_length, hat, encSp, a0, a1, a2, a3, a4, a5, ft1, ft2, List.length_cons, List.length_nil, Nat.zero_add, r1, r2, r3, r4, d1]; exact rfl); (· rfl))
          | refine Wp.skip ?_
          | refine Wp.label ?_
          | refine Wp.block ?_
          | refine Wp.exit ?_
          | refine Wp.seq ?_)
        refine ⟨(j + 1, (ta, tb), n + 1, m), ⟨by simp only; omega, by simp only; omega, by simp only; omega, by simp only; omega, by simp only; omega⟩, by simp only; omega, ?_⟩
        have hj2 : joinR R.x y = ⟨y.f, y.t⟩ := by unfold joinR; simp [L1E, p1]
        simp only [hR1, hst, hj2]
        refine StLe.of (tm_le ?_) (sub012 (by simp [upd, a0, a1, a2, a3, a4, a5]) (by simp [upd, a0, a1, a2, a3, a4, a5]) (by simp [upd, a0, a1, a2, a3, a4, a5])) (fun u hu => by first | exact hu | (simp at hu ⊢; omega)) (by simp) (by simp)
        simp only [AllSub, go_sem, reduceIte, Nat.reduceEqDiff, Nat.reduceAdd, bx]; and_intros <;> first | exact trivial | exact VSub.refl _ | exact VSub.any _ | (refine VSub.int ?_; omega)
      have d1 := decide_eq_false p1
      by_cases p2 : R.x.t = []
      · have d2 := decide_eq_true p2
        repeat (first
          | ((first | apply Wp.seqItemsR | apply Wp.itemsR | ((first
              | (refine WpItems.pcall ?_ ?_ (hp1) ?_; (· simp only [go_sem, reduceIte, Nat.reduceEqDiff, Nat.reduceAdd, bx]); (· simp only [go_sem, reduceIte, Nat.reduceEqDiff, Nat.reduceAdd, bx, List.map]; first | exact VSubs.refl _ | (repeat (first | exact VSubs.nil | refine VSubs.cons (by first | exact VSub.refl _ | assumption | exact VSub.cap | exact VSub.any _) ?_))))
              | (refine WpItems.pcall ?_ ?_ (hp2) ?_; (· simp only [go_sem, reduceIte, Nat.reduceEqDiff, Nat.reduceAdd, bx]); (· simp only [go_sem, reduceIte, Nat.reduceEqDiff, Nat.reduceAdd, bx, List.map]; first | exact VSubs.refl _ | (repeat (first | exact VSubs.nil | refine VSubs.cons (by first | exact VSub.refl _ | assumption | exact VSub.cap | exact VSub.any _) ?_))))
              | (refine WpItems.pcall ?_ ?_ (hbf) ?_; (· simp only [go_sem, reduceIte, Nat.reduceEqDiff, Nat.reduceAdd, bx]); (· simp only [go_sem, reduceIte, Nat.reduceEqDiff, Nat.reduceAdd, bx, List.map]; first | exact VSubs.refl _ | (repeat (first | exact VSubs.nil | refine VSubs.cons (by first | exact VSub.refl _ | assumption | exact VSub.cap | exact VSub.any _) ?_))))
              | (refine WpItems.pcall ?_ ?_ (hbt) ?_; (· simp only [go_sem, reduceIte, Nat.reduceEqDiff, Nat.reduceAdd, bx]); (· simp only [go_sem, reduceIte, Nat.reduceEqDiff, Nat.reduceAdd, bx, List.map]; first | exact VSubs.refl _ | (repeat (first | exact VSubs.nil | refine VSubs.cons (by first | exact VSub.refl _ | assumption | exact VSub.cap | exact VSub.any _) ?_))))); apply WpItems.evR)); (· simp only [go_sem, reduceIte, Nat.reduceEqDiff, Nat.reduceAdd, bx, ax, if_true, if_false, Nat.reduceMul, Nat.reduceLeDiff, g1, h2, h3, e1, sps_length, hat, encSp, a0, a1, a2, a3, a4, a5, ft1, ft2, List.length_cons, List.length_nil, Nat.zero_add, r1, r2, r3, r4, d1, d2]; exact rfl))
          | (refine WpItems.nil ⟨?_, ?_⟩; (· first | trivial | simp [pairsQ, pairsOk, apart, ent0]))
          | (apply Wp.cond_lit; (· simp only [go_sem, reduceIte, Nat.reduceEqDiff, Nat.reduceAdd, bx, ax, if_true, if_false, Nat.reduceMul, Nat.reduceLeDiff, g1, h2, h3, e1, sps_length, hat, encSp, a0, a1, a2, a3, a4, a5, ft1, ft2, List.length_cons, List.length_nil, Nat.zero_add, r1, r2, r3, r4, d1, d2]; exact rfl); (· rfl))
          | refine Wp.skip ?_
          | refine Wp.label ?_
          | refine Wp.block ?_
          | refine Wp.exit ?_
          | refine Wp.seq ?_)
        refine ⟨(j + 1, (ta, tb), n + 1, m), ⟨by simp only; omega, by simp only; omega, by simp only; omega, by simp only; omega, by simp only; omega⟩, by simp only; omega, ?_⟩
        have hj2 : joinR R.x y = ⟨y.f, R.x.t⟩ := by unfold joinR; simp [L1E, p1, p2]
        simp only [hR1, hst, hj2]
        refine StLe.of (tm_le ?_) (sub012 (by simp [upd, a0, a1, a2, a3, a4, a5]) (by simp [upd, a0, a1, a2, a3, a4, a5]) (by simp [upd, a0, a1, a2, a3, a4, a5])) (fun u hu => by first | exact hu | (simp at hu ⊢; omega)) (by simp) (by simp)
        simp only [AllSub, go_sem, reduceIte, Nat.reduceEqDiff, Nat.reduceAdd, bx]; and_intros <;> first | exact trivial | exact VSub.refl _ | exact VSub.any _ | (refine VSub.int ?_; omega)
      have d2 := decide_eq_false p2
      cases p3 : Op.bytesLess R.x.t y.t with
      | true =>
        rw [p3] at hbt
        repeat (first
          | ((first | apply Wp.seqItemsR | apply Wp.itemsR | ((first
              | (refine WpItems.pcall ?_ ?_ (hp1) ?_; (· simp only [go_sem, reduceIte, Nat.reduceEqDiff, Nat.reduceAdd, bx]); (· simp only [go_sem, reduceIte, Nat.reduceEqDiff, Nat.reduceAdd, bx, List.map]; first | exact VSubs.refl _ | (repeat (first | exact VSubs.nil | refine VSubs.cons (by first | exact VSub.refl _ | assumption | exact VSub.cap | exact VSub.any _) ?_))))
              | (refine WpItems.pcall ?_ ?_ (hp2) ?_; (· simp only [go_sem, reduceIte, Nat.reduceEqDiff, Nat.reduceAdd, bx]); (· simp only [go_sem, reduceIte, Nat.reduceEqDiff, Nat.reduceAdd, bx, List.map]; first | exact VSubs.refl _ | (repeat (first | exact VSubs.nil | refine VSubs.cons (by first | exact VSub.refl _ | assumption | exact VSub.cap | exact VSub.any _) ?_))))
              | (refine WpItems.pcall ?_ ?_ (hbf) ?_; (· simp only [go_sem, reduceIte, Nat.reduceEqDiff, Nat.reduceAdd, bx]); (· simp only [go_sem, reduceIte, Nat.reduceEqDiff, Nat.reduceAdd, bx, List.map]; first | exact VSubs.refl _ | (repeat (first | exact VSubs.nil | refine VSubs.cons (by first | exact VSub.refl _ | assumption | exact VSub.cap | exact VSub.any _) ?_))))
              | (refine WpItems.pcall ?_ ?_ (hbt) ?_; (· simp only [go_sem, reduceIte, Nat.reduceEqDiff, Nat.reduceAdd, bx]); (· simp only [go_sem, reduceIte, Nat.reduceEqDiff, Nat.reduceAdd, bx, List.map]; first | exact VSubs.refl _ | (repeat (first | exact VSubs.nil | refine VSubs.cons (by first | exact VSub.refl _ | assumption | exact VSub.cap | exact VSub.any _) ?_))))); apply WpItems.evR)); (· simp only [go_sem, reduceIte, Nat.reduceEqDiff, Nat.reduceAdd, bx, ax, if_true, if_false, Nat.reduceMul, Nat.reduceLeDiff, g1, h2, h3, e1, sps_length, hat, encSp, a0, a1, a2, a3, a4, a5, ft1, ft2, List.length_cons, List.length_nil, Nat.zero_add, r1, r2, r3, r4, d1, d2]; exact rfl))
          | (refine WpItems.nil ⟨?_, ?_⟩; (· first | trivial | simp [pairsQ, pairsOk, apart, ent0]))
          | (apply Wp.cond_lit; (· simp only [go_sem, reduceIte, Nat.reduceEqDiff, Nat.reduceAdd, bx, ax, if_true, if_false, Nat.reduceMul, Nat.reduceLeDiff, g1, h2, h3, e1, sps_length, hat, encSp, a0, a1, a2, a3, a4, a5, ft1, ft2, List.length_cons, List.length_nil, Nat.zero_add, r1, r2, r3, r4, d1, d2]; exact rfl); (· rfl))
          | refine Wp.skip ?_
          | refine Wp.label ?_
          | refine Wp.block ?_
          | refine Wp.exit ?_
          | refine Wp.seq ?_)
        refine ⟨(j + 1, (ta, tb), n + 1, m), ⟨by simp only; omega, by simp only; omega, by simp only; omega, by simp only; omega, by simp only; omega⟩, by simp only; omega, ?_⟩
        have hj2 : joinR R.x y = ⟨y.f, y.t⟩ := by unfold joinR; simp [L1E, p1, p2, p3]
        simp only [hR1, hst, hj2]
        refine StLe.of (tm_le ?_) (sub012 (by simp [upd, a0, a1, a2, a3, a4, a5]) (by simp [upd, a0, a1, a2, a3, a4, a5]) (by simp [upd, a0, a1, a2, a3, a4, a5])) (fun u hu => by first | exact hu | (simp at hu ⊢; omega)) (by simp) (by simp)
        simp only [AllSub, go_sem, reduceIte, Nat.reduceEqDiff, Nat.reduceAdd, bx]; and_intros <;> first | exact trivial | exact VSub.refl _ | exact VSub.any _ | (refine VSub.int ?_; omega)
      | false =>
        rw [p3] at hbt
        repeat (first
          | ((first | apply Wp.seqItemsR | apply Wp.itemsR | ((first
              | (refine WpItems.pcall ?_ ?_ (hp1) ?_; (· simp only [go_sem, reduceIte, Nat.reduceEqDiff, Nat.reduceAdd, bx]); (· simp only [go_sem, reduceIte, Nat.reduceEqDiff, Nat.reduceAdd, bx, List.map]; first | exact VSubs.refl _ | (repeat (first | exact VSubs.nil | refine VSubs.cons (by first | exact VSub.refl _ | assumption | exact VSub.cap | exact VSub.any _) ?_))))
              | (refine WpItems.pcall ?_ ?_ (hp2) ?_; (· simp only [go_sem, reduceIte, Nat.reduceEqDiff, Nat.reduceAdd, bx]); (· simp only [go_sem, reduceIte, Nat.reduceEqDiff, Nat.reduceAdd, bx, List.map]; first | exact VSubs.refl _ | (repeat (first | exact VSubs.nil | refine VSubs.cons (by first | exact VSub.refl _ | assumption | exact VSub.cap | exact VSub.any _) ?_))))
              | (refine WpItems.pcall ?_ ?_ (hbf) ?_; (· simp only [go_sem, reduceIte, Nat.reduceEqDiff, Nat.reduceAdd, bx]); (· simp only [go_sem, reduceIte, Nat.reduceEqDiff, Nat.reduceAdd, bx, List.map]; first | exact VSubs.refl _ | (repeat (first | exact VSubs.nil | refine VSubs.cons (by first | exact VSub.refl _ | assumption | exact VSub.cap | exact VSub.any _) ?_))))
              | (refine WpItems.pcall ?_ ?_ (hbt) ?_; (· simp only [go_sem, reduceIte, Nat.reduceEqDiff, Nat.reduceAdd, bx]); (· simp only [go_sem, reduceIte, Nat.reduceEqDiff, Nat.reduceAdd, bx, List.map]; first | exact VSubs.refl _ | (repeat (first | exact VSubs.nil | refine VSubs.cons (by first | exact VSub.refl _ | assumption | exact VSub.cap | exact VSub.any _) ?_))))); apply WpItems.evR)); (· simp only [go_sem, reduceIte, Nat.reduceEqDiff, Nat.reduceAdd, bx, ax, if_true, if_false, Nat.reduceMul, Nat.reduceLeDiff, g1, h2, h3, e1, sps_length, hat, encSp, a0, a1, a2, a3, a4, a5, ft1, ft2, List.length_cons, List.length_nil, Nat.zero_add, r1, r2, r3, r4, d1, d2]; exact rfl))
          | (refine WpItems.nil ⟨?_, ?_⟩; (· first | trivial | simp [pairsQ, pairsOk, apart, ent0]))
          | (apply Wp.cond_lit; (· simp only [go_sem, reduceIte, Nat.reduceEqDiff, Nat.reduceAdd, bx, ax, if_true, if_false, Nat.reduceMul, Nat.reduceLeDiff, g1, h2, h3, e1, sps_length, hat, encSp, a0, a1, a2, a3, a4, a5, ft1, ft2, List.length_cons, List.length_nil, Nat.zero_add, r1, r2, r3, r4, d1, d2]; exact rfl); (· rfl))
          | refine Wp.skip ?_
          | refine Wp.label ?_
          | refine Wp.block ?_
          | refine Wp.exit ?_
          | refine Wp.seq ?_)
        refine ⟨(j + 1, (ta, tb), n + 1, m), ⟨by simp only; omega, by simp only; omega, by simp only; omega, by simp only; omega, by simp only; omega⟩, by simp only; omega, ?_⟩
        have hj2 : joinR R.x y = ⟨y.f, R.x.t⟩ := by unfold joinR; simp [L1E, p1, p2, p3]
        simp only [hR1, hst, hj2]
        refine StLe.of (tm_le ?_) (sub012 (by simp [upd, a0, a1, a2, a3, a4, a5]) (by simp [upd, a0, a1, a2, a3, a4, a5]) (by simp [upd, a0, a1, a2, a3, a4, a5])) (fun u hu => by first | exact hu | (simp at hu ⊢; omega)) (by simp) (by simp)
        simp only [AllSub, go_sem, reduceIte, Nat.reduceEqDiff, Nat.reduceAdd, bx]; and_intros <;> first | exact trivial | exact VSub.refl _ | exact VSub.any _ | (refine VSub.int ?_; omega)
    · rw [L1E] at hbf
      by_cases p1 : y.t = []
      · have d1 := decide_eq_true p1
        repeat (first
          | ((first | apply Wp.seqItemsR | apply Wp.itemsR | ((first
              | (refine WpItems.pcall ?_ ?_ (hp1) ?_; (· simp only [go_sem, reduceIte, Nat.reduceEqDiff, Nat.reduceAdd, bx]); (· simp only [go_sem, reduceIte, Nat.reduceEqDiff, Nat.reduceAdd, bx, List.map]; first | exact VSubs.refl _ | (repeat (first | exact VSubs.nil | refine VSubs.cons (by first | exact VSub.refl _ | assumption | exact VSub.cap | exact VSub.any _) ?_))))
              | (refine WpItems.pcall ?_ ?_ (hp2) ?_; (· simp only [go_sem, reduceIte, Nat.reduceEqDiff, Nat.reduceAdd, bx]); (· simp only [go_sem, reduceIte, Nat.reduceEqDiff, Nat.reduceAdd, bx, List.map]; first | exact VSubs.refl _ | (repeat (first | exact VSubs.nil | refine VSubs.cons (by first | exact VSub.refl _ | assumption | exact VSub.cap | exact VSub.any _) ?_))))
              | (refine WpItems.pcall ?_ ?_ (hbf) ?_; (· simp only [go_sem, reduceIte, Nat.reduceEqDiff, Nat.reduceAdd, bx]); (· simp only [go_sem, reduceIte, Nat.reduceEqDiff, Nat.reduceAdd, bx, List.map]; first | exact VSubs.refl _ | (repeat (first | exact VSubs.nil | refine VSubs.cons (by first | exact VSub.refl _ | assumption | exact VSub.cap | exact VSub.any _) ?_))))
              | (refine WpItems.pcall ?_ ?_ (hbt) ?_; (· simp only [go_sem, reduceIte, Nat.reduceEqDiff, Nat.reduceAdd, bx]); (· simp only [go_sem, reduceIte, Nat.reduceEqDiff, Nat.reduceAdd, bx, List.map]; first | exact VSubs.refl _ | (repeat (first | exact VSubs.nil | refine VSubs.cons (by first | exact VSub.refl _ | assumption | exact VSub.cap | exact VSub.any _) ?_))))); apply WpItems.evR)); (· simp only [go_sem, reduceIte, Nat.reduceEqDiff, Nat.reduceAdd, bx, ax, if_true, if_false, Nat.reduceMul, Nat.reduceLeDiff, g1, h2, h3, e1, sps_length, hat, encSp, a0, a1, a2, a3, a4, a5, ft1, ft2, List.length_cons, List.length_nil, Nat.zero_add, r1, r2, r3, r4, d1]; exact rfl))
          | (refine WpItems.nil ⟨?_, ?_⟩; (· first | trivial | simp [pairsQ, pairsOk, apart, ent0]))
          | (apply Wp.cond_lit; (· simp only [go_sem, reduceIte, Nat.reduceEqDiff, Nat.reduceAdd, bx, ax, if_true, if_false, Nat.reduceMul, Nat.reduceLeDiff, g1, h2, h3, e1, sps_length, hat, encSp, a0, a1, a2, a3, a4, a5, ft1, ft2, List.length_cons, List.length_nil, Nat.zero_add, r1, r2, r3, r4, d1]; exact rfl); (· rfl))
          | refine Wp.skip ?_
          | refine Wp.label ?_
          | refine Wp.block ?_
          | refine Wp.exit ?_
          | refine Wp.seq ?_)
        refine ⟨(j + 1, (ta, tb), n + 1, m), ⟨by simp only; omega, by simp only; omega, by simp only; omega, by simp only; omega, by simp only; omega⟩, by simp only; omega, ?_⟩
        have hj2 : joinR R.x y = ⟨R.x.f, y.t⟩ := by unfold joinR; simp [L1E, p1]
        simp only [hR1, hst, hj2]
        refine StLe.of (tm_le ?_) (sub012 (by simp [upd, a0, a1, a2, a3, a4, a5]) (by simp [upd, a0, a1, a2, a3, a4, a5]) (by simp [upd, a0, a1, a2, a3, a4, a5])) (fun u hu => by first | exact hu | (simp at hu ⊢; omega)) (by simp) (by simp)
        simp only [AllSub, go_sem, reduceIte, Nat.reduceEqDiff, Nat.reduceAdd, bx]; and_intros <;> first | exact trivial | exact VSub.refl _ | exact VSub.any _ | (refine VSub.int ?_; omega)
      have d1 := decide_eq_false p1
      by_cases p2 : R.x.t = []
      · have d2 := decide_eq_true p2
        repeat (first
          | ((first | apply Wp.seqItemsR | apply Wp.itemsR | ((first
              | (refine WpItems.pcall ?_ ?_ (hp1) ?_; (· simp only [go_sem, reduceIte, Nat.reduceEqDiff, Nat.reduceAdd, bx]); (· simp only [go_sem, reduceIte, Nat.reduceEqDiff, Nat.reduceAdd, bx, List.map]; first | exact VSubs.refl _ | (repeat (first | exact VSubs.nil | refine VSubs.cons (by first | exact VSub.refl _ | assumption | exact VSub.cap | exact VSub.any _) ?_))))
              | (refine WpItems.pcall ?_ ?_ (hp2) ?_; (· simp only [go_sem, reduceIte, Nat.reduceEqDiff, Nat.reduceAdd, bx]); (· simp only [go_sem, reduceIte, Nat.reduceEqDiff, Nat.reduceAdd, bx, List.map]; first | exact VSubs.refl _ | (repeat (first | exact VSubs.nil | refine VSubs.cons (by first | exact VSub.refl _ | assumption | exact VSub.cap | exact VSub.any _) ?_))))
              | (refine WpItems.pcall ?_ ?_ (hbf) ?_; (· simp only [go_sem, reduceIte, Nat.reduceEqDiff, Nat.reduceAdd, bx]); (· simp only [go_sem, reduceIte, Nat.reduceEqDiff, Nat.reduceAdd, bx, List.map]; first | exact VSubs.refl _ | (repeat (first | exact VSubs.nil | refine VSubs.cons (by first | exact VSub.refl _ | assumption | exact VSub.cap | exact VSub.any _) ?_))))
              | (refine WpItems.pcall ?_ ?_ (hbt) ?_; (· simp only [go_sem, reduceIte, Nat.reduceEqDiff, Nat.reduceAdd, bx]); (· simp only [go_sem, reduceIte, Nat.reduceEqDiff, Nat.reduceAdd, bx, List.map]; first | exact VSubs.refl _ | (repeat (first | exact VSubs.nil | refine VSubs.cons (by first | exact VSub.refl _ | assumption | exact VSub.cap | exact VSub.any _) ?_))))); apply WpItems.evR)); (· simp only [go_sem, reduceIte, Nat.reduceEqDiff, Nat.reduceAdd, bx, ax, if_true, if_false, Nat.reduceMul, Nat.reduceLeDiff, g1, h2, h3, e1, sps_length, hat, encSp, a0, a1, a2, a3, a4, a5, ft1, ft2, List.length_cons, List.length_nil, Nat.zero_add, r1, r2, r3, r4, d1, d2]; exact rfl))
          | (refine WpItems.nil ⟨?_, ?_⟩; (· first | trivial | simp [pairsQ, pairsOk, apart, ent0]))
          | (apply Wp.cond_lit; (· simp only [go_sem, reduceIte, Nat.reduceEqDiff, Nat.reduceAdd, bx, ax, if_true, if_false, Nat.reduceMul, Nat.reduceLeDiff, g1, h2, h3, e1, sps_length, hat, encSp, a0, a1, a2, a3, a4, a5, ft1, ft2, List.length_cons, List.length_nil, Nat.zero_add, r1, r2, r3, r4, d1, d2]; exact rfl); (· rfl))
          | refine Wp.skip ?_
          | refine Wp.label ?_
          | refine Wp.block ?_
          | refine Wp.exit ?_
          | refine Wp.seq ?_)
        refine ⟨(j + 1, (ta, tb), n + 1, m), ⟨by simp only; omega, by simp only; omega, by simp only; omega, by simp only; omega, by simp only; omega⟩, by simp only; omega, ?_⟩
        have hj2 : joinR R.x y = ⟨R.x.f, R.x.t⟩ := by unfold joinR; simp [L1E, p1, p2]
        simp only [hR1, hst, hj2]
        refine StLe.of (tm_le ?_) (sub012 (by simp [upd, a0, a1, a2, a3, a4, a5]) (by simp [upd, a0, a1, a2, a3, a4, a5]) (by simp [upd, a0, a1, a2, a3, a4, a5])) (fun u hu => by first | exact hu | (simp at hu ⊢; omega)) (by simp) (by simp)
        simp only [AllSub, go_sem, reduceIte, Nat.reduceEqDiff, Nat.reduceAdd, bx]; and_intros <;> first | exact trivial | exact VSub.refl _ | exact VSub.any _ | (refine VSub.int ?_; omega)
      have d2 := decide_eq_false p2
      cases p3 : Op.bytesLess R.x.t y.t with
      | true =>
        rw [p3] at hbt
        repeat (first
          | ((first | apply Wp.seqItemsR | apply Wp.itemsR | ((first
              | (refine WpItems.pcall ?_ ?_ (hp1) ?_; (· simp only [go_sem, reduceIte, Nat.reduceEqDiff, Nat.reduceAdd, bx]); (· simp only [go_sem, reduceIte, Nat.reduceEqDiff, Nat.reduceAdd, bx, List.map]; first | exact VSubs.refl _ | (repeat (first | exact VSubs.nil | refine VSubs.cons (by first | exact VSub.refl _ | assumption | exact VSub.cap | exact VSub.any _) ?_))))
              | (refine WpItems.pcall ?_ ?_ (hp2) ?_; (· simp only [go_sem, reduceIte, Nat.reduceEqDiff, Nat.reduceAdd, bx]); (· simp only [go_sem, reduceIte, Nat.reduceEqDiff, Nat.reduceAdd, bx, List.map]; first | exact VSubs.refl _ | (repeat (first | exact VSubs.nil | refine VSubs.cons (by first | exact VSub.refl _ | assumption | exact VSub.cap | exact VSub.any _) ?_))))
              | (refine WpItems.pcall ?_ ?_ (hbf) ?_; (· simp only [go_sem, reduceIte, Nat.reduceEqDiff, Nat.reduceAdd, bx]); (· simp only [go_sem, reduceIte, Nat.reduceEqDiff, Nat.reduceAdd, bx, List.map]; first | exact VSubs.refl _ | (repeat (first | exact VSubs.nil | refine VSubs.cons (by first | exact VSub.refl _ | assumption | exact VSub.cap | exact VSub.any _) ?_))))
              | (refine WpItems.pcall ?_ ?_ (hbt) ?_; (· simp only [go_sem, reduceIte, Nat.reduceEqDiff, Nat.reduceAdd, bx]); (· simp only [go_sem, reduceIte, Nat.reduceEqDiff, Nat.reduceAdd, bx, List.map]; first | exact VSubs.refl _ | (repeat (first | exact VSubs.nil | refine VSubs.cons (by first | exact VSub.refl _ | assumption | exact VSub.cap | exact VSub.any _) ?_))))); apply WpItems.evR)); (· simp only [go_sem, reduceIte, Nat.reduceEqDiff, Nat.reduceAdd, bx, ax, if_true, if_false, Nat.reduceMul, Nat.reduceLeDiff, g1, h2, h3, e1, sps_length, hat, encSp, a0, a1, a2, a3, a4, a5, ft1, ft2, List.length_cons, List.length_nil, Nat.zero_add, r1, r2, r3, r4, d1, d2]; exact rfl))
          | (refine WpItems.nil ⟨?_, ?_⟩; (· first | trivial | simp [pairsQ, pairsOk, apart, ent0]))
          | (apply Wp.cond_lit; (· simp only [go_sem, reduceIte, Nat.reduceEqDiff, Nat.reduceAdd, bx, ax, if_true, if_false, Nat.reduceMul, Nat.reduceLeDiff, g1, h2, h3, e1, sps_length, hat, encSp, a0, a1, a2, a3, a4, a5, ft1, ft2, List.length_cons, List.length_nil, Nat.zero_add, r1, r2, r3, r4, d1, d2]; exact rfl); (· rfl))
          | refine Wp.skip ?_
          | refine Wp.label ?_
          | refine Wp.block ?_
          | refine Wp.exit ?_
          | refine Wp.seq ?_)
        refine ⟨(j + 1, (ta, tb), n + 1, m), ⟨by simp only; omega, by simp only; omega, by simp only; omega, by simp only; omega, by simp only; omega⟩, by simp only; omega, ?_⟩
        have hj2 : joinR R.x y = ⟨R.x.f, y.t⟩ := by unfold joinR; simp [L1E, p1, p2, p3]
        simp only [hR1, hst, hj2]
        refine StLe.of (tm_le ?_) (sub012 (by simp [upd, a0, a1, a2, a3, a4, a5]) (by simp [upd, a0, a1, a2, a3, a4, a5]) (by simp [upd, a0, a1, a2, a3, a4, a5])) (fun u hu => by first | exact hu | (simp at hu ⊢; omega)) (by simp) (by simp)
        simp only [AllSub, go_sem, reduceIte, Nat.reduceEqDiff, Nat.reduceAdd, bx]; and_intros <;> first | exact trivial | exact VSub.refl _ | exact VSub.any _ | (refine VSub.int ?_; omega)
      | false =>
        rw [p3] at hbt
        repeat (first
          | ((first | apply Wp.seqItemsR | apply Wp.itemsR | ((first
              | (refine WpItems.pcall ?_ ?_ (hp1) ?_; (· simp only [go_sem, reduceIte, Nat.reduceEqDiff, Nat.reduceAdd, bx]); (· simp only [go_sem, reduceIte, Nat.reduceEqDiff, Nat.reduceAdd, bx, List.map]; first | exact VSubs.refl _ | (repeat (first | exact VSubs.nil | refine VSubs.cons (by first | exact VSub.refl _ | assumption | exact VSub.cap | exact VSub.any _) ?_))))
              | (refine WpItems.pcall ?_ ?_ (hp2) ?_; (· simp only [go_sem, reduceIte, Nat.reduceEqDiff, Nat.reduceAdd, bx]); (· simp only [go_sem, reduceIte, Nat.reduceEqDiff, Nat.reduceAdd, bx, List.map]; first | exact VSubs.refl _ | (repeat (first | exact VSubs.nil | refine VSubs.cons (by first | exact VSub.refl _ | assumption | exact VSub.cap | exact VSub.any _) ?_))))
              | (refine WpItems.pcall ?_ ?_ (hbf) ?_; (· simp only [go_sem, reduceIte, Nat.reduceEqDiff, Nat.reduceAdd, bx]); (· simp only [go_sem, reduceIte, Nat.reduceEqDiff, Nat.reduceAdd, bx, List.map]; first | exact VSubs.refl _ | (repeat (first | exact VSubs.nil | refine VSubs.cons (by first | exact VSub.refl _ | assumption | exact VSub.cap | exact VSub.any _) ?_))))
              | (refine WpItems.pcall ?_ ?_ (hbt) ?_; (· simp only [go_sem, reduceIte, Nat.reduceEqDiff, Nat.reduceAdd, bx]); (· simp only [go_sem, reduceIte, Nat.reduceEqDiff, Nat.reduceAdd, bx, List.map]; first | exact VSubs.refl _ | (repeat (first | exact VSubs.nil | refine VSubs.cons (by first | exact VSub.refl _ | assumption | exact VSub.cap | exact VSub.any _) ?_))))); apply WpItems.evR)); (· simp only [go_sem, reduceIte, Nat.reduceEqDiff, Nat.reduceAdd, bx, ax, if_true, if_false, Nat.reduceMul, Nat.reduceLeDiff, g1, h2, h3, e1, sps_length, hat, encSp, a0, a1, a2, a3, a4, a5, ft1, ft2, List.length_cons, List.length_nil, Nat.zero_add, r1, r2, r3, r4, d1, d2]; exact rfl))
          | (refine WpItems.nil ⟨?_, ?_⟩; (· first | trivial | simp [pairsQ, pairsOk, apart, ent0]))
          | (apply Wp.cond_lit; (· simp only [go_sem, reduceIte, Nat.reduceEqDiff, Nat.reduceAdd, bx, ax, if_true, if_false, Nat.reduceMul, Nat.reduceLeDiff, g1, h2, h3, e1, sps_length, hat, encSp, a0, a1, a2, a3, a4, a5, ft1, ft2, List.length_cons, List.length_nil, Nat.zero_add, r1, r2, r3, r4, d1, d2]; exact rfl); (· rfl))
          | refine Wp.skip ?_
          | refine Wp.label ?_
          | refine Wp.block ?_
          | refine Wp.exit ?_
          | refine Wp.seq ?_)
        refine ⟨(j + 1, (ta, tb), n + 1, m), ⟨by simp only; omega, by simp only; omega, by simp only; omega, by simp only; omega, by simp only; omega⟩, by simp only; omega, ?_⟩
        have hj2 : joinR R.x y = ⟨R.x.f, R.x.t⟩ := by unfold joinR; simp [L1E, p1, p2, p3]
        simp only [hR1, hst, hj2]
        refine StLe.of (tm_le ?_) (sub012 (by simp [upd, a0, a1, a2, a3, a4, a5]) (by simp [upd, a0, a1, a2, a3, a4, a5]) (by simp [upd, a0, a1, a2, a3, a4, a5])) (fun u hu => by first | exact hu | (simp at hu ⊢; omega)) (by simp) (by simp)
        simp only [AllSub, go_sem, reduceIte, Nat.reduceEqDiff, Nat.reduceAdd, bx]; and_intros <;> first | exact trivial | exact VSub.refl _ | exact VSub.any _ | (refine VSub.int ?_; omega)
  · have hje : j = l.length := by omega
    subst hje
    have g1 : decide (((l.length : Nat) : Int) < ((l.length : Nat) : Int)) = false := decide_eq_false (by omega)
    rw [List.take_length] at hro ⊢
    have hse := span_eq (nf_of b3) hB
    generalize spanR l x = R at *
    have hrn := hro.n
    have r1 : (R.a.length + 1) * 32 ≤ 140737488355328 := by omega
    have r2 : R.a.length + 1 < 4611686018427387904 := by omega
    have r3 : (R.a.length + 1 + R.b.length) * 32 ≤ 140737488355328 := by omega
    have r4 : R.a.length + 1 + R.b.length < 4611686018427387904 := by omega
    have ft1 : (ta = tb) = False := eq_false htt
    have ft2 : (tb = ta) = False := eq_false (fun e => htt e.symm)
    have a3 : (n = 0) = False := eq_false (by omega)
    have a4 : (n = 1) = False := eq_false (by omega)
    have a5 : (n = 2) = False := eq_false (by omega)
    have a0 : (0 = n) = False := eq_false (by omega)
    have a1 : (1 = n) = False := eq_false (by omega)
    have a2 : (2 = n) = False := eq_false (by omega)
    have hrow : sps R.a ++ [.agg [.str R.x.f, .str R.x.t]] ++ sps R.b = sps (spanL l x) := by rw [← hse]; simp [sps, encSp]
    have hls : LsS (spanL l x) := by
      refine LsS.of fun s hs => ?_
      rw [← hse] at hs
      rcases List.mem_append.1 hs with h | h
      · rcases List.mem_append.1 h with h | h
        · exact hro.a s h
        · rw [List.mem_singleton.1 h]; exact hro.x
      · exact hro.b s h
    have hln : (spanL l x).length ≤ 1000 := by rw [← hse]; simp only [List.length_append, List.length_cons, List.length_nil]; omega
    have hm := madeR_p k (spanL l x) (by omega) hln lk hls
    have hres : spanB k l x = if (decide ((mkR (spanL l x) k).length ≤ 64) && decide ((spanL l x).length ≤ 64)) = true then (mkR (spanL l x) k, spanL l x, 0) else ([], [], 9) := by
      rw [spanB, if_pos hc, if_pos hB]; rfl
    rw [hres]
    unfold encR at hm
    generalize (decide ((mkR (spanL l x) k).length ≤ 64) && decide ((spanL l x).length ≤ 64)) = okb at *
    have fit : ∀ c, VSubs [.sl 1 (strs k) .any, .sl 2 (sps R.a ++ [.agg [.str R.x.f, .str R.x.t]] ++ sps R.b) (.own c)] [.sl 1 (strs k) .any, .sl 2 (sps (spanL l x)) .any] := fun c => by
      rw [hrow]; exact VSubs.cons (VSub.refl _) (VSubs.cons VSub.own VSubs.nil)
    cases okb
    · repeat (first
        | ((first | apply Wp.seqItemsR | apply Wp.itemsR | ((first
            | (refine WpItems.pcall ?_ ?_ (hm) ?_; (· simp only [go_sem, reduceIte, Nat.reduceEqDiff, Nat.reduceAdd, bx]); (· simp only [go_sem, reduceIte, Nat.reduceEqDiff, Nat.reduceAdd, bx, List.map]; exact fit _))); apply WpItems.evR)); (· simp only [go_sem, reduceIte, Nat.reduceEqDiff, Nat.reduceAdd, bx, ax, if_true, if_false, Nat.reduceMul, Nat.reduceLeDiff, g1, sps_length, List.length_cons, List.length_nil, Nat.zero_add, a0, a1, a2, a3, a4, a5, ft1, ft2, r1, r2, r3, r4]; exact rfl))
        | (refine WpItems.nil ⟨?_, ?_⟩; (· first | trivial | simp [pairsQ, pairsOk, apart, ent0]))
        | (apply Wp.cond_lit; (· simp only [go_sem, reduceIte, Nat.reduceEqDiff, Nat.reduceAdd, bx, ax, if_true, if_false, Nat.reduceMul, Nat.reduceLeDiff, g1, sps_length, List.length_cons, List.length_nil, Nat.zero_add, a0, a1, a2, a3, a4, a5, ft1, ft2, r1, r2, r3, r4]; exact rfl); (· rfl))
        | refine Wp.skip ?_
        | refine Wp.label ?_
        | refine Wp.block ?_
        | refine Wp.exit ?_
        | refine Wp.seq ?_)
      refine WpItems.nil ⟨by simp [pairsQ, pairsOk, apart, ent0]; omega, ?_⟩
      repeat (first
        | ((first | apply Wp.seqItemsR | apply Wp.itemsR); (· simp only [go_sem, reduceIte, Nat.reduceEqDiff, Nat.reduceAdd, bx, ax, if_true, if_false, Nat.reduceMul, Nat.reduceLeDiff, a0, a1, a2, a3, a4, a5]; exact rfl))
        | (refine WpItems.nil ⟨?_, ?_⟩; (· first | trivial | simp [pairsQ, pairsOk, apart, ent0]))
        | (apply Wp.cond_lit; (· simp only [go_sem, reduceIte, Nat.reduceEqDiff, Nat.reduceAdd, bx, ax, if_true, if_false, Nat.reduceMul, Nat.reduceLeDiff, a0, a1, a2, a3, a4, a5]; exact rfl); (· rfl))
        | refine Wp.skip ?_
        | refine Wp.label ?_
        | refine Wp.block ?_
        | refine Wp.exit ?_
        | refine Wp.seq ?_)
      refine Wp.ret ⟨trivial, _, rfl, ?_⟩
      simp only [go_sem, reduceIte, Nat.reduceEqDiff, Nat.reduceAdd, bx]
      exact nil_sub 9
    · repeat (first
        | ((first | apply Wp.seqItemsR | apply Wp.itemsR | ((first
            | (refine WpItems.pcall ?_ ?_ (hm) ?_; (· simp only [go_sem, reduceIte, Nat.reduceEqDiff, Nat.reduceAdd, bx]); (· simp only [go_sem, reduceIte, Nat.reduceEqDiff, Nat.reduceAdd, bx, List.map]; exact fit _))); apply WpItems.evR)); (· simp only [go_sem, reduceIte, Nat.reduceEqDiff, Nat.reduceAdd, bx, ax, if_true, if_false, Nat.reduceMul, Nat.reduceLeDiff, g1, sps_length, List.length_cons, List.length_nil, Nat.zero_add, a0, a1, a2, a3, a4, a5, ft1, ft2, r1, r2, r3, r4]; exact rfl))
        | (refine WpItems.nil ⟨?_, ?_⟩; (· first | trivial | simp [pairsQ, pairsOk, apart, ent0]))
        | (apply Wp.cond_lit; (· simp only [go_sem, reduceIte, Nat.reduceEqDiff, Nat.reduceAdd, bx, ax, if_true, if_false, Nat.reduceMul, Nat.reduceLeDiff, g1, sps_length, List.length_cons, List.length_nil, Nat.zero_add, a0, a1, a2, a3, a4, a5, ft1, ft2, r1, r2, r3, r4]; exact rfl); (· rfl))
        | refine Wp.skip ?_
        | refine Wp.label ?_
        | refine Wp.block ?_
        | refine Wp.exit ?_
        | refine Wp.seq ?_)
      refine WpItems.nil ⟨by simp [pairsQ, pairsOk, apart, ent0]; omega, ?_⟩
      repeat (first
        | ((first | apply Wp.seqItemsR | apply Wp.itemsR); (· simp only [go_sem, reduceIte, Nat.reduceEqDiff, Nat.reduceAdd, bx, ax, if_true, if_false, Nat.reduceMul, Nat.reduceLeDiff, a0, a1, a2, a3, a4, a5]; exact rfl))
        | (refine WpItems.nil ⟨?_, ?_⟩; (· first | trivial | simp [pairsQ, pairsOk, apart, ent0]))
        | (apply Wp.cond_lit; (· simp only [go_sem, reduceIte, Nat.reduceEqDiff, Nat.reduceAdd, bx, ax, if_true, if_false, Nat.reduceMul, Nat.reduceLeDiff, a0, a1, a2, a3, a4, a5]; exact rfl); (· rfl))
        | refine Wp.skip ?_
        | refine Wp.label ?_
        | refine Wp.block ?_
        | refine Wp.exit ?_
        | refine Wp.seq ?_)
      refine Wp.ret ⟨trivial, _, rfl, ?_⟩
      simp only [go_sem, reduceIte, Nat.reduceEqDiff, Nat.reduceAdd, bx]
      exact VSub.refl _
end Go.Proofs.Ytpehfflehebmbaa.Reads
end
section
set_option linter.unusedSimpArgs false
set_option linter.unusedVariables false
set_option maxRecDepth 10000
namespace Go.Proofs.Ytpehfflehebmbaa.Reads
open Go Go.Av Go.Proofs Go.Proofs.Ytpehfflehebmbaa.C Go.Proofs.Ytpehfflehebmbaa.Batch
theorem made_len (ks : List Bs) (l : List Sp) : (madeB ks l).1.length ≤ 64 ∧ (madeB ks l).2.1.length ≤ 64 := by
  unfold madeB
  split
  · rename_i h
    simp only [Bool.and_eq_true, decide_eq_true_eq] at h
    exact h
  · simp
theorem key_len (k : List Bs) (l : List Sp) (q : Bs) : (keyB k l q).1.length ≤ 64 ∧ (keyB k l q).2.1.length ≤ 64 := by
  unfold keyB; split
  · exact made_len _ _
  · simp
theorem span_len (k : List Bs) (l : List Sp) (x : Sp) : (spanB k l x).1.length ≤ 64 ∧ (spanB k l x).2.1.length ≤ 64 := by
  unfold spanB; split
  · exact made_len _ _
  · simp
set_option maxHeartbeats 4000000 in
theorem grow_law (k : List Bs) (l : List Sp) (lk : LsK k) (ll : LsS l) (f t : Bs) (hf : Ls f) (ht : Ls t) : PCalls Try.prog 10 [encR k l, .str f, .str t] (.bool true) := by
  refine f10.pcalls0 (by simp) (by simp [allPure, isPure, encR_pure]) rfl ?_
  unfold c10
  have hL := lives_p
  have hfw := few_p k l
  unfold encR at hfw
  cases hfb : fewB k l with
  | false =>
    rw [hfb] at hfw
    repeat (first
      | ((first | apply Wp.seqItemsR | apply Wp.itemsR | ((first
          | (refine WpItems.pcall ?_ ?_ (hfw) ?_; (· simp only [go_sem, reduceIte, Nat.reduceEqDiff, Nat.reduceAdd, bx]); (· simp only [go_sem, reduceIte, Nat.reduceEqDiff, Nat.reduceAdd, bx, List.map]; first | exact VSubs.refl _ | (repeat (first | exact VSubs.nil | refine VSubs.cons (by first | exact VSub.refl _ | assumption | exact VSub.cap | exact VSub.any _) ?_))))
          | (refine WpItems.pcall ?_ ?_ (hL) ?_; (· simp only [go_sem, reduceIte, Nat.reduceEqDiff, Nat.reduceAdd, bx]); (· simp only [go_sem, reduceIte, Nat.reduceEqDiff, Nat.reduceAdd, bx, List.map]; first | exact VSubs.refl _ | (repeat (first | exact VSubs.nil | refine VSubs.cons (by first | exact VSub.refl _ | assumption | exact VSub.cap | exact VSub.any _) ?_))))); apply WpItems.evR)); (· simp only [go_sem, reduceIte, Nat.reduceEqDiff, Nat.reduceAdd, bx, ax, if_true, if_false, Nat.reduceMul, Nat.reduceLeDiff, encR]; exact rfl))
      | (refine WpItems.nil ⟨?_, ?_⟩; (· first | trivial | simp [pairsQ, pairsOk, apart, ent0]))
      | (apply Wp.cond_lit; (· simp only [go_sem, reduceIte, Nat.reduceEqDiff, Nat.reduceAdd, bx, ax, if_true, if_false, Nat.reduceMul, Nat.reduceLeDiff, encR]; exact rfl); (· rfl))
      | refine Wp.skip ?_
      | refine Wp.label ?_
      | refine Wp.block ?_
      | refine Wp.exit ?_
      | refine Wp.seq ?_)
    refine Wp.ret ⟨trivial, _, rfl, ?_⟩
    simp only [go_sem, reduceIte, Nat.reduceEqDiff, Nat.reduceAdd, bx]
    exact VSub.refl _
  | true =>
  rw [hfb] at hfw
  simp only [fewB, Bool.and_eq_true, decide_eq_true_eq] at hfb
  obtain ⟨h1, h2⟩ := hfb
  have how := own_p k l h1 h2
  have hkey := key_p k l f
  have hkeyR := keyR_p k l lk ll f hf
  have hspan := span_p k l ⟨f, t⟩
  have hspanR := spanR_p k l lk ll ⟨f, t⟩ ⟨hf, ht⟩
  have hck := check_p k l
  have hckR := checkR_p k l lk ll
  obtain ⟨y1, y2⟩ := key_len k l f
  obtain ⟨y3, y4⟩ := span_len k l ⟨f, t⟩
  have sub := encT_sub k l
  generalize keyB k l f = O1 at *
  generalize spanB k l ⟨f, t⟩ = O2 at *
  have s1 := same_p O1.1 O1.2.1 (by omega) (by omega)
  have s2 := same_p O2.1 O2.2.1 (by omega) (by omega)
  have s3 := same_p k l (by omega) (by omega)
  generalize hcv : (if checkB k l = true then (0 : Int) else 4) = cv at *
  simp only at hspan hspanR
  unfold encR at how hkey hkeyR hspan hspanR hck hckR s1 s2 s3 sub
  unfold encO at hkey hkeyR hspan hspanR
  unfold encR at hkey hkeyR hspan hspanR
  unfold encT at how sub
  have d1 := decide_eq_true (rfl : cv = cv)
  have d2 := decide_eq_true (rfl : O1.2.2 = O1.2.2)
  have d3 := decide_eq_true (rfl : O2.2.2 = O2.2.2)
  have fk : VSubs [.agg [.slt 1 (strs k) [.str [63]], .slt 2 (sps l) [.agg [.str [63], .str []]]], .str f] [.agg [.sl 1 (strs k) .any, .sl 2 (sps l) .any], .str f] := VSubs.cons sub (VSubs.refl _)
  have fs : VSubs [.agg [.slt 1 (strs k) [.str [63]], .slt 2 (sps l) [.agg [.str [63], .str []]]], .str f, .str t] [.agg [.sl 1 (strs k) .any, .sl 2 (sps l) .any], .str f, .str t] := VSubs.cons sub (VSubs.refl _)
  have fc : VSubs [.agg [.slt 1 (strs k) [.str [63]], .slt 2 (sps l) [.agg [.str [63], .str []]]]] [.agg [.sl 1 (strs k) .any, .sl 2 (sps l) .any]] := VSubs.cons sub VSubs.nil
  have f3 : VSubs [.agg [.slt 1 (strs k) [.str [63]], .slt 2 (sps l) [.agg [.str [63], .str []]]], .agg [.sl 1 (strs k) .any, .sl 2 (sps l) .any]] [.agg [.sl 1 (strs k) .any, .sl 2 (sps l) .any], .agg [.sl 1 (strs k) .any, .sl 2 (sps l) .any]] := VSubs.cons sub (VSubs.refl _)
  repeat (first
    | ((first | apply Wp.seqItemsR | apply Wp.itemsR | ((first
        | (refine WpItems.pcall ?_ ?_ (hfw) ?_; (· simp only [go_sem, reduceIte, Nat.reduceEqDiff, Nat.reduceAdd, bx]); (· simp only [go_sem, reduceIte, Nat.reduceEqDiff, Nat.reduceAdd, bx, List.map]; first | exact VSubs.refl _ | (repeat (first | exact VSubs.nil | refine VSubs.cons (by first | exact VSub.refl _ | assumption | exact VSub.cap | exact VSub.any _) ?_))))
        | (refine WpItems.pcall ?_ ?_ (how) ?_; (· simp only [go_sem, reduceIte, Nat.reduceEqDiff, Nat.reduceAdd, bx]); (· simp only [go_sem, reduceIte, Nat.reduceEqDiff, Nat.reduceAdd, bx, List.map]; first | exact VSubs.refl _ | (repeat (first | exact VSubs.nil | refine VSubs.cons (by first | exact VSub.refl _ | assumption | exact VSub.cap | exact VSub.any _) ?_))))
        | (refine WpItems.pcall ?_ ?_ (hkey) ?_; (· simp only [go_sem, reduceIte, Nat.reduceEqDiff, Nat.reduceAdd, bx]); (· simp only [go_sem, reduceIte, Nat.reduceEqDiff, Nat.reduceAdd, bx, List.map]; exact fk))
        | (refine WpItems.pcall ?_ ?_ (hkeyR) ?_; (· simp only [go_sem, reduceIte, Nat.reduceEqDiff, Nat.reduceAdd, bx]); (· simp only [go_sem, reduceIte, Nat.reduceEqDiff, Nat.reduceAdd, bx, List.map]; first | exact VSubs.refl _ | (repeat (first | exact VSubs.nil | refine VSubs.cons (by first | exact VSub.refl _ | assumption | exact VSub.cap | exact VSub.any _) ?_))))
        | (refine WpItems.pcall ?_ ?_ (hspan) ?_; (· simp only [go_sem, reduceIte, Nat.reduceEqDiff, Nat.reduceAdd, bx]); (· simp only [go_sem, reduceIte, Nat.reduceEqDiff, Nat.reduceAdd, bx, List.map]; exact fs))
        | (refine WpItems.pcall ?_ ?_ (hspanR) ?_; (· simp only [go_sem, reduceIte, Nat.reduceEqDiff, Nat.reduceAdd, bx]); (· simp only [go_sem, reduceIte, Nat.reduceEqDiff, Nat.reduceAdd, bx, List.map]; first | exact VSubs.refl _ | (repeat (first | exact VSubs.nil | refine VSubs.cons (by first | exact VSub.refl _ | assumption | exact VSub.cap | exact VSub.any _) ?_))))
        | (refine WpItems.pcall ?_ ?_ (hck) ?_; (· simp only [go_sem, reduceIte, Nat.reduceEqDiff, Nat.reduceAdd, bx]); (· simp only [go_sem, reduceIte, Nat.reduceEqDiff, Nat.reduceAdd, bx, List.map]; exact fc))
        | (refine WpItems.pcall ?_ ?_ (hckR) ?_; (· simp only [go_sem, reduceIte, Nat.reduceEqDiff, Nat.reduceAdd, bx]); (· simp only [go_sem, reduceIte, Nat.reduceEqDiff, Nat.reduceAdd, bx, List.map]; first | exact VSubs.refl _ | (repeat (first | exact VSubs.nil | refine VSubs.cons (by first | exact VSub.refl _ | assumption | exact VSub.cap | exact VSub.any _) ?_))))
        | (refine WpItems.pcall ?_ ?_ (s1) ?_; (· simp only [go_sem, reduceIte, Nat.reduceEqDiff, Nat.reduceAdd, bx]); (· simp only [go_sem, reduceIte, Nat.reduceEqDiff, Nat.reduceAdd, bx, List.map]; first | exact VSubs.refl _ | (repeat (first | exact VSubs.nil | refine VSubs.cons (by first | exact VSub.refl _ | assumption | exact VSub.cap | exact VSub.any _) ?_))))
        | (refine WpItems.pcall ?_ ?_ (s2) ?_; (· simp only [go_sem, reduceIte, Nat.reduceEqDiff, Nat.reduceAdd, bx]); (· simp only [go_sem, reduceIte, Nat.reduceEqDiff, Nat.reduceAdd, bx, List.map]; first | exact VSubs.refl _ | (repeat (first | exact VSubs.nil | refine VSubs.cons (by first | exact VSub.refl _ | assumption | exact VSub.cap | exact VSub.any _) ?_))))); apply WpItems.evR)); (· simp only [go_sem, reduceIte, Nat.reduceEqDiff, Nat.reduceAdd, bx, ax, if_true, if_false, Nat.reduceMul, Nat.reduceLeDiff, encR, d1, d2, d3]; exact rfl))
    | (refine WpItems.nil ⟨?_, ?_⟩; (· first | trivial | simp [pairsQ, pairsOk, apart, ent0]))
    | (apply Wp.cond_lit; (· simp only [go_sem, reduceIte, Nat.reduceEqDiff, Nat.reduceAdd, bx, ax, if_true, if_false, Nat.reduceMul, Nat.reduceLeDiff, encR, d1, d2, d3]; exact rfl); (· rfl))
    | refine Wp.skip ?_
    | refine Wp.label ?_
    | refine Wp.block ?_
    | refine Wp.exit ?_
    | refine Wp.seq ?_)
  have w1 : IntKind.i64.wrap ((k.length : Int) + 1) = ((k.length + 1 : Nat) : Int) := by rw [IntWalk.i64_in _ (by omega)]; omega
  have w2 : IntKind.i64.wrap ((l.length : Int) + 1) = ((l.length + 1 : Nat) : Int) := by rw [IntWalk.i64_in _ (by omega)]; omega
  have q1 : (0 : Int) ≤ ((k.length + 1 : Nat) : Int) := by omega
  have q4 : (0 : Int) ≤ ((l.length + 1 : Nat) : Int) := by omega
  have z0 : (0 : Int) ≤ 0 := Int.le_refl 0
  have t1 : (strs k ++ [AV.str [63]]).take (k.length + 1) = strs k ++ [AV.str [63]] := by apply List.take_of_length_le; simp [strs_length]
  have t3 : (sps l ++ [AV.agg [AV.str [63], AV.str []]]).take (l.length + 1) = sps l ++ [AV.agg [AV.str [63], AV.str []]] := by apply List.take_of_length_le; simp [sps_length]
  refine WpItems.opS (by simp only [go_sem, reduceIte, Nat.reduceEqDiff, Nat.reduceAdd, bx]) (by simp only [aopS, go_sem, reduceIte, Nat.reduceEqDiff, Nat.reduceAdd, bx, strs_length]; exact rfl) ?_
  refine WpItems.part 1 (by simp only [go_sem, reduceIte, Nat.reduceEqDiff, Nat.reduceAdd, bx, w1]; exact rfl) ?_
  simp only [List.drop_succ_cons, List.drop_zero, List.drop_nil]
  refine WpItems.opS (by simp only [go_sem, reduceIte, Nat.reduceEqDiff, Nat.reduceAdd, bx]) (by simp only [aopS, go_sem, reduceIte, Nat.reduceEqDiff, Nat.reduceAdd, bx, strs_length, List.length_append, List.length_cons, List.length_nil, Nat.zero_add, q1, z0, Int.le_refl, and_self, if_true, true_and, Int.toNat_natCast, t1]; exact rfl) ?_
  refine WpItems.part 4 (by simp only [go_sem, reduceIte, Nat.reduceEqDiff, Nat.reduceAdd, bx]; exact rfl) ?_
  simp only [List.drop_succ_cons, List.drop_zero, List.drop_nil]
  refine WpItems.opS (by simp only [go_sem, reduceIte, Nat.reduceEqDiff, Nat.reduceAdd, bx]) (by simp only [aopS, go_sem, reduceIte, Nat.reduceEqDiff, Nat.reduceAdd, bx, sps_length]; exact rfl) ?_
  refine WpItems.part 1 (by simp only [go_sem, reduceIte, Nat.reduceEqDiff, Nat.reduceAdd, bx, w2]; exact rfl) ?_
  simp only [List.drop_succ_cons, List.drop_zero, List.drop_nil]
  refine WpItems.opS (by simp only [go_sem, reduceIte, Nat.reduceEqDiff, Nat.reduceAdd, bx]) (by simp only [aopS, go_sem, reduceIte, Nat.reduceEqDiff, Nat.reduceAdd, bx, sps_length, List.length_append, List.length_cons, List.length_nil, Nat.zero_add, q4, z0, Int.le_refl, and_self, if_true, true_and, Int.toNat_natCast, t3]; exact rfl) ?_
  refine WpItems.evR (by simp only [go_sem, reduceIte, Nat.reduceEqDiff, Nat.reduceAdd, bx, ax, Nat.reduceLeDiff]; exact rfl) ?_
  refine WpItems.nil ⟨by simp [pairsQ, pairsOk, apart, ent0], ?_⟩
  have u1 : IntKind.i64.wrap (((k.length + 1 : Nat) : Int) - 1) = (k.length : Int) := by rw [IntWalk.i64_in _ (by omega)]; omega
  have u2 : IntKind.i64.wrap (((l.length + 1 : Nat) : Int) - 1) = (l.length : Int) := by rw [IntWalk.i64_in _ (by omega)]; omega
  have v1 : (k.length : Int) < ((k.length + 1 : Nat) : Int) := by omega
  have v2 : (l.length : Int) < ((l.length + 1 : Nat) : Int) := by omega
  have v3 : (0 : Int) ≤ (k.length : Int) := by omega
  have v4 : (0 : Int) ≤ (l.length : Int) := by omega
  have g1 : (strs k ++ [AV.str [63]]).getD k.length AV.any = AV.str [63] := by rw [← strs_length k]; simp
  have g2 : (sps l ++ [AV.agg [AV.str [63], AV.str []]]).getD l.length AV.any = AV.agg [AV.str [63], AV.str []] := by rw [← sps_length l]; simp
  repeat (first
    | ((first | apply Wp.seqItemsR | apply Wp.itemsR); (· simp only [go_sem, reduceIte, Nat.reduceEqDiff, Nat.reduceAdd, bx, ax, if_true, if_false, Nat.reduceMul, Nat.reduceLeDiff, strs_length]; exact rfl))
    | (refine WpItems.nil ⟨?_, ?_⟩; (· first | trivial | simp [pairsQ, pairsOk, apart, ent0]))
    | (apply Wp.cond_lit; (· simp only [go_sem, reduceIte, Nat.reduceEqDiff, Nat.reduceAdd, bx, ax, if_true, if_false, Nat.reduceMul, Nat.reduceLeDiff, strs_length]; exact rfl); (· rfl))
    | refine Wp.skip ?_
    | refine Wp.label ?_
    | refine Wp.block ?_
    | refine Wp.exit ?_
    | refine Wp.seq ?_)
  refine WpItems.pcall ?_ ?_ (s3) ?_
  · simp only [go_sem, reduceIte, Nat.reduceEqDiff, Nat.reduceAdd, bx]
  · simp only [go_sem, reduceIte, Nat.reduceEqDiff, Nat.reduceAdd, bx, List.map]
    exact f3
  refine WpItems.part 4 (by simp only [go_sem, reduceIte, Nat.reduceEqDiff, Nat.reduceAdd, bx, strs_length, List.length_append, List.length_cons, List.length_nil, Nat.zero_add]; exact rfl) ?_
  simp only [List.drop_succ_cons, List.drop_zero, List.drop_nil]
  refine WpItems.part 1 (by simp only [go_sem, reduceIte, Nat.reduceEqDiff, Nat.reduceAdd, bx, u1]; exact rfl) ?_
  simp only [List.drop_succ_cons, List.drop_zero, List.drop_nil]
  refine WpItems.part 1 (by simp only [go_sem, reduceIte, Nat.reduceEqDiff, Nat.reduceAdd, bx, strs_length, List.length_append, List.length_cons, List.length_nil, Nat.zero_add, v1, v3, and_self, if_true, Int.toNat_natCast, g1]; exact rfl) ?_
  simp only [List.drop_succ_cons, List.drop_zero, List.drop_nil]
  refine WpItems.part 2 (by simp only [go_sem, reduceIte, Nat.reduceEqDiff, Nat.reduceAdd, bx, strs_length, List.length_append, List.length_cons, List.length_nil, Nat.zero_add, v1, v3, and_self, if_true, Int.toNat_natCast, g1, decide_true]; exact rfl) ?_
  simp only [List.drop_succ_cons, List.drop_zero, List.drop_nil]
  refine WpItems.part 2 (by simp only [go_sem, reduceIte, Nat.reduceEqDiff, Nat.reduceAdd, bx]; exact rfl) ?_
  simp only [List.drop_succ_cons, List.drop_zero, List.drop_nil]
  refine WpItems.part 3 (by simp only [go_sem, reduceIte, Nat.reduceEqDiff, Nat.reduceAdd, bx, sps_length, List.length_append, List.length_cons, List.length_nil, Nat.zero_add]; exact rfl) ?_
  simp only [List.drop_succ_cons, List.drop_zero, List.drop_nil]
  refine WpItems.part 1 (by simp only [go_sem, reduceIte, Nat.reduceEqDiff, Nat.reduceAdd, bx, u2]; exact rfl) ?_
  simp only [List.drop_succ_cons, List.drop_zero, List.drop_nil]
  refine WpItems.part 1 (by simp only [go_sem, reduceIte, Nat.reduceEqDiff, Nat.reduceAdd, bx, sps_length, List.length_append, List.length_cons, List.length_nil, Nat.zero_add, v2, v4, and_self, if_true, Int.toNat_natCast, g2]; exact rfl) ?_
  simp only [List.drop_succ_cons, List.drop_zero, List.drop_nil]
  refine WpItems.part 2 (by simp only [go_sem, reduceIte, Nat.reduceEqDiff, Nat.reduceAdd, bx, g2]; exact rfl) ?_
  simp only [List.drop_succ_cons, List.drop_zero, List.drop_nil]
  refine WpItems.part 1 (by simp only [go_sem, reduceIte, Nat.reduceEqDiff, Nat.reduceAdd, bx, decide_true]; exact rfl) ?_
  simp only [List.drop_succ_cons, List.drop_zero, List.drop_nil]
  refine WpItems.part 2 (by simp only [go_sem, reduceIte, Nat.reduceEqDiff, Nat.reduceAdd, bx]; exact rfl) ?_
  simp only [List.drop_succ_cons, List.drop_zero, List.drop_nil]
  repeat (first
    | ((first | apply Wp.seqItemsR | apply Wp.itemsR | ((first
        | (refine WpItems.pcall ?_ ?_ (hL) ?_; (· simp only [go_sem, reduceIte, Nat.reduceEqDiff, Nat.reduceAdd, bx]); (· simp only [go_sem, reduceIte, Nat.reduceEqDiff, Nat.reduceAdd, bx, List.map]; first | exact VSubs.refl _ | (repeat (first | exact VSubs.nil | refine VSubs.cons (by first | exact VSub.refl _ | assumption | exact VSub.cap | exact VSub.any _) ?_))))); apply WpItems.evR)); (· simp only [go_sem, reduceIte, Nat.reduceEqDiff, Nat.reduceAdd, bx, ax, if_true, if_false, Nat.reduceMul, Nat.reduceLeDiff, ax, Nat.reduceLeDiff]; exact rfl))
    | (refine WpItems.nil ⟨?_, ?_⟩; (· first | trivial | simp [pairsQ, pairsOk, apart, ent0]))
    | (apply Wp.cond_lit; (· simp only [go_sem, reduceIte, Nat.reduceEqDiff, Nat.reduceAdd, bx, ax, if_true, if_false, Nat.reduceMul, Nat.reduceLeDiff, ax, Nat.reduceLeDiff]; exact rfl); (· rfl))
    | refine Wp.skip ?_
    | refine Wp.label ?_
    | refine Wp.block ?_
    | refine Wp.exit ?_
    | refine Wp.seq ?_)
  refine Wp.ret ⟨trivial, _, rfl, ?_⟩
  simp only [go_sem, reduceIte, Nat.reduceEqDiff, Nat.reduceAdd, bx]
  exact VSub.refl _
theorem law_ReadsGrow {b : Nat} (avs : List AV) (h : All2 (ArgFits Try.prog 5) Try.f10.params.toList avs) (_ : bulkAs avs ≤ b) : PCalls Try.prog 10 avs (.bool true) := by
  rw [Try.params10] at h
  cases h with | cons h0 h => cases h with | cons h1 h => cases h with | cons h2 h =>
  cases h
  have e : reachBytes = 140737488351232 := rfl
  obtain ⟨k, l, rfl, hk, hl⟩ := open_reads h0
  obtain ⟨f, rfl, hf⟩ := open_str h1
  obtain ⟨t, rfl, ht⟩ := open_str h2
  exact grow_law k l (LsK.of fun s hs => by have := hk s hs; unfold Ls; omega) (LsS.of fun s hs => by have := hl s hs; unfold Ls; exact ⟨by have := this.1; omega, by have := this.2; omega⟩) f t (by unfold Ls; omega) (by unfold Ls; omega)
end Go.Proofs.Ytpehfflehebmbaa.Reads
end
section
set_option linter.unusedSimpArgs false
set_option linter.unusedVariables false
namespace Go.Proofs.Ytpehfflehebmbaa.Reads
open Go Go.Av Go.Proofs Go.Proofs.Ytpehfflehebmbaa.C
open Go.ChangeShapes Go.WideShapes Go.ChangeAt Go.RowKit
set_option maxRecDepth 100000 in
theorem lifted_ReadsGrow (os : Os) (started : os.Started) (H : Type) (enc : TypeId × Value → H) :
    ReturnsInHanded {} Try.checked os 10 .any (Rows.readsGrowSpec.pre6 enc Try.prog Try.f10 Rows.readsGrowRow.domain false) (Rows.readsGrowSpec.post enc Try.prog Try.f10 false true false false) := by
  refine returnsInHanded_of_change_sized (C := Try.checked) own started (by kernel_rfl) Try.func10
    (ChangeSpec.witness6 (enc := enc) (C := Try.checked) false ⟨#[], #[.agg #[.slice none 0 0, .slice none 0 0], .string ⟨#[]⟩, .string ⟨#[]⟩], []⟩ 8 (by kernel_rfl) (by kernel_rfl) (by kernel_rfl) (by kernel_rfl)) ?_
  intro W base args ds gs before hval hW _ hwt _
  exact calls_row laid bulk rowed full rfl (fun l hl => by match l, hl with | [_, _, _], _ => rfl) rfl Try.underlying4 (by kernel_rfl) (by kernel_rfl) hval hW hwt (fun avs h hb => law_ReadsGrow avs h hb)
theorem said_ReadsGrow : Rows.ReadsGrowSaid :=
  OpenClaim.holds_of_wide 10 Try.f10 rfl rfl rfl rfl rfl rfl rfl ⟨rfl, rfl, rfl, rfl, rfl⟩ rfl rfl rfl rfl rfl (by kernel_rfl) Try.func10 (by kernel_rfl)
    (of_decide_eq_true (by kernel_rfl)) (by unfold Func.isWrapper; first | (rw [if_pos (by decide +kernel)]; kernel_rfl) | (rw [if_neg (by decide +kernel)]; exact ⟨rfl, rfl⟩))
    (fun os started H enc _ => lifted_ReadsGrow os started H enc)
#print axioms said_ReadsGrow
end Go.Proofs.Ytpehfflehebmbaa.Reads
end
