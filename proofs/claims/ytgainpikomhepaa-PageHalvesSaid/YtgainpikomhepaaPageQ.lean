/- Chapter 08: Find of the program, the walk. -/
import Derived.Test.YtgainpikomhepaaPageP
set_option linter.unusedSimpArgs false
set_option linter.unusedVariables false
set_option maxRecDepth 10000
namespace Go.Proofs.Ytgainpikomhepaa.Page
open Go Go.Av Go.Proofs Go.Proofs.Ytgainpikomhepaa.C

def outPlace (n : Node) (key : List UInt8) : Nat := if right n then place n key else 0
def outFound (n : Node) (key : List UInt8) : Bool := right n && found n key

theorem find_p (n : Node) (hn : Nb n) (key : List UInt8) : PCalls Try.prog 22 [encNode n, .str key] (.tup [.int .i64 (outPlace n key), .bool (outFound n key)]) := by
  refine f22.pcalls (by simp) (allPure_ok _ (by simp [allPure, encNode_pure, isPure])) (isPure_ok _ rfl) fun k m => ?_
  unfold c22
  refine Wp.seqReg (by simp only [go_sem, reduceIte, Nat.reduceEqDiff, Nat.reduceAdd, Bool.false_eq_true, Bool.true_beq, Bool.false_beq, Bool.not_true, Bool.not_false, encNode]; exact rfl) (by trivial) ?_
  refine Wp.seq ?_
  refine Wp.seqItems (by simp only [go_sem, reduceIte, Nat.reduceEqDiff, Nat.reduceAdd, Bool.false_eq_true, Bool.true_beq, Bool.false_beq, Bool.not_true, Bool.not_false]; exact rfl) ?_
  refine WpItems.pcall (by simp only [go_sem, reduceIte, Nat.reduceEqDiff, Nat.reduceAdd, Bool.false_eq_true, Bool.true_beq, Bool.false_beq, Bool.not_true, Bool.not_false]) (by simp only [go_sem, reduceIte, Nat.reduceEqDiff, Nat.reduceAdd, Bool.false_eq_true, Bool.true_beq, Bool.false_beq, Bool.not_true, Bool.not_false, List.map]; exact VSubs.refl _) (stands_p n hn) ?_
  refine WpItems.eval (by simp only [go_sem, reduceIte, Nat.reduceEqDiff, Nat.reduceAdd, Bool.false_eq_true, Bool.true_beq, Bool.false_beq, Bool.not_true, Bool.not_false]; exact rfl) ?_
  refine WpItems.nil ⟨by trivial, ?_⟩
  refine Wp.cond_split (b := !right n) (by simp only [go_sem, reduceIte, Nat.reduceEqDiff, Nat.reduceAdd, Bool.false_eq_true, Bool.true_beq, Bool.false_beq, Bool.not_true, Bool.not_false]) (fun hd => ?_) (fun hd => ?_)
  · have hr : right n = false := by simpa using hd
    refine Wp.seqReg (by simp only [go_sem, reduceIte, Nat.reduceEqDiff, Nat.reduceAdd, Bool.false_eq_true, Bool.true_beq, Bool.false_beq, Bool.not_true, Bool.not_false]; exact rfl) (by trivial) ?_
    refine Wp.ret ⟨trivial, _, rfl, ?_⟩
    simp only [go_sem, reduceIte, Nat.reduceEqDiff, Nat.reduceAdd, Bool.false_eq_true, Bool.true_beq, Bool.false_beq, Bool.not_true, Bool.not_false]
    simp only [outPlace, outFound, hr, Bool.false_eq_true, if_false, Bool.false_and]
    exact VSub.refl _
  · have hr : right n = true := by simpa using hd
    have hk : keysOk n.keys = true := by rw [right, Bool.and_eq_true] at hr; exact hr.1
    simp only [outPlace, outFound, hr, if_true, Bool.true_and]
    refine Wp.skip ?_
    refine Wp.seq ?_
    refine Wp.seqReg (by simp only [go_sem, reduceIte, Nat.reduceEqDiff, Nat.reduceAdd, Bool.false_eq_true, Bool.true_beq, Bool.false_beq, Bool.not_true, Bool.not_false]; exact rfl) (by trivial) ?_
    refine Wp.cond_split (b := !n.leaf) (by simp only [go_sem, reduceIte, Nat.reduceEqDiff, Nat.reduceAdd, Bool.false_eq_true, Bool.true_beq, Bool.false_beq, Bool.not_true, Bool.not_false]) (fun hl => ?_) (fun hl => ?_)
    · have hl' : n.leaf = false := by simpa using hl
      refine Wp.seqItems (by simp only [go_sem, reduceIte, Nat.reduceEqDiff, Nat.reduceAdd, Bool.false_eq_true, Bool.true_beq, Bool.false_beq, Bool.not_true, Bool.not_false]; exact rfl) ?_
      refine WpItems.rcall [k, k + 1] (by simp only [go_sem]) (by simp only [go_sem, reduceIte, Nat.reduceEqDiff, List.map]; exact VSubs.refl _) (fun id o h => h) two_ids (search_p n.keys.length (by have := hn.k; omega) Try.func40 rfl (of_decide_eq_true (by kernel_rfl)) [.ptr k 0, .ptr (k + 1) 0] _ [k, k + 1] two_ids (n.keys.findIdx (above key)) (findIdx_le _ _)
        (fun i hi => by have := above_p n key i (Nat.lt_of_lt_of_le hi (findIdx_le _ _)) (upd (upd none' k (some (.cells (nodeCells n)))) (k + 1) (some (.cells [.str key]))) k (k + 1) (by simp [upd]) (by simp [upd]); have h2 := before_idx hi; unfold above at h2; rw [h2] at this; exact this)
        (fun i h1 hi => by have := above_p n key i hi (upd (upd none' k (some (.cells (nodeCells n)))) (k + 1) (some (.cells [.str key]))) k (k + 1) (by simp [upd]) (by simp [upd]); have h2 := from_idx (above_mono hk key) h1 hi; unfold above at h2; rw [h2] at this; exact this)) ?_
      refine WpItems.eval (by simp only [go_sem, reduceIte, Nat.reduceEqDiff, Nat.reduceAdd, Bool.false_eq_true, Bool.true_beq, Bool.false_beq, Bool.not_true, Bool.not_false]; exact rfl) ?_
      refine WpItems.nil ⟨by trivial, ?_⟩
      refine Wp.ret ⟨trivial, _, rfl, ?_⟩
      simp only [go_sem, reduceIte, Nat.reduceEqDiff, Nat.reduceAdd, Bool.false_eq_true, Bool.true_beq, Bool.false_beq, Bool.not_true, Bool.not_false]
      simp only [place, found, hl', Bool.false_eq_true, if_false, Bool.false_and]
      exact VSub.refl _
    · have hl' : n.leaf = true := by simpa using hl
      have hfl := findIdx_le (least key) n.keys
      refine Wp.skip ?_
      refine Wp.seqItems (by simp only [go_sem, reduceIte, Nat.reduceEqDiff, Nat.reduceAdd, Bool.false_eq_true, Bool.true_beq, Bool.false_beq, Bool.not_true, Bool.not_false]; exact rfl) ?_
      refine WpItems.rcall [k, k + 1] (by simp only [go_sem]) (by simp only [go_sem, reduceIte, Nat.reduceEqDiff, List.map]; exact VSubs.refl _) (fun id o h => h) two_ids (search_p n.keys.length (by have := hn.k; omega) Try.func41 rfl (of_decide_eq_true (by kernel_rfl)) [.ptr k 0, .ptr (k + 1) 0] _ [k, k + 1] two_ids (n.keys.findIdx (least key)) hfl
        (fun i hi => by have := least_p n key i (Nat.lt_of_lt_of_le hi (findIdx_le _ _)) (upd (upd none' k (some (.cells (nodeCells n)))) (k + 1) (some (.cells [.str key]))) k (k + 1) (by simp [upd]) (by simp [upd]); have h2 := before_idx hi; unfold least at h2; rw [h2] at this; exact this)
        (fun i h1 hi => by have := least_p n key i hi (upd (upd none' k (some (.cells (nodeCells n)))) (k + 1) (some (.cells [.str key]))) k (k + 1) (by simp [upd]) (by simp [upd]); have h2 := from_idx (least_mono hk key) h1 hi; unfold least at h2; rw [h2] at this; exact this)) ?_
      refine WpItems.eval (by simp only [go_sem, reduceIte, Nat.reduceEqDiff, Nat.reduceAdd, Bool.false_eq_true, Bool.true_beq, Bool.false_beq, Bool.not_true, Bool.not_false]; exact rfl) ?_
      refine WpItems.nil ⟨by trivial, ?_⟩
      have hp : place n key = n.keys.findIdx (least key) := by simp only [place, hl', if_true]
      rw [← hp] at hfl ⊢
      by_cases hlt : place n key < n.keys.length
      · have h1 : decide ((place n key : Int) < (n.keys.length : Int)) = true := decide_eq_true (by omega)
        have h2 : (0 : Int) ≤ (place n key : Int) := by omega
        have h3 : (place n key : Int) < (n.keys.length : Int) := by omega
        refine Wp.seqReg (by simp only [go_sem, reduceIte, Nat.reduceEqDiff, Nat.reduceAdd, Bool.false_eq_true, Bool.true_beq, Bool.false_beq, Bool.not_true, Bool.not_false, h1, Int.toNat_natCast, strs_getD _ _ _ hlt, h2, h3, and_self, if_true]; exact rfl) (by simp [pairsQ, pairsOk, apart, ent0]) ?_
        refine Wp.ret ⟨trivial, _, rfl, ?_⟩
        simp only [go_sem, reduceIte, Nat.reduceEqDiff, Nat.reduceAdd, Bool.false_eq_true, Bool.true_beq, Bool.false_beq, Bool.not_true, Bool.not_false]
        refine VSub.of_eq ?_
        simp [found, hl', hlt]
      · have h1 : decide ((place n key : Int) < (n.keys.length : Int)) = false := decide_eq_false (by omega)
        refine Wp.seqReg (by simp only [go_sem, reduceIte, Nat.reduceEqDiff, Nat.reduceAdd, Bool.false_eq_true, Bool.true_beq, Bool.false_beq, Bool.not_true, Bool.not_false, h1]; exact rfl) (by simp [pairsQ, pairsOk, apart, ent0]) ?_
        refine Wp.ret ⟨trivial, _, rfl, ?_⟩
        simp only [go_sem, reduceIte, Nat.reduceEqDiff, Nat.reduceAdd, Bool.false_eq_true, Bool.true_beq, Bool.false_beq, Bool.not_true, Bool.not_false]
        refine VSub.of_eq ?_
        simp [found, hl', hlt]
end Go.Proofs.Ytgainpikomhepaa.Page
