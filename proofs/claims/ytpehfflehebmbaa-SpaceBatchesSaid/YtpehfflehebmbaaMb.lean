/- SpaceBatches: the statement 'SpaceBatchesSaid', closed by the law that the walk shows. No condition. -/
import Derived.Deep.CondSized
import Derived.IntWalk
import Derived.KernelRfl
import Derived.Laws.Append
import Derived.Laws.AppendOwn
import Derived.Laws.BytesArg
import Derived.Laws.Cover3
import Derived.Laws.Entries
import Derived.Laws.IdiomCopy
import Derived.Laws.IdiomStrings
import Derived.Laws.Pointers
import Derived.Laws.Small
import Derived.Laws.Strings
import Derived.Laws.StructEq
import Derived.MapKept
import Derived.OpenShut
import Derived.Orders
import Derived.OrdersIn
import Derived.ProofKit
import Derived.RangeFuncRecord
import Derived.RangeFuncSeq
import Derived.ReadAgain
import Derived.Scope
import Derived.Shelf.Slices.Cells
import Derived.Shelf.Slices.Delete
import Derived.Shelf.Spec.SlicesInsertGrow
import Derived.SizedLaws
import Derived.Test.YtpehfflehebmbaaRows
import Derived.Test.YtpehfflehebmbaaMbD
section
set_option linter.unusedSimpArgs false
set_option linter.unusedVariables false
set_option maxRecDepth 10000
namespace Go.Proofs.Ytpehfflehebmbaa.Batch
open Go Go.Av Go.Proofs Go.Proofs.Ytpehfflehebmbaa.C
theorem ls_at {l : List Pr} (h : ∀ p ∈ l, Ls p.k) (j : Nat) : Ls (l.getD j default).k := by
  by_cases hj : j < l.length
  · rw [List.getD_eq_getElem?_getD, List.getElem?_eq_getElem hj]; exact h _ (List.getElem_mem hj)
  · rw [List.getD_eq_getElem?_getD, List.getElem?_eq_none (by omega)]; exact Nat.zero_le _
theorem prs_snoc (l : List Pr) (c : Pr) : prs l ++ [.agg [.str c.k, .str c.v]] = prs (l ++ [c]) := by simp [prs, encPr]
theorem getDp {α : Type} [Inhabited α] {l : List α} {i : Nat} (h : i < l.length) : l.getD i default = l[i] := by
  rw [List.getD_eq_getElem?_getD, List.getElem?_eq_getElem h]; rfl
def hasK (k : Bs) (p : Pr) : Bool := decide (p.k = k)
def getV (l : List Pr) (k : Bs) : Bs := match l.find? (hasK k) with | some p => p.v | none => []
def getE (l : List Pr) (k : Bs) : Nat := match l.find? (hasK k) with | some _ => 0 | none => 7
theorem find_at {l : List Pr} {k : Bs} {j : Nat} (hj : j < l.length) (h : ∀ i, i < j → ¬ (l.getD i default).k = k) (hk : (l.getD j default).k = k) : l.find? (hasK k) = some (l.getD j default) := by
  rw [getDp hj] at hk ⊢
  rw [List.find?_eq_some_iff_getElem]
  refine ⟨by simp [hasK, hk], j, hj, rfl, fun i hi => ?_⟩
  have := h i hi
  rw [getDp (by omega)] at this
  simp [hasK, this]
theorem find_no {l : List Pr} {k : Bs} (h : ∀ i, i < l.length → ¬ (l.getD i default).k = k) : l.find? (hasK k) = none := by
  rw [List.find?_eq_none]
  intro x hx
  obtain ⟨i, hi, rfl⟩ := List.getElem_of_mem hx
  have := h i hi
  rw [getDp hi] at this
  simp [hasK, this]
theorem get_p (l : List Pr) (hl : l.length ≤ 4611686018427387904) (k : Bs) : PCalls Try.prog 105 [.sl 2 (prs l) .any, .str k] (.tup [.str (getV l k), .int .i64 (getE l k)]) := by
  refine f105.pcalls0 (by simp) (by simp [allPure, isPure, capPure, prs_pure]) (by simp [isPure, allPure]) ?_
  unfold c105
  repeat (first
    | ((first | apply Wp.seqItems | apply Wp.items); (· simp only [go_sem, reduceIte, Nat.reduceEqDiff, Nat.reduceAdd, bx, ax, if_true, if_false, Nat.reduceMul, Nat.reduceLeDiff]; exact rfl))
    | (refine WpItems.nil ⟨?_, ?_⟩; (· first | trivial | simp [pairsQ, pairsOk, apart, ent0]))
    | (apply Wp.cond_lit; (· simp only [go_sem, reduceIte, Nat.reduceEqDiff, Nat.reduceAdd, bx, ax, if_true, if_false, Nat.reduceMul, Nat.reduceLeDiff]; exact rfl); (· rfl))
    | refine Wp.skip ?_
    | refine Wp.label ?_
    | refine Wp.block ?_
    | refine Wp.exit ?_
    | refine Wp.seq ?_)
  refine Wp.loopK [0, 1] (by simp only [go_sem, reduceIte, Nat.reduceEqDiff, Nat.reduceAdd, bx, List.map]; exact rfl) (fun j : Nat => [(6, .int .i64 j)]) (fun j => j ≤ l.length ∧ ∀ i, i < j → ¬ (l.getD i default).k = k) (fun j => l.length - j) 0 ⟨Nat.zero_le _, fun i h => absurd h (by omega)⟩ ?_ ?_
  · simp only [AllSub, go_sem, reduceIte, Nat.reduceEqDiff, Nat.reduceAdd, bx]; and_intros <;> first | exact trivial | exact VSub.refl _ | exact VSub.any _ | (refine VSub.int ?_; omega)
  · rintro j ⟨hj, hr⟩
    by_cases hc : j < l.length
    · have d1 : decide ((j : Int) < (l.length : Int)) = true := decide_eq_true (by omega)
      have h2 : (0 : Int) ≤ (j : Int) := by omega
      have h3 : (j : Int) < (l.length : Int) := by omega
      have e1 : IntKind.i64.wrap ((j : Int) + 1) = ((j + 1 : Nat) : Int) := by rw [IntWalk.i64_in _ (by omega)]; omega
      by_cases hk : (l.getD j default).k = k
      · have d2 : decide ((l.getD j default).k = k) = true := decide_eq_true hk
        have hf := find_at hc hr hk
        repeat (first
          | ((first | apply Wp.seqItems | apply Wp.items); (· simp only [go_sem, reduceIte, Nat.reduceEqDiff, Nat.reduceAdd, bx, ax, if_true, if_false, Nat.reduceMul, Nat.reduceLeDiff, prs_length, d1, d2, h2, h3, Int.toNat_natCast, prs_getD _ _ _ hc, encPr]; exact rfl))
          | (refine WpItems.nil ⟨?_, ?_⟩; (· first | trivial | simp [pairsQ, pairsOk, apart, ent0]))
          | (apply Wp.cond_lit; (· simp only [go_sem, reduceIte, Nat.reduceEqDiff, Nat.reduceAdd, bx, ax, if_true, if_false, Nat.reduceMul, Nat.reduceLeDiff, prs_length, d1, d2, h2, h3, Int.toNat_natCast, prs_getD _ _ _ hc, encPr]; exact rfl); (· rfl))
          | refine Wp.skip ?_
          | refine Wp.label ?_
          | refine Wp.block ?_
          | refine Wp.exit ?_
          | refine Wp.seq ?_)
        refine Wp.ret ⟨trivial, _, rfl, ?_⟩
        simp only [go_sem, reduceIte, Nat.reduceEqDiff, Nat.reduceAdd, bx]
        exact VSub.of_eq (by simp only [getV, getE, hf]; rfl)
      · have d2 : decide ((l.getD j default).k = k) = false := decide_eq_false hk
        repeat (first
          | ((first | apply Wp.seqItems | apply Wp.items); (· simp only [go_sem, reduceIte, Nat.reduceEqDiff, Nat.reduceAdd, bx, ax, if_true, if_false, Nat.reduceMul, Nat.reduceLeDiff, prs_length, d1, d2, h2, h3, e1, Int.toNat_natCast, prs_getD _ _ _ hc, encPr]; exact rfl))
          | (refine WpItems.nil ⟨?_, ?_⟩; (· first | trivial | simp [pairsQ, pairsOk, apart, ent0]))
          | (apply Wp.cond_lit; (· simp only [go_sem, reduceIte, Nat.reduceEqDiff, Nat.reduceAdd, bx, ax, if_true, if_false, Nat.reduceMul, Nat.reduceLeDiff, prs_length, d1, d2, h2, h3, e1, Int.toNat_natCast, prs_getD _ _ _ hc, encPr]; exact rfl); (· rfl))
          | refine Wp.skip ?_
          | refine Wp.label ?_
          | refine Wp.block ?_
          | refine Wp.exit ?_
          | refine Wp.seq ?_)
        refine ⟨j + 1, ⟨by omega, fun i hi => ?_⟩, by omega, ?_⟩
        · by_cases he : i = j
          · subst he; exact hk
          · exact hr i (by omega)
        · refine StLe.tm (by simp only [AllSub, go_sem, reduceIte, Nat.reduceEqDiff, Nat.reduceAdd, bx]; and_intros <;> first | exact trivial | exact VSub.refl _ | exact VSub.any _ | (refine VSub.int ?_; omega))
    · obtain rfl : j = l.length := by omega
      have d1 : decide ((l.length : Int) < (l.length : Int)) = false := decide_eq_false (by omega)
      have hf := find_no hr
      repeat (first
        | ((first | apply Wp.seqItems | apply Wp.items); (· simp only [go_sem, reduceIte, Nat.reduceEqDiff, Nat.reduceAdd, bx, ax, if_true, if_false, Nat.reduceMul, Nat.reduceLeDiff, prs_length, d1]; exact rfl))
        | (refine WpItems.nil ⟨?_, ?_⟩; (· first | trivial | simp [pairsQ, pairsOk, apart, ent0]))
        | (apply Wp.cond_lit; (· simp only [go_sem, reduceIte, Nat.reduceEqDiff, Nat.reduceAdd, bx, ax, if_true, if_false, Nat.reduceMul, Nat.reduceLeDiff, prs_length, d1]; exact rfl); (· rfl))
        | refine Wp.skip ?_
        | refine Wp.label ?_
        | refine Wp.block ?_
        | refine Wp.exit ?_
        | refine Wp.seq ?_)
      refine Wp.ret ⟨trivial, _, rfl, ?_⟩
      simp only [go_sem, reduceIte, Nat.reduceEqDiff, Nat.reduceAdd, bx]
      exact VSub.of_eq (by simp only [getV, getE, hf]; rfl)
def rest (k : Bs) (l : List Pr) : List Pr := l.filter fun p => !hasK k p
theorem rest_cons (k : Bs) (p : Pr) (l : List Pr) : rest k (p :: l) = (if p.k = k then [] else [p]) ++ rest k l := by
  simp only [rest, List.filter_cons, hasK]
  by_cases h : p.k = k <;> simp [h]
def dropP (l : List Pr) (k : Bs) : List Pr := if getE l k = 0 then rest k l else l
def dropE (l : List Pr) (k : Bs) : Nat := getE l k
theorem getE_cases (l : List Pr) (k : Bs) : getE l k = 0 ∨ getE l k = 7 := by
  unfold getE; split <;> simp
set_option maxHeartbeats 2000000 in
theorem dropP_p (l : List Pr) (hl : l.length ≤ 1000000) (k : Bs) : PCalls Try.prog 56 [.sl 2 (prs l) .any, .str k] (.tup [.sl 2 (prs (dropP l k)) .any, .int .i64 (dropE l k)]) := by
  refine f56.pcalls0 (by simp) (by simp [allPure, isPure, capPure, prs_pure]) (by simp [isPure, allPure, capPure, prs_pure]) ?_
  unfold c56
  have hg := get_p l (by omega) k
  rcases getE_cases l k with h0 | h7
  · have hd : dropP l k = rest k l := by rw [dropP, if_pos h0]
    have he : dropE l k = 0 := h0
    rw [hd, he]
    rw [h0] at hg
    have z : decide (((0 : Nat) : Int) = 0) = true := by decide
    repeat (first
      | ((first | apply Wp.seqItems | apply Wp.items | ((first
          | (refine WpItems.pcall ?_ ?_ (hg) ?_; (· simp only [go_sem, reduceIte, Nat.reduceEqDiff, Nat.reduceAdd, bx]); (· simp only [go_sem, reduceIte, Nat.reduceEqDiff, Nat.reduceAdd, bx, List.map]; first | exact VSubs.refl _ | (repeat (first | exact VSubs.nil | refine VSubs.cons (by first | exact VSub.refl _ | assumption | exact VSub.cap | exact VSub.any _) ?_))))); apply WpItems.eval)); (· simp only [go_sem, reduceIte, Nat.reduceEqDiff, Nat.reduceAdd, bx, ax, if_true, if_false, Nat.reduceMul, Nat.reduceLeDiff, z]; exact rfl))
      | (refine WpItems.nil ⟨?_, ?_⟩; (· first | trivial | simp [pairsQ, pairsOk, apart, ent0]))
      | (apply Wp.cond_lit; (· simp only [go_sem, reduceIte, Nat.reduceEqDiff, Nat.reduceAdd, bx, ax, if_true, if_false, Nat.reduceMul, Nat.reduceLeDiff, z]; exact rfl); (· rfl))
      | refine Wp.skip ?_
      | refine Wp.label ?_
      | refine Wp.block ?_
      | refine Wp.exit ?_
      | refine Wp.seq ?_)
    refine Wp.le (StLe.tok _ _) ?_
    refine Wp.loopTok [0, 1] (by simp only [go_sem, reduceIte, Nat.reduceEqDiff, List.map]; exact rfl) (fun (j : Nat × List Pr) tk => [(8, .sl 2 (prs j.2) (.own tk)), (9, .int .i64 j.1)]) (fun j => j.1 ≤ l.length ∧ j.2 ++ rest k (l.drop j.1) = rest k l ∧ j.2.length ≤ j.1) (fun j => l.length - j.1) (0, []) _ ⟨Nat.zero_le _, by simp, Nat.le_refl _⟩ rfl ?_ ?_
    · simp only [AllSub, go_sem, reduceIte, Nat.reduceEqDiff, Nat.reduceAdd, bx]; and_intros <;> first | exact trivial | exact VSub.refl _ | exact VSub.any _ | exact VSub.own_of rfl | (refine VSub.int ?_; omega)
    · rintro ⟨j, o⟩ tk m ⟨hj, ho, hol⟩
      simp only at hj ho hol
      by_cases hc : j < l.length
      · have d1 : decide ((j : Int) < (l.length : Int)) = true := decide_eq_true (by omega)
        have h2 : (0 : Int) ≤ (j : Int) := by omega
        have h3 : (j : Int) < (l.length : Int) := by omega
        have e1 : IntKind.i64.wrap ((j : Int) + 1) = ((j + 1 : Nat) : Int) := by rw [IntWalk.i64_in _ (by omega)]; omega
        rw [drop_at hc, rest_cons] at ho
        have g0 : (o.length + 1) * 32 ≤ 140737488355328 := by omega
        have g0' : o.length + 1 < 4611686018427387904 := by omega
        by_cases hk : (l.getD j default).k = k
        · have d2 : decide ((l.getD j default).k = k) = true := decide_eq_true hk
          rw [if_pos hk, List.nil_append] at ho
          repeat (first
            | ((first | apply Wp.seqItems | apply Wp.items); (· simp only [go_sem, reduceIte, Nat.reduceEqDiff, Nat.reduceAdd, bx, ax, if_true, if_false, Nat.reduceMul, Nat.reduceLeDiff, prs_length, d1, d2, h2, h3, e1, Int.toNat_natCast, prs_getD _ _ _ hc, encPr]; exact rfl))
            | (refine WpItems.nil ⟨?_, ?_⟩; (· first | trivial | simp [pairsQ, pairsOk, apart, ent0]))
            | (apply Wp.cond_lit; (· simp only [go_sem, reduceIte, Nat.reduceEqDiff, Nat.reduceAdd, bx, ax, if_true, if_false, Nat.reduceMul, Nat.reduceLeDiff, prs_length, d1, d2, h2, h3, e1, Int.toNat_natCast, prs_getD _ _ _ hc, encPr]; exact rfl); (· rfl))
            | refine Wp.skip ?_
            | refine Wp.label ?_
            | refine Wp.block ?_
            | refine Wp.exit ?_
            | refine Wp.seq ?_)
          refine ⟨(j + 1, o), tk, m, ⟨by simp only; omega, ho, by simp only; omega⟩, by simp only; omega, ?_⟩
          refine StLe.tm (by simp only [AllSub, go_sem, reduceIte, Nat.reduceEqDiff, Nat.reduceAdd, bx]; and_intros <;> first | exact trivial | exact VSub.refl _ | exact VSub.any _ | (refine VSub.int ?_; omega))
        · have d2 : decide ((l.getD j default).k = k) = false := decide_eq_false hk
          rw [if_neg hk] at ho
          repeat (first
            | ((first | apply Wp.seqItems | apply Wp.items); (· simp only [go_sem, reduceIte, Nat.reduceEqDiff, Nat.reduceAdd, bx, ax, if_true, if_false, Nat.reduceMul, Nat.reduceLeDiff, prs_length, d1, d2, h2, h3, e1, Int.toNat_natCast, prs_getD _ _ _ hc, encPr, List.length_cons, List.length_nil, Nat.zero_add, g0, g0']; exact rfl))
            | (refine WpItems.nil ⟨?_, ?_⟩; (· first | trivial | simp [pairsQ, pairsOk, apart, ent0]))
            | (apply Wp.cond_lit; (· simp only [go_sem, reduceIte, Nat.reduceEqDiff, Nat.reduceAdd, bx, ax, if_true, if_false, Nat.reduceMul, Nat.reduceLeDiff, prs_length, d1, d2, h2, h3, e1, Int.toNat_natCast, prs_getD _ _ _ hc, encPr, List.length_cons, List.length_nil, Nat.zero_add, g0, g0']; exact rfl); (· rfl))
            | refine Wp.skip ?_
            | refine Wp.label ?_
            | refine Wp.block ?_
            | refine Wp.exit ?_
            | refine Wp.seq ?_)
          refine ⟨(j + 1, o ++ [l.getD j default]), m, m + 1, ⟨by simp only; omega, by rw [← ho]; simp, by simp; omega⟩, by simp only; omega, ?_⟩
          refine StLe.tm (by simp only [AllSub, go_sem, reduceIte, Nat.reduceEqDiff, Nat.reduceAdd, bx]; and_intros <;> first | exact trivial | exact VSub.refl _ | exact VSub.any _ | exact VSub.of_eq (by rw [← prs_snoc]) | (refine VSub.int ?_; omega))
      · obtain rfl : j = l.length := by omega
        have d1 : decide ((l.length : Int) < (l.length : Int)) = false := decide_eq_false (by omega)
        rw [List.drop_length] at ho
        have ho' : o = rest k l := by rw [← ho]; simp [rest]
        repeat (first
          | ((first | apply Wp.seqItems | apply Wp.items); (· simp only [go_sem, reduceIte, Nat.reduceEqDiff, Nat.reduceAdd, bx, ax, if_true, if_false, Nat.reduceMul, Nat.reduceLeDiff, prs_length, d1]; exact rfl))
          | (refine WpItems.nil ⟨?_, ?_⟩; (· first | trivial | simp [pairsQ, pairsOk, apart, ent0]))
          | (apply Wp.cond_lit; (· simp only [go_sem, reduceIte, Nat.reduceEqDiff, Nat.reduceAdd, bx, ax, if_true, if_false, Nat.reduceMul, Nat.reduceLeDiff, prs_length, d1]; exact rfl); (· rfl))
          | refine Wp.skip ?_
          | refine Wp.label ?_
          | refine Wp.block ?_
          | refine Wp.exit ?_
          | refine Wp.seq ?_)
        refine Wp.ret ⟨trivial, _, rfl, ?_⟩
        simp only [go_sem, reduceIte, Nat.reduceEqDiff, Nat.reduceAdd, bx]
        rw [ho']
        exact VSub.tup (VSubs.cons VSub.own (VSubs.refl _))
  · have hd : dropP l k = l := by rw [dropP, if_neg (by omega)]
    have he : dropE l k = 7 := h7
    rw [hd, he]
    rw [h7] at hg
    have z : decide (((7 : Nat) : Int) = 0) = false := by decide
    repeat (first
      | ((first | apply Wp.seqItems | apply Wp.items | ((first
          | (refine WpItems.pcall ?_ ?_ (hg) ?_; (· simp only [go_sem, reduceIte, Nat.reduceEqDiff, Nat.reduceAdd, bx]); (· simp only [go_sem, reduceIte, Nat.reduceEqDiff, Nat.reduceAdd, bx, List.map]; first | exact VSubs.refl _ | (repeat (first | exact VSubs.nil | refine VSubs.cons (by first | exact VSub.refl _ | assumption | exact VSub.cap | exact VSub.any _) ?_))))); apply WpItems.eval)); (· simp only [go_sem, reduceIte, Nat.reduceEqDiff, Nat.reduceAdd, bx, ax, if_true, if_false, Nat.reduceMul, Nat.reduceLeDiff, z]; exact rfl))
      | (refine WpItems.nil ⟨?_, ?_⟩; (· first | trivial | simp [pairsQ, pairsOk, apart, ent0]))
      | (apply Wp.cond_lit; (· simp only [go_sem, reduceIte, Nat.reduceEqDiff, Nat.reduceAdd, bx, ax, if_true, if_false, Nat.reduceMul, Nat.reduceLeDiff, z]; exact rfl); (· rfl))
      | refine Wp.skip ?_
      | refine Wp.label ?_
      | refine Wp.block ?_
      | refine Wp.exit ?_
      | refine Wp.seq ?_)
    refine Wp.ret ⟨trivial, _, rfl, ?_⟩
    simp only [go_sem, reduceIte, Nat.reduceEqDiff, Nat.reduceAdd, bx]
    exact VSub.refl _
def shut (k v : Bs) : Bool := decide (128 < k.length) || decide (200 < v.length)
def putGo (k v : Bs) : Bool → List Pr → List Pr
  | laid, [] => if laid then [] else [⟨k, v⟩]
  | laid, p :: l => (if laid = false ∧ Op.bytesLess p.k k = false then [⟨k, v⟩] else []) ++ ((if p.k = k then [] else [p]) ++ putGo k v (laid || !Op.bytesLess p.k k) l)
def putP (l : List Pr) (k v : Bs) : List Pr := if shut k v then l else putGo k v false l
def putPE (k v : Bs) : Nat := if shut k v then 2 else 0
theorem putGo_len (k v : Bs) : ∀ (l : List Pr) (b : Bool), (putGo k v b l).length ≤ l.length + (if b then 0 else 1)
  | [], b => by cases b <;> simp [putGo]
  | p :: l, b => by
    have h1 := putGo_len k v l true
    have h2 := putGo_len k v l false
    simp only [if_true, if_false, Bool.false_eq_true, Nat.add_zero] at h1 h2
    rw [putGo]
    cases b <;> cases Op.bytesLess p.k k <;> by_cases hk : p.k = k <;> simp [hk] <;> omega
theorem put_len' (l : List Pr) (k v : Bs) : (putP l k v).length ≤ l.length + 1 := by
  unfold putP; split
  · omega
  · exact putGo_len k v l false
theorem rooms {n : Nat} (h : n ≤ 2000000) : (n + 1) * 32 ≤ 140737488355328 ∧ n + 1 < 4611686018427387904 ∧ (n + 1 + 1) * 32 ≤ 140737488355328 ∧ n + 1 + 1 < 4611686018427387904 := by omega
set_option maxHeartbeats 1000000 in
theorem putP_p (l : List Pr) (hl : l.length ≤ 1000000) (lk : ∀ p ∈ l, Ls p.k) (k v : Bs) (hkk : Ls k) : PCalls Try.prog 57 [.sl 2 (prs l) .any, .str k, .str v] (.tup [.sl 2 (prs (putP l k v)) .any, .int .i64 (putPE k v)]) := by
  refine f57.pcalls0 (by simp) (by simp [allPure, isPure, capPure, prs_pure]) (by simp [isPure, allPure, capPure, prs_pure]) ?_
  unfold c57
  by_cases h1 : 128 < k.length
  · have d1 : decide ((128 : Int) < (k.length : Int)) = true := decide_eq_true (by omega)
    have hs : shut k v = true := by simp [shut, h1]
    repeat (first
      | ((first | apply Wp.seqItems | apply Wp.items); (· simp only [go_sem, reduceIte, Nat.reduceEqDiff, Nat.reduceAdd, bx, ax, if_true, if_false, Nat.reduceMul, Nat.reduceLeDiff, d1]; exact rfl))
      | (refine WpItems.nil ⟨?_, ?_⟩; (· first | trivial | simp [pairsQ, pairsOk, apart, ent0]))
      | (apply Wp.cond_lit; (· simp only [go_sem, reduceIte, Nat.reduceEqDiff, Nat.reduceAdd, bx, ax, if_true, if_false, Nat.reduceMul, Nat.reduceLeDiff, d1]; exact rfl); (· rfl))
      | refine Wp.skip ?_
      | refine Wp.label ?_
      | refine Wp.block ?_
      | refine Wp.exit ?_
      | refine Wp.seq ?_)
    refine Wp.ret ⟨trivial, _, rfl, ?_⟩
    simp only [go_sem, reduceIte, Nat.reduceEqDiff, Nat.reduceAdd, bx]
    rw [putP, if_pos hs, putPE, if_pos hs]
    exact VSub.refl _
  · have d1 : decide ((128 : Int) < (k.length : Int)) = false := decide_eq_false (by omega)
    by_cases h2 : 200 < v.length
    · have d2 : decide ((200 : Int) < (v.length : Int)) = true := decide_eq_true (by omega)
      have hs : shut k v = true := by simp [shut, h2]
      repeat (first
        | ((first | apply Wp.seqItems | apply Wp.items); (· simp only [go_sem, reduceIte, Nat.reduceEqDiff, Nat.reduceAdd, bx, ax, if_true, if_false, Nat.reduceMul, Nat.reduceLeDiff, d1, d2]; exact rfl))
        | (refine WpItems.nil ⟨?_, ?_⟩; (· first | trivial | simp [pairsQ, pairsOk, apart, ent0]))
        | (apply Wp.cond_lit; (· simp only [go_sem, reduceIte, Nat.reduceEqDiff, Nat.reduceAdd, bx, ax, if_true, if_false, Nat.reduceMul, Nat.reduceLeDiff, d1, d2]; exact rfl); (· rfl))
        | refine Wp.skip ?_
        | refine Wp.label ?_
        | refine Wp.block ?_
        | refine Wp.exit ?_
        | refine Wp.seq ?_)
      refine Wp.ret ⟨trivial, _, rfl, ?_⟩
      simp only [go_sem, reduceIte, Nat.reduceEqDiff, Nat.reduceAdd, bx]
      rw [putP, if_pos hs, putPE, if_pos hs]
      exact VSub.refl _
    · have d2 : decide ((200 : Int) < (v.length : Int)) = false := decide_eq_false (by omega)
      have hs : ¬ shut k v = true := by simp [shut]; omega
      rw [putP, if_neg hs, putPE, if_neg hs]
      repeat (first
        | ((first | apply Wp.seqItems | apply Wp.items); (· simp only [go_sem, reduceIte, Nat.reduceEqDiff, Nat.reduceAdd, bx, ax, if_true, if_false, Nat.reduceMul, Nat.reduceLeDiff, d1, d2]; exact rfl))
        | (refine WpItems.nil ⟨?_, ?_⟩; (· first | trivial | simp [pairsQ, pairsOk, apart, ent0]))
        | (apply Wp.cond_lit; (· simp only [go_sem, reduceIte, Nat.reduceEqDiff, Nat.reduceAdd, bx, ax, if_true, if_false, Nat.reduceMul, Nat.reduceLeDiff, d1, d2]; exact rfl); (· rfl))
        | refine Wp.skip ?_
        | refine Wp.label ?_
        | refine Wp.block ?_
        | refine Wp.exit ?_
        | refine Wp.seq ?_)
      refine Wp.le (StLe.tok _ _) ?_
      refine Wp.loopTok [0, 1, 2] (by simp only [go_sem, reduceIte, Nat.reduceEqDiff, List.map]; exact rfl) (fun (j : Nat × List Pr × Bool) tk => [(8, .sl 2 (prs j.2.1) (.own tk)), (9, .bool j.2.2), (10, .int .i64 j.1)]) (fun j => j.1 ≤ l.length ∧ j.2.1 ++ putGo k v j.2.2 (l.drop j.1) = putGo k v false l ∧ j.2.1.length ≤ 2 * j.1) (fun j => l.length - j.1) (0, [], false) _ ⟨Nat.zero_le _, by simp, Nat.le_refl _⟩ rfl ?_ ?_
      · simp only [AllSub, go_sem, reduceIte, Nat.reduceEqDiff, Nat.reduceAdd, bx]; and_intros <;> first | exact trivial | exact VSub.refl _ | exact VSub.any _ | exact VSub.own_of rfl | (refine VSub.int ?_; omega)
      · rintro ⟨j, o, b⟩ tk m ⟨hj, ho, hol⟩
        simp only at hj ho hol
        obtain ⟨g0, g0', g1, g1'⟩ := rooms (show o.length ≤ 2000000 by omega)
        by_cases hc : j < l.length
        · have q1 : decide ((j : Int) < (l.length : Int)) = true := decide_eq_true (by omega)
          have q2 : (0 : Int) ≤ (j : Int) := by omega
          have q3 : (j : Int) < (l.length : Int) := by omega
          have e1 : IntKind.i64.wrap ((j : Int) + 1) = ((j + 1 : Nat) : Int) := by rw [IntWalk.i64_in _ (by omega)]; omega
          rw [drop_at hc, putGo] at ho
          have hls := ls_at lk j
          have hbel := below_p (l.getD j default).k k hls hkk
          by_cases hk : (l.getD j default).k = k
          · have q4 : decide ((l.getD j default).k = k) = true := decide_eq_true hk
            rw [if_pos hk, List.nil_append] at ho
            cases b with
            | true =>
              simp only [Bool.true_eq_false, false_and, if_false, List.nil_append, Bool.true_or] at ho
              repeat (first
                | ((first | apply Wp.seqItems | apply Wp.items); (· simp only [go_sem, reduceIte, Nat.reduceEqDiff, Nat.reduceAdd, bx, ax, if_true, if_false, Nat.reduceMul, Nat.reduceLeDiff, prs_length, q1, q2, q3, q4, e1, Int.toNat_natCast, prs_getD _ _ _ hc, encPr]; exact rfl))
                | (refine WpItems.nil ⟨?_, ?_⟩; (· first | trivial | simp [pairsQ, pairsOk, apart, ent0]))
                | (apply Wp.cond_lit; (· simp only [go_sem, reduceIte, Nat.reduceEqDiff, Nat.reduceAdd, bx, ax, if_true, if_false, Nat.reduceMul, Nat.reduceLeDiff, prs_length, q1, q2, q3, q4, e1, Int.toNat_natCast, prs_getD _ _ _ hc, encPr]; exact rfl); (· rfl))
                | refine Wp.skip ?_
                | refine Wp.label ?_
                | refine Wp.block ?_
                | refine Wp.exit ?_
                | refine Wp.seq ?_)
              refine ⟨(j + 1, o, true), tk, m, ⟨by simp only; omega, ho, by simp only; omega⟩, by simp only; omega, ?_⟩
              refine StLe.tm (by simp only [AllSub, go_sem, reduceIte, Nat.reduceEqDiff, Nat.reduceAdd, bx]; and_intros <;> first | exact trivial | exact VSub.refl _ | exact VSub.any _ | (refine VSub.int ?_; omega))
            | false =>
              cases hb : Op.bytesLess (l.getD j default).k k with
              | true =>
                rw [hb] at hbel ho
                simp only [Bool.true_eq_false, and_false, if_false, List.nil_append, Bool.not_true, Bool.or_self] at ho
                repeat (first
                  | ((first | apply Wp.seqItems | apply Wp.items | ((first
                      | (refine WpItems.pcall ?_ ?_ (hbel) ?_; (· simp only [go_sem, reduceIte, Nat.reduceEqDiff, Nat.reduceAdd, bx]); (· simp only [go_sem, reduceIte, Nat.reduceEqDiff, Nat.reduceAdd, bx, List.map]; first | exact VSubs.refl _ | (repeat (first | exact VSubs.nil | refine VSubs.cons (by first | exact VSub.refl _ | assumption | exact VSub.cap | exact VSub.any _) ?_))))); apply WpItems.eval)); (· simp only [go_sem, reduceIte, Nat.reduceEqDiff, Nat.reduceAdd, bx, ax, if_true, if_false, Nat.reduceMul, Nat.reduceLeDiff, prs_length, q1, q2, q3, q4, e1, Int.toNat_natCast, prs_getD _ _ _ hc, encPr]; exact rfl))
                  | (refine WpItems.nil ⟨?_, ?_⟩; (· first | trivial | simp [pairsQ, pairsOk, apart, ent0]))
                  | (apply Wp.cond_lit; (· simp only [go_sem, reduceIte, Nat.reduceEqDiff, Nat.reduceAdd, bx, ax, if_true, if_false, Nat.reduceMul, Nat.reduceLeDiff, prs_length, q1, q2, q3, q4, e1, Int.toNat_natCast, prs_getD _ _ _ hc, encPr]; exact rfl); (· rfl))
                  | refine Wp.skip ?_
                  | refine Wp.label ?_
                  | refine Wp.block ?_
                  | refine Wp.exit ?_
                  | refine Wp.seq ?_)
                refine ⟨(j + 1, o, false), tk, m, ⟨by simp only; omega, ho, by simp only; omega⟩, by simp only; omega, ?_⟩
                refine StLe.tm (by simp only [AllSub, go_sem, reduceIte, Nat.reduceEqDiff, Nat.reduceAdd, bx]; and_intros <;> first | exact trivial | exact VSub.refl _ | exact VSub.any _ | (refine VSub.int ?_; omega))
              | false =>
                rw [hb] at hbel ho
                simp only [true_and, and_self, if_true, Bool.not_false, Bool.or_true] at ho
                repeat (first
                  | ((first | apply Wp.seqItems | apply Wp.items | ((first
                      | (refine WpItems.pcall ?_ ?_ (hbel) ?_; (· simp only [go_sem, reduceIte, Nat.reduceEqDiff, Nat.reduceAdd, bx]); (· simp only [go_sem, reduceIte, Nat.reduceEqDiff, Nat.reduceAdd, bx, List.map]; first | exact VSubs.refl _ | (repeat (first | exact VSubs.nil | refine VSubs.cons (by first | exact VSub.refl _ | assumption | exact VSub.cap | exact VSub.any _) ?_))))); apply WpItems.eval)); (· simp only [go_sem, reduceIte, Nat.reduceEqDiff, Nat.reduceAdd, bx, ax, if_true, if_false, Nat.reduceMul, Nat.reduceLeDiff, prs_length, q1, q2, q3, q4, e1, Int.toNat_natCast, prs_getD _ _ _ hc, encPr, List.length_cons, List.length_nil, Nat.zero_add, g0, g0']; exact rfl))
                  | (refine WpItems.nil ⟨?_, ?_⟩; (· first | trivial | simp [pairsQ, pairsOk, apart, ent0]))
                  | (apply Wp.cond_lit; (· simp only [go_sem, reduceIte, Nat.reduceEqDiff, Nat.reduceAdd, bx, ax, if_true, if_false, Nat.reduceMul, Nat.reduceLeDiff, prs_length, q1, q2, q3, q4, e1, Int.toNat_natCast, prs_getD _ _ _ hc, encPr, List.length_cons, List.length_nil, Nat.zero_add, g0, g0']; exact rfl); (· rfl))
                  | refine Wp.skip ?_
                  | refine Wp.label ?_
                  | refine Wp.block ?_
                  | refine Wp.exit ?_
                  | refine Wp.seq ?_)
                refine ⟨(j + 1, o ++ [⟨k, v⟩], true), m, m + 1, ⟨by simp only; omega, by rw [← ho]; simp, by simp; omega⟩, by simp only; omega, ?_⟩
                refine StLe.tm (by simp only [AllSub, go_sem, reduceIte, Nat.reduceEqDiff, Nat.reduceAdd, bx]; and_intros <;> first | exact trivial | exact VSub.refl _ | exact VSub.any _ | exact VSub.of_eq (by rw [← prs_snoc]) | (refine VSub.int ?_; omega))
          · have q4 : decide ((l.getD j default).k = k) = false := decide_eq_false hk
            rw [if_neg hk] at ho
            cases b with
            | true =>
              simp only [Bool.true_eq_false, false_and, if_false, List.nil_append, Bool.true_or] at ho
              repeat (first
                | ((first | apply Wp.seqItems | apply Wp.items); (· simp only [go_sem, reduceIte, Nat.reduceEqDiff, Nat.reduceAdd, bx, ax, if_true, if_false, Nat.reduceMul, Nat.reduceLeDiff, prs_length, q1, q2, q3, q4, e1, Int.toNat_natCast, prs_getD _ _ _ hc, encPr, List.length_cons, List.length_nil, Nat.zero_add, g0, g0']; exact rfl))
                | (refine WpItems.nil ⟨?_, ?_⟩; (· first | trivial | simp [pairsQ, pairsOk, apart, ent0]))
                | (apply Wp.cond_lit; (· simp only [go_sem, reduceIte, Nat.reduceEqDiff, Nat.reduceAdd, bx, ax, if_true, if_false, Nat.reduceMul, Nat.reduceLeDiff, prs_length, q1, q2, q3, q4, e1, Int.toNat_natCast, prs_getD _ _ _ hc, encPr, List.length_cons, List.length_nil, Nat.zero_add, g0, g0']; exact rfl); (· rfl))
                | refine Wp.skip ?_
                | refine Wp.label ?_
                | refine Wp.block ?_
                | refine Wp.exit ?_
                | refine Wp.seq ?_)
              refine ⟨(j + 1, o ++ [l.getD j default], true), m, m + 1, ⟨by simp only; omega, by rw [← ho]; simp, by simp; omega⟩, by simp only; omega, ?_⟩
              refine StLe.tm (by simp only [AllSub, go_sem, reduceIte, Nat.reduceEqDiff, Nat.reduceAdd, bx]; and_intros <;> first | exact trivial | exact VSub.refl _ | exact VSub.any _ | exact VSub.of_eq (by rw [← prs_snoc]) | (refine VSub.int ?_; omega))
            | false =>
              cases hb : Op.bytesLess (l.getD j default).k k with
              | true =>
                rw [hb] at hbel ho
                simp only [Bool.true_eq_false, and_false, if_false, List.nil_append, Bool.not_true, Bool.or_self] at ho
                repeat (first
                  | ((first | apply Wp.seqItems | apply Wp.items | ((first
                      | (refine WpItems.pcall ?_ ?_ (hbel) ?_; (· simp only [go_sem, reduceIte, Nat.reduceEqDiff, Nat.reduceAdd, bx]); (· simp only [go_sem, reduceIte, Nat.reduceEqDiff, Nat.reduceAdd, bx, List.map]; first | exact VSubs.refl _ | (repeat (first | exact VSubs.nil | refine VSubs.cons (by first | exact VSub.refl _ | assumption | exact VSub.cap | exact VSub.any _) ?_))))); apply WpItems.eval)); (· simp only [go_sem, reduceIte, Nat.reduceEqDiff, Nat.reduceAdd, bx, ax, if_true, if_false, Nat.reduceMul, Nat.reduceLeDiff, prs_length, q1, q2, q3, q4, e1, Int.toNat_natCast, prs_getD _ _ _ hc, encPr, List.length_cons, List.length_nil, Nat.zero_add, g0, g0']; exact rfl))
                  | (refine WpItems.nil ⟨?_, ?_⟩; (· first | trivial | simp [pairsQ, pairsOk, apart, ent0]))
                  | (apply Wp.cond_lit; (· simp only [go_sem, reduceIte, Nat.reduceEqDiff, Nat.reduceAdd, bx, ax, if_true, if_false, Nat.reduceMul, Nat.reduceLeDiff, prs_length, q1, q2, q3, q4, e1, Int.toNat_natCast, prs_getD _ _ _ hc, encPr, List.length_cons, List.length_nil, Nat.zero_add, g0, g0']; exact rfl); (· rfl))
                  | refine Wp.skip ?_
                  | refine Wp.label ?_
                  | refine Wp.block ?_
                  | refine Wp.exit ?_
                  | refine Wp.seq ?_)
                refine ⟨(j + 1, o ++ [l.getD j default], false), m, m + 1, ⟨by simp only; omega, by rw [← ho]; simp, by simp; omega⟩, by simp only; omega, ?_⟩
                refine StLe.tm (by simp only [AllSub, go_sem, reduceIte, Nat.reduceEqDiff, Nat.reduceAdd, bx]; and_intros <;> first | exact trivial | exact VSub.refl _ | exact VSub.any _ | exact VSub.of_eq (by rw [← prs_snoc]) | (refine VSub.int ?_; omega))
              | false =>
                rw [hb] at hbel ho
                simp only [true_and, and_self, if_true, Bool.not_false, Bool.or_true] at ho
                repeat (first
                  | ((first | apply Wp.seqItems | apply Wp.items | ((first
                      | (refine WpItems.pcall ?_ ?_ (hbel) ?_; (· simp only [go_sem, reduceIte, Nat.reduceEqDiff, Nat.reduceAdd, bx]); (· simp only [go_sem, reduceIte, Nat.reduceEqDiff, Nat.reduceAdd, bx, List.map]; first | exact VSubs.refl _ | (repeat (first | exact VSubs.nil | refine VSubs.cons (by first | exact VSub.refl _ | assumption | exact VSub.cap | exact VSub.any _) ?_))))); apply WpItems.eval)); (· simp only [go_sem, reduceIte, Nat.reduceEqDiff, Nat.reduceAdd, bx, ax, if_true, if_false, Nat.reduceMul, Nat.reduceLeDiff, prs_length, q1, q2, q3, q4, e1, Int.toNat_natCast, prs_getD _ _ _ hc, encPr, List.length_cons, List.length_nil, Nat.zero_add, g0, g0', g1, g1']; exact rfl))
                  | (refine WpItems.nil ⟨?_, ?_⟩; (· first | trivial | simp [pairsQ, pairsOk, apart, ent0]))
                  | (apply Wp.cond_lit; (· simp only [go_sem, reduceIte, Nat.reduceEqDiff, Nat.reduceAdd, bx, ax, if_true, if_false, Nat.reduceMul, Nat.reduceLeDiff, prs_length, q1, q2, q3, q4, e1, Int.toNat_natCast, prs_getD _ _ _ hc, encPr, List.length_cons, List.length_nil, Nat.zero_add, g0, g0', g1, g1']; exact rfl); (· rfl))
                  | refine Wp.skip ?_
                  | refine Wp.label ?_
                  | refine Wp.block ?_
                  | refine Wp.exit ?_
                  | refine Wp.seq ?_)
                refine ⟨(j + 1, o ++ [⟨k, v⟩] ++ [l.getD j default], true), m + 1, m + 2, ⟨by simp only; omega, by rw [← ho]; simp, by simp; omega⟩, by simp only; omega, ?_⟩
                refine StLe.tm (by simp only [AllSub, go_sem, reduceIte, Nat.reduceEqDiff, Nat.reduceAdd, bx]; and_intros <;> first | exact trivial | exact VSub.refl _ | exact VSub.any _ | exact VSub.of_eq (by rw [← prs_snoc, ← prs_snoc]) | (refine VSub.int ?_; omega))
        · obtain rfl : j = l.length := by omega
          have q1 : decide ((l.length : Int) < (l.length : Int)) = false := decide_eq_false (by omega)
          rw [List.drop_length, putGo] at ho
          cases b with
          | true =>
            simp only [if_true, List.append_nil] at ho
            repeat (first
              | ((first | apply Wp.seqItems | apply Wp.items); (· simp only [go_sem, reduceIte, Nat.reduceEqDiff, Nat.reduceAdd, bx, ax, if_true, if_false, Nat.reduceMul, Nat.reduceLeDiff, prs_length, q1]; exact rfl))
              | (refine WpItems.nil ⟨?_, ?_⟩; (· first | trivial | simp [pairsQ, pairsOk, apart, ent0]))
              | (apply Wp.cond_lit; (· simp only [go_sem, reduceIte, Nat.reduceEqDiff, Nat.reduceAdd, bx, ax, if_true, if_false, Nat.reduceMul, Nat.reduceLeDiff, prs_length, q1]; exact rfl); (· rfl))
              | refine Wp.skip ?_
              | refine Wp.label ?_
              | refine Wp.block ?_
              | refine Wp.exit ?_
              | refine Wp.seq ?_)
            refine Wp.ret ⟨trivial, _, rfl, ?_⟩
            simp only [go_sem, reduceIte, Nat.reduceEqDiff, Nat.reduceAdd, bx]
            rw [← ho]
            exact VSub.tup (VSubs.cons VSub.own (VSubs.refl _))
          | false =>
            simp only [Bool.false_eq_true, if_false] at ho
            repeat (first
              | ((first | apply Wp.seqItems | apply Wp.items); (· simp only [go_sem, reduceIte, Nat.reduceEqDiff, Nat.reduceAdd, bx, ax, if_true, if_false, Nat.reduceMul, Nat.reduceLeDiff, prs_length, q1, List.length_cons, List.length_nil, Nat.zero_add, g0, g0']; exact rfl))
              | (refine WpItems.nil ⟨?_, ?_⟩; (· first | trivial | simp [pairsQ, pairsOk, apart, ent0]))
              | (apply Wp.cond_lit; (· simp only [go_sem, reduceIte, Nat.reduceEqDiff, Nat.reduceAdd, bx, ax, if_true, if_false, Nat.reduceMul, Nat.reduceLeDiff, prs_length, q1, List.length_cons, List.length_nil, Nat.zero_add, g0, g0']; exact rfl); (· rfl))
              | refine Wp.skip ?_
              | refine Wp.label ?_
              | refine Wp.block ?_
              | refine Wp.exit ?_
              | refine Wp.seq ?_)
            refine Wp.ret ⟨trivial, _, rfl, ?_⟩
            simp only [go_sem, reduceIte, Nat.reduceEqDiff, Nat.reduceAdd, bx]
            rw [← ho, ← prs_snoc]
            exact VSub.tup (VSubs.cons VSub.own (VSubs.refl _))
def doCh (l : List Pr) (c : Ch) : List Pr := if c.d then dropP l c.k else putP l c.k c.v
def doChs (l : List Pr) (cs : List Ch) : List Pr := cs.foldl doCh l
theorem take_snoc {α : Type} [Inhabited α] {l : List α} {i : Nat} (h : i < l.length) : l.take (i + 1) = l.take i ++ [l.getD i default] := by
  rw [List.take_succ_eq_append_getElem h, getDp h]
theorem putGo_mem (k v : Bs) : ∀ (l : List Pr) (b : Bool) (x : Pr), x ∈ putGo k v b l → x = ⟨k, v⟩ ∨ x ∈ l
  | [], b, x, h => by cases b <;> simp [putGo] at h; exact .inl h
  | p :: l, b, x, h => by
    rw [putGo, List.mem_append, List.mem_append] at h
    rcases h with h | h | h
    · split at h
      · left; simpa using h
      · simp at h
    · split at h
      · simp at h
      · right; simp at h; simp [h]
    · rcases putGo_mem k v l _ x h with h | h
      · exact .inl h
      · right; simp [h]
theorem putP_mem {l : List Pr} {k v : Bs} {x : Pr} (h : x ∈ putP l k v) : x = ⟨k, v⟩ ∧ shut k v = false ∨ x ∈ l := by
  unfold putP at h
  split at h
  · exact .inr h
  · rename_i hs
    rcases putGo_mem k v l false x h with h | h
    · exact .inl ⟨h, by simpa using hs⟩
    · exact .inr h
theorem doCh_ls {l : List Pr} {c : Ch} (h : ∀ p ∈ l, Ls p.k) (hc : Ls c.k) : ∀ p ∈ doCh l c, Ls p.k := by
  intro p hp
  unfold doCh at hp
  split at hp
  · unfold dropP at hp
    split at hp
    · exact h p (List.mem_filter.1 hp).1
    · exact h p hp
  · rcases putP_mem hp with ⟨rfl, -⟩ | hp
    · exact hc
    · exact h p hp
theorem doCh_len (l : List Pr) (c : Ch) : (doCh l c).length ≤ l.length + 1 := by
  unfold doCh
  split
  · unfold dropP
    split
    · exact Nat.le_trans (List.length_filter_le _ _) (by omega)
    · omega
  · exact put_len' _ _ _
theorem changed_p (l : List Pr) (cs : List Ch) (hl : l.length ≤ 100000) (hcs : cs.length ≤ 1000) (lk : ∀ p ∈ l, Ls p.k) (hok : ∀ c ∈ cs, shut c.k c.v = false) : PCalls Try.prog 16 [.sl 2 (prs l) .any, .sl 3 (chs cs) .any] (.tup [.sl 2 (prs (doChs l cs)) .any, .bool true]) := by
  refine f16.pcalls0 (by simp) (by simp [allPure, isPure, capPure, prs_pure, chs_pure]) (by simp [isPure, allPure, capPure, prs_pure]) ?_
  unfold c16
  have hat : ∀ j, j < cs.length → shut (cs.getD j default).k (cs.getD j default).v = false := fun j hj => by rw [getDp hj]; exact hok _ (List.getElem_mem hj)
  repeat (first
    | ((first | apply Wp.seqItems | apply Wp.items); (· simp only [go_sem, reduceIte, Nat.reduceEqDiff, Nat.reduceAdd, bx, ax, if_true, if_false, Nat.reduceMul, Nat.reduceLeDiff]; exact rfl))
    | (refine WpItems.nil ⟨?_, ?_⟩; (· first | trivial | simp [pairsQ, pairsOk, apart, ent0]))
    | (apply Wp.cond_lit; (· simp only [go_sem, reduceIte, Nat.reduceEqDiff, Nat.reduceAdd, bx, ax, if_true, if_false, Nat.reduceMul, Nat.reduceLeDiff]; exact rfl); (· rfl))
    | refine Wp.skip ?_
    | refine Wp.label ?_
    | refine Wp.block ?_
    | refine Wp.exit ?_
    | refine Wp.seq ?_)
  refine Wp.loopK [0, 1] (by simp only [go_sem, reduceIte, Nat.reduceEqDiff, Nat.reduceAdd, bx, List.map]; exact rfl) (fun j : Nat => [(6, .int .i64 j)]) (fun j => j ≤ cs.length) (fun j => cs.length - j) 0 (Nat.zero_le _) ?_ ?_
  · simp only [AllSub, go_sem, reduceIte, Nat.reduceEqDiff, Nat.reduceAdd, bx]; and_intros <;> first | exact trivial | exact VSub.refl _ | exact VSub.any _ | (refine VSub.int ?_; omega)
  · intro j hj
    by_cases hc : j < cs.length
    · have d1 : decide ((j : Int) < (cs.length : Int)) = true := decide_eq_true (by omega)
      have h2 : (0 : Int) ≤ (j : Int) := by omega
      have h3 : (j : Int) < (cs.length : Int) := by omega
      have e1 : IntKind.i64.wrap ((j : Int) + 1) = ((j + 1 : Nat) : Int) := by rw [IntWalk.i64_in _ (by omega)]; omega
      have hs := hat j hc
      simp only [shut, Bool.or_eq_false_iff, decide_eq_false_iff_not] at hs
      have d2 : decide ((128 : Int) < ((cs.getD j default).k.length : Int)) = false := decide_eq_false (by omega)
      have d3 : decide ((200 : Int) < ((cs.getD j default).v.length : Int)) = false := decide_eq_false (by omega)
      repeat (first
        | ((first | apply Wp.seqItems | apply Wp.items); (· simp only [go_sem, reduceIte, Nat.reduceEqDiff, Nat.reduceAdd, bx, ax, if_true, if_false, Nat.reduceMul, Nat.reduceLeDiff, chs_length, d1, d2, d3, h2, h3, e1, Int.toNat_natCast, chs_getD _ _ _ hc, encCh]; exact rfl))
        | (refine WpItems.nil ⟨?_, ?_⟩; (· first | trivial | simp [pairsQ, pairsOk, apart, ent0]))
        | (apply Wp.cond_lit; (· simp only [go_sem, reduceIte, Nat.reduceEqDiff, Nat.reduceAdd, bx, ax, if_true, if_false, Nat.reduceMul, Nat.reduceLeDiff, chs_length, d1, d2, d3, h2, h3, e1, Int.toNat_natCast, chs_getD _ _ _ hc, encCh]; exact rfl); (· rfl))
        | refine Wp.skip ?_
        | refine Wp.label ?_
        | refine Wp.block ?_
        | refine Wp.exit ?_
        | refine Wp.seq ?_)
      refine ⟨j + 1, by omega, by omega, ?_⟩
      refine StLe.tm (by simp only [AllSub, go_sem, reduceIte, Nat.reduceEqDiff, Nat.reduceAdd, bx]; and_intros <;> first | exact trivial | exact VSub.refl _ | exact VSub.any _ | (refine VSub.int ?_; omega))
    · obtain rfl : j = cs.length := by omega
      have d1 : decide ((cs.length : Int) < (cs.length : Int)) = false := decide_eq_false (by omega)
      repeat (first
        | ((first | apply Wp.seqItems | apply Wp.items); (· simp only [go_sem, reduceIte, Nat.reduceEqDiff, Nat.reduceAdd, bx, ax, if_true, if_false, Nat.reduceMul, Nat.reduceLeDiff, chs_length, d1]; exact rfl))
        | (refine WpItems.nil ⟨?_, ?_⟩; (· first | trivial | simp [pairsQ, pairsOk, apart, ent0]))
        | (apply Wp.cond_lit; (· simp only [go_sem, reduceIte, Nat.reduceEqDiff, Nat.reduceAdd, bx, ax, if_true, if_false, Nat.reduceMul, Nat.reduceLeDiff, chs_length, d1]; exact rfl); (· rfl))
        | refine Wp.skip ?_
        | refine Wp.label ?_
        | refine Wp.block ?_
        | refine Wp.exit ?_
        | refine Wp.seq ?_)
      refine Wp.loopK [1] (by simp only [go_sem, reduceIte, Nat.reduceEqDiff, Nat.reduceAdd, bx, List.map]; exact rfl) (fun j : Nat × List Pr => [(0, .sl 2 (prs j.2) .any), (7, .int .i64 j.1)]) (fun j => j.1 ≤ cs.length ∧ j.2 = doChs l (cs.take j.1) ∧ j.2.length ≤ l.length + j.1 ∧ ∀ p ∈ j.2, Ls p.k) (fun j => cs.length - j.1) (0, l) ⟨Nat.zero_le _, by simp [doChs], Nat.le_refl _, lk⟩ ?_ ?_
      · simp only [AllSub, go_sem, reduceIte, Nat.reduceEqDiff, Nat.reduceAdd, bx]; and_intros <;> first | exact trivial | exact VSub.refl _ | exact VSub.any _ | (refine VSub.int ?_; omega)
      · rintro ⟨j, o⟩ ⟨hj, ho, hol, hls⟩
        simp only at hj ho hol hls
        by_cases hc : j < cs.length
        · have d1 : decide ((j : Int) < (cs.length : Int)) = true := decide_eq_true (by omega)
          have h2 : (0 : Int) ≤ (j : Int) := by omega
          have h3 : (j : Int) < (cs.length : Int) := by omega
          have e1 : IntKind.i64.wrap ((j : Int) + 1) = ((j + 1 : Nat) : Int) := by rw [IntWalk.i64_in _ (by omega)]; omega
          have hs := hat j hc
          simp only [shut, Bool.or_eq_false_iff, decide_eq_false_iff_not] at hs
          have hpk : Ls (cs.getD j default).k := by unfold Ls; omega
          have hstep : doCh o (cs.getD j default) = doChs l (cs.take (j + 1)) := by rw [take_snoc hc, doChs, List.foldl_append, ho]; rfl
          have hlen := doCh_len o (cs.getD j default)
          have hls' := doCh_ls hls hpk
          cases hd : (cs.getD j default).d with
          | true =>
            have e2 : doCh o (cs.getD j default) = dropP o (cs.getD j default).k := by rw [doCh, if_pos hd]
            rw [e2] at hstep hlen hls'
            repeat (first
              | ((first | apply Wp.seqItems | apply Wp.items | ((first
                  | (refine WpItems.pcall ?_ ?_ (dropP_p o (by omega) (cs.getD j default).k) ?_; (· simp only [go_sem, reduceIte, Nat.reduceEqDiff, Nat.reduceAdd, bx]); (· simp only [go_sem, reduceIte, Nat.reduceEqDiff, Nat.reduceAdd, bx, List.map]; first | exact VSubs.refl _ | (repeat (first | exact VSubs.nil | refine VSubs.cons (by first | exact VSub.refl _ | assumption | exact VSub.cap | exact VSub.any _) ?_))))); apply WpItems.eval)); (· simp only [go_sem, reduceIte, Nat.reduceEqDiff, Nat.reduceAdd, bx, ax, if_true, if_false, Nat.reduceMul, Nat.reduceLeDiff, chs_length, d1, h2, h3, e1, Int.toNat_natCast, chs_getD _ _ _ hc, encCh, hd]; exact rfl))
              | (refine WpItems.nil ⟨?_, ?_⟩; (· first | trivial | simp [pairsQ, pairsOk, apart, ent0]))
              | (apply Wp.cond_lit; (· simp only [go_sem, reduceIte, Nat.reduceEqDiff, Nat.reduceAdd, bx, ax, if_true, if_false, Nat.reduceMul, Nat.reduceLeDiff, chs_length, d1, h2, h3, e1, Int.toNat_natCast, chs_getD _ _ _ hc, encCh, hd]; exact rfl); (· rfl))
              | refine Wp.skip ?_
              | refine Wp.label ?_
              | refine Wp.block ?_
              | refine Wp.exit ?_
              | refine Wp.seq ?_)
            refine ⟨(j + 1, dropP o (cs.getD j default).k), ⟨by simp only; omega, hstep, by simp only; omega, hls'⟩, by simp only; omega, ?_⟩
            refine StLe.tm (by simp only [AllSub, go_sem, reduceIte, Nat.reduceEqDiff, Nat.reduceAdd, bx]; and_intros <;> first | exact trivial | exact VSub.refl _ | exact VSub.any _ | (refine VSub.int ?_; omega))
          | false =>
            have e2 : doCh o (cs.getD j default) = putP o (cs.getD j default).k (cs.getD j default).v := by rw [doCh, if_neg (by rw [hd]; exact Bool.false_ne_true)]
            rw [e2] at hstep hlen hls'
            repeat (first
              | ((first | apply Wp.seqItems | apply Wp.items | ((first
                  | (refine WpItems.pcall ?_ ?_ (putP_p o (by omega) hls (cs.getD j default).k (cs.getD j default).v hpk) ?_; (· simp only [go_sem, reduceIte, Nat.reduceEqDiff, Nat.reduceAdd, bx]); (· simp only [go_sem, reduceIte, Nat.reduceEqDiff, Nat.reduceAdd, bx, List.map]; first | exact VSubs.refl _ | (repeat (first | exact VSubs.nil | refine VSubs.cons (by first | exact VSub.refl _ | assumption | exact VSub.cap | exact VSub.any _) ?_))))); apply WpItems.eval)); (· simp only [go_sem, reduceIte, Nat.reduceEqDiff, Nat.reduceAdd, bx, ax, if_true, if_false, Nat.reduceMul, Nat.reduceLeDiff, chs_length, d1, h2, h3, e1, Int.toNat_natCast, chs_getD _ _ _ hc, encCh, hd]; exact rfl))
              | (refine WpItems.nil ⟨?_, ?_⟩; (· first | trivial | simp [pairsQ, pairsOk, apart, ent0]))
              | (apply Wp.cond_lit; (· simp only [go_sem, reduceIte, Nat.reduceEqDiff, Nat.reduceAdd, bx, ax, if_true, if_false, Nat.reduceMul, Nat.reduceLeDiff, chs_length, d1, h2, h3, e1, Int.toNat_natCast, chs_getD _ _ _ hc, encCh, hd]; exact rfl); (· rfl))
              | refine Wp.skip ?_
              | refine Wp.label ?_
              | refine Wp.block ?_
              | refine Wp.exit ?_
              | refine Wp.seq ?_)
            refine ⟨(j + 1, putP o (cs.getD j default).k (cs.getD j default).v), ⟨by simp only; omega, hstep, by simp only; omega, hls'⟩, by simp only; omega, ?_⟩
            refine StLe.tm (by simp only [AllSub, go_sem, reduceIte, Nat.reduceEqDiff, Nat.reduceAdd, bx]; and_intros <;> first | exact trivial | exact VSub.refl _ | exact VSub.any _ | (refine VSub.int ?_; omega))
        · obtain rfl : j = cs.length := by omega
          have d1 : decide ((cs.length : Int) < (cs.length : Int)) = false := decide_eq_false (by omega)
          rw [List.take_length] at ho
          repeat (first
            | ((first | apply Wp.seqItems | apply Wp.items); (· simp only [go_sem, reduceIte, Nat.reduceEqDiff, Nat.reduceAdd, bx, ax, if_true, if_false, Nat.reduceMul, Nat.reduceLeDiff, chs_length, d1]; exact rfl))
            | (refine WpItems.nil ⟨?_, ?_⟩; (· first | trivial | simp [pairsQ, pairsOk, apart, ent0]))
            | (apply Wp.cond_lit; (· simp only [go_sem, reduceIte, Nat.reduceEqDiff, Nat.reduceAdd, bx, ax, if_true, if_false, Nat.reduceMul, Nat.reduceLeDiff, chs_length, d1]; exact rfl); (· rfl))
            | refine Wp.skip ?_
            | refine Wp.label ?_
            | refine Wp.block ?_
            | refine Wp.exit ?_
            | refine Wp.seq ?_)
          refine Wp.ret ⟨trivial, _, rfl, ?_⟩
          simp only [go_sem, reduceIte, Nat.reduceEqDiff, Nat.reduceAdd, bx]
          rw [ho]; exact VSub.refl _
end Go.Proofs.Ytpehfflehebmbaa.Batch
end
section
set_option linter.unusedSimpArgs false
set_option linter.unusedVariables false
set_option maxRecDepth 10000
namespace Go.Proofs.Ytpehfflehebmbaa.Space
open Go Go.Av Go.Proofs Go.Proofs.Ytpehfflehebmbaa.C Go.Proofs.Ytpehfflehebmbaa.Batch
def RiseP (P : List Pr) : Prop := P.Pairwise (fun x y => Op.bytesLess x.k y.k = true)
def look : List Pr → Bs → Option Bs
  | [], _ => none
  | p :: P, q => if p.k = q then some p.v else look P q
theorem mem_look {P : List Pr} (hr : RiseP P) {x : Pr} : x ∈ P ↔ look P x.k = some x.v := by
  induction P with
  | nil => simp [look]
  | cons p P ih =>
    obtain ⟨h1, h2⟩ := List.pairwise_cons.1 hr
    rw [List.mem_cons, look]
    by_cases e : p.k = x.k
    · rw [if_pos e]
      constructor
      · rintro (rfl | hx)
        · rfl
        · exact absurd e (less_ne (h1 x hx))
      · intro h
        left
        cases x; cases p; simp only [Option.some.injEq] at h e ⊢; rw [e, h]
    · rw [if_neg e, ← ih h2]
      exact ⟨fun h => h.resolve_left fun h => e (by rw [h]), .inr⟩
theorem putGo_true (k v : Bs) : ∀ P : List Pr, (∀ x ∈ P, x.k ≠ k) → putGo k v true P = P
  | [], _ => rfl
  | p :: P, h => by
    rw [putGo, if_neg (h p (by simp))]
    simp only [Bool.true_eq_false, false_and, if_false, List.nil_append, Bool.true_or, List.singleton_append]
    rw [putGo_true k v P fun x hx => h x (by simp [hx])]
def putS (k v : Bs) : List Pr → List Pr
  | [] => [⟨k, v⟩]
  | p :: P => if Op.bytesLess p.k k = true then p :: putS k v P else if p.k = k then ⟨k, v⟩ :: P else ⟨k, v⟩ :: p :: P
theorem put_eq (k v : Bs) : ∀ P : List Pr, RiseP P → putGo k v false P = putS k v P
  | [], _ => rfl
  | p :: P, hr => by
    obtain ⟨h1, h2⟩ := List.pairwise_cons.1 hr
    rw [putGo, putS]
    by_cases h : Op.bytesLess p.k k = true
    · rw [if_pos h, ← put_eq k v P h2]
      simp [h, less_ne h]
    · have h' : Op.bytesLess p.k k = false := by simpa using h
      have ht := putGo_true k v P fun x hx e => by
        have := h1 x hx
        rw [e, h'] at this; cases this
      rw [if_neg h]
      by_cases e : p.k = k <;> simp [h', e, ht]
      · rw [e] at h'; simp [h', ht]
theorem putS_mem {k v : Bs} : ∀ {P : List Pr} {x : Pr}, x ∈ putS k v P → x = ⟨k, v⟩ ∨ x ∈ P
  | [], x, h => by simp [putS] at h; exact .inl h
  | p :: P, x, h => by
    rw [putS] at h
    split at h
    · rcases List.mem_cons.1 h with h | h
      · exact .inr (by simp [h])
      · exact (putS_mem h).imp id fun h => by simp [h]
    · split at h
      · rcases List.mem_cons.1 h with h | h
        · exact .inl h
        · exact .inr (by simp [h])
      · rcases List.mem_cons.1 h with h | h
        · exact .inl h
        · exact .inr h
theorem putS_rise {k v : Bs} : ∀ {P : List Pr}, RiseP P → RiseP (putS k v P)
  | [], _ => by simp [putS, RiseP]
  | p :: P, hr => by
    obtain ⟨h1, h2⟩ := List.pairwise_cons.1 hr
    rw [putS]
    split
    · rename_i h
      refine List.pairwise_cons.2 ⟨fun x hx => ?_, putS_rise h2⟩
      rcases putS_mem hx with rfl | hx
      · exact h
      · exact h1 x hx
    · rename_i h
      split
      · rename_i e
        exact List.pairwise_cons.2 ⟨fun x hx => by rw [← e]; exact h1 x hx, h2⟩
      · rename_i e
        have hl : Op.bytesLess k p.k = true := by
          rcases less_total k p.k with e' | e' | e'
          · exact e'
          · exact absurd e'.symm e
          · exact absurd e' h
        refine List.pairwise_cons.2 ⟨fun x hx => ?_, hr⟩
        rcases List.mem_cons.1 hx with rfl | hx
        · exact hl
        · exact less_trans hl (h1 x hx)
theorem look_putS {k v q : Bs} : ∀ {P : List Pr}, look (putS k v P) q = if k = q then some v else look P q
  | [] => by simp [putS, look]
  | p :: P => by
    rw [putS]
    split
    · rename_i h
      rw [look, look_putS, look]
      have := less_ne h
      by_cases e : p.k = q
      · rw [if_pos e, if_neg (fun e' => this (e.trans e'.symm)), if_pos e]
      · rw [if_neg e, if_neg e]
    · split
      · rename_i e
        rw [look, look]
        simp only
        by_cases e' : k = q
        · rw [if_pos e', if_pos e']
        · rw [if_neg e', if_neg e', if_neg (fun h => e' (e.symm.trans h))]
      · rw [look]
theorem rest_rise {k : Bs} {P : List Pr} (hr : RiseP P) : RiseP (rest k P) := hr.sublist List.filter_sublist
theorem look_rest {k q : Bs} : ∀ {P : List Pr}, look (rest k P) q = if k = q then none else look P q
  | [] => by simp [rest, look]
  | p :: P => by
    rw [rest_cons]
    by_cases e : p.k = k
    · rw [if_pos e, List.nil_append, look_rest, look]
      by_cases e' : k = q
      · rw [if_pos e', if_pos e']
      · rw [if_neg e', if_neg e', if_neg (fun h => e' (e.symm.trans h))]
    · rw [if_neg e, List.singleton_append, look, look_rest, look]
      by_cases e' : p.k = q
      · rw [if_pos e', if_pos e', if_neg (fun h => e (e'.trans h.symm))]
      · rw [if_neg e', if_neg e']
theorem getE_look {k : Bs} : ∀ {P : List Pr}, getE P k ≠ 0 → look P k = none
  | [], _ => rfl
  | p :: P, h => by
    unfold getE at h
    by_cases e : p.k = k
    · simp [List.find?_cons, hasK, e] at h
    · rw [look, if_neg e]
      refine getE_look (P := P) ?_
      simp only [List.find?_cons, hasK, e, decide_false] at h
      unfold getE; exact h
theorem drop_rise {k : Bs} {P : List Pr} (hr : RiseP P) : RiseP (dropP P k) := by
  unfold dropP; split
  · exact rest_rise hr
  · exact hr
theorem look_drop {k q : Bs} {P : List Pr} : look (dropP P k) q = if k = q then none else look P q := by
  unfold dropP; split
  · exact look_rest
  · rename_i h
    split
    · rename_i e; rw [← e]; exact getE_look h
    · rfl
theorem do_rise {P : List Pr} (hr : RiseP P) (c : Ch) (hs : shut c.k c.v = false) : RiseP (doCh P c) ∧ ∀ q, look (doCh P c) q = if c.k = q then (if c.d = true then none else some c.v) else look P q := by
  unfold doCh
  split
  · rename_i h; exact ⟨drop_rise hr, fun q => look_drop⟩
  · rename_i h
    have e : putP P c.k c.v = putS c.k c.v P := by rw [putP, if_neg (by rw [hs]; exact Bool.false_ne_true), put_eq _ _ _ hr]
    rw [e]
    exact ⟨putS_rise hr, fun q => look_putS⟩
def tellO (v : List Ver) (t : Int) : Option Bs := if (atB v t).2 = true then some (atB v t).1 else none
theorem tellO_iff {v : List Ver} {t : Int} {x : Bs} : tellO v t = some x ↔ atB v t = (x, true) := by
  unfold tellO
  constructor
  · intro h
    split at h
    · rename_i h2; cases h; exact Prod.ext rfl h2
    · cases h
  · intro h; rw [h]; rfl
def Has (S : Spc) (P : List Pr) (t : Int) : Prop := RiseP P ∧ ∀ q, look P q = tellO (mget S.L q) t
theorem Has.all {S : Spc} {P : List Pr} {t : Int} (h : Has S P t) (hr : RiseL S.L) : allS S [] [] t = P := by
  rw [allS_eq hr, filter_tell]
  refine rise_ext (tells_rise hr) h.1 fun x => ?_
  rw [tells_mem hr, mem_look h.1, h.2 x.k, tellO_iff]
  have : inB x.k [] [] = true := by simp [inB, selP, less_nil_r]
  simp [this]
theorem Has.told {S S' : Spc} {P : List Pr} {t : Int} (h : Has S P t) (ht : Told S S' t) : Has S' P t := ⟨h.1, fun q => by rw [h.2 q, tellO, tellO, ht q]⟩
theorem at_late {v : List Ver} {i T : Int} (hv : v ≠ [] → (v.getD 0 default).t ≤ i) (h : i ≤ T) : atB v T = atB v i := by
  cases v with
  | nil => rw [at_nil, at_nil]
  | cons x v =>
    have h1 := hv (by simp)
    rw [List.getD_cons_zero] at h1
    have e1 : plc (x :: v) T = 0 := by rw [plc_cons, if_pos (by omega)]
    have e2 : plc (x :: v) i = 0 := by rw [plc_cons, if_pos h1]
    unfold atB; rw [e1, e2]
theorem Has.later {S : Spc} {P : List Pr} {i T : Int} (h : Has S P i) (hR : Rt S) (hi : S.last ≤ i) (hT : i ≤ T) : Has S P T :=
  ⟨h.1, fun q => by rw [h.2 q, tellO, tellO, at_late (fun hn => by have := hR.head q hn; omega) hT]⟩
theorem shut_of {l : List Ch} (h : fitB l = true) {j : Nat} (hj : j < l.length) : shut (l.getD j default).k (l.getD j default).v = false := by
  have h1 := fit_len h hj
  have h2 := (fit_ok h hj).1
  rw [shut, decide_eq_false (by omega), decide_eq_false (by omega)]; rfl
theorem has_up {S : Spc} {k : Nat} (hF : Fit S k) (hR : Rt S) {T : Int} (h1 : S.last < T) (h2 : T ≤ 1152921504606846976) {P : List Pr} (hP : Has S P T) {l : List Ch} (hf : fitB l = true) : ∀ j, j ≤ l.length → RiseP (doChs P (l.take j)) ∧ ∀ q, look (doChs P (l.take j)) q = tellO (mget ((l.take j).foldl (upR T S) S.L) q) T
  | 0, _ => ⟨hP.1, hP.2⟩
  | j + 1, hj => by
    obtain ⟨i1, i2⟩ := has_up hF hR h1 h2 hP hf j (by omega)
    have hr := (do_eq T S hF.ri l hf j (by omega)).1
    have e : doChs P (l.take (j + 1)) = doCh (doChs P (l.take j)) (l.getD j default) := by
      rw [Av.take_snoc default (show j < l.length by omega), doChs, List.foldl_append]; rfl
    obtain ⟨r1, r2⟩ := do_rise i1 (l.getD j default) (shut_of hf (show j < l.length by omega))
    rw [e, Av.take_snoc default (show j < l.length by omega), List.foldl_append]
    refine ⟨r1, fun q => ?_⟩
    simp only [List.foldl_cons, List.foldl_nil]
    rw [r2 q, upR, setL_get hr]
    split
    · rename_i e2
      obtain ⟨a, b⟩ := fit_ok hf (show j < l.length by omega)
      have hm := mget_right (fun p hp => (hR.it p hp).2.1) (l.getD j default).k
      have hx := okV_of (t := T) (by have := hR.mn; have := hR.ml; omega) h2 a b
      have hhd : mget S.L (l.getD j default).k ≠ [] → ((mget S.L (l.getD j default).k).getD 0 default).t < T := fun hn => by have := hR.head _ hn; omega
      rw [add_right hm hx hhd]
      have hc := chB_cons.2 ⟨hx, hm, hhd⟩
      have hp : plc (⟨T, (l.getD j default).v, (l.getD j default).d⟩ :: mget S.L (l.getD j default).k) T = 0 := by rw [plc_cons, if_pos (Int.le_refl _)]
      have ha : atB (⟨T, (l.getD j default).v, (l.getD j default).d⟩ :: mget S.L (l.getD j default).k) T = ((l.getD j default).v, !(l.getD j default).d) := by
        rw [atB, hp, if_pos ⟨hc, by simp⟩]; rfl
      rw [tellO, ha]
      cases (l.getD j default).d <;> simp
    · exact i2 q
theorem has_apply {S : Spc} {k : Nat} (hF : Fit S k) (hR : Rt S) {T : Int} (h1 : S.last < T) (h2 : T ≤ 1152921504606846976) {P : List Pr} (hP : Has S P S.last) {l : List Ch} (hf : fitB l = true) : Has (applyB S T l).1 (doChs P l) T := by
  have hu := has_up hF hR h1 h2 (hP.later hR (Int.le_refl _) (by omega)) hf l.length (Nat.le_refl _)
  have e := (do_eq T S hF.ri l hf l.length (Nat.le_refl _)).2.2
  rw [List.take_length] at hu e
  unfold applyB
  rw [if_neg (by omega), if_neg (by rw [hf]; exact Bool.false_ne_true.symm), e]
  exact hu
theorem doChs_len : ∀ (cs : List Ch) (P : List Pr), (doChs P cs).length ≤ P.length + cs.length
  | [], P => Nat.le_refl _
  | c :: cs, P => by
    have h1 := doCh_len P c
    have h2 := doChs_len cs (doCh P c)
    simp only [doChs, List.foldl_cons, List.length_cons] at h2 ⊢
    omega
theorem doChs_ls : ∀ (cs : List Ch) {P : List Pr}, (∀ p ∈ P, Ls p.k) → (∀ c ∈ cs, Ls c.k) → ∀ p ∈ doChs P cs, Ls p.k
  | [], P, h, _ => h
  | c :: cs, P, h, hc => by
    simp only [doChs, List.foldl_cons]
    exact doChs_ls cs (doCh_ls h (hc c (by simp))) fun x hx => hc x (by simp [hx])
end Go.Proofs.Ytpehfflehebmbaa.Space
end
section
set_option linter.unusedSimpArgs false
set_option linter.unusedVariables false
set_option maxRecDepth 10000
namespace Go.Proofs.Ytpehfflehebmbaa.Space
open Go Go.Av Go.Proofs Go.Proofs.Ytpehfflehebmbaa.C Go.Proofs.Ytpehfflehebmbaa.Batch
def batchS (S : Spc) (T : Int) (l : List Ch) : Spc := if fitB l = true then (applyB S T l).1 else (applyB S T []).1
def batchP (P : List Pr) (l : List Ch) : List Pr := if fitB l = true then doChs P l else P
def runS (l : List (List Ch)) : Nat → Spc
  | 0 => S0
  | j + 1 => batchS (runS l j) ((j + 1 : Nat) : Int) (l.getD j default)
def runP (l : List (List Ch)) : Nat → List Pr
  | 0 => []
  | j + 1 => batchP (runP l j) (l.getD j default)
theorem batch_last {S : Spc} {T : Int} (h1 : S.last < T) (h2 : T ≤ 1152921504606846976) (l : List Ch) : (batchS S T l).last = T ∧ (batchS S T l).mark = S.mark := by
  have key : ∀ l, fitB l = true → (applyB S T l).1.last = T ∧ (applyB S T l).1.mark = (doS T S l).mark := fun l hl => by
    rw [applyB, if_neg (by omega), if_neg (by rw [hl]; exact Bool.false_ne_true.symm)]; exact ⟨rfl, rfl⟩
  have mk : ∀ (l : List Ch) (S : Spc), (doS T S l).mark = S.mark := by
    intro l
    induction l with
    | nil => intro S; rfl
    | cons c l ih => intro S; exact ih (stepS T S c)
  unfold batchS
  split
  · rename_i h; have := key l h; exact ⟨this.1, by rw [this.2, mk]⟩
  · have := key [] rfl; exact ⟨this.1, by rw [this.2, mk]⟩
structure RunOk (l : List (List Ch)) (j : Nat) : Prop where
  fit : Fit (runS l j) (30 * j)
  rt : Rt (runS l j)
  la : (runS l j).last = (j : Int)
  mz : (runS l j).mark = 0
  has : ∀ t, t ≤ j → Has (runS l j) (runP l t) (t : Int)
  ln : (runP l j).length ≤ 30 * j
  ls : ∀ p ∈ runP l j, Ls p.k
theorem runs_ok {l : List (List Ch)} (hl : l.length ≤ 60) : ∀ j, j ≤ l.length → (∀ i, i < j → (l.getD i default).length ≤ 30) → RunOk l j
  | 0, _, _ => ⟨Fit.zero, Rt.zero, rfl, rfl, fun t ht => by
      obtain rfl : t = 0 := by omega
      exact ⟨by simp [runP, RiseP], fun q => by simp [runP, look, runS, S0, mget, tellO, at_nil]⟩, Nat.le_refl _, fun p hp => by simp [runP] at hp⟩
  | j + 1, hj, h30 => by
    have ih := runs_ok hl j (by omega) fun i hi => h30 i (by omega)
    have hb := h30 j (by omega)
    have h1 : (runS l j).last < ((j + 1 : Nat) : Int) := by rw [ih.la]; omega
    have h2 : ((j + 1 : Nat) : Int) ≤ 1152921504606846976 := by omega
    have hlast := batch_last h1 h2 (l.getD j default)
    have hS : runS l (j + 1) = batchS (runS l j) ((j + 1 : Nat) : Int) (l.getD j default) := rfl
    have hP : runP l (j + 1) = batchP (runP l j) (l.getD j default) := rfl
    have hnow := ih.has j (Nat.le_refl _)
    cases hf : fitB (l.getD j default) with
    | true =>
      have eS : batchS (runS l j) ((j + 1 : Nat) : Int) (l.getD j default) = (applyB (runS l j) ((j + 1 : Nat) : Int) (l.getD j default)).1 := by rw [batchS, if_pos hf]
      have eP : batchP (runP l j) (l.getD j default) = doChs (runP l j) (l.getD j default) := by rw [batchP, if_pos hf]
      have hls : ∀ c ∈ l.getD j default, Ls c.k := fun c hc => by
        obtain ⟨i, hi, rfl⟩ := List.mem_iff_getElem.1 hc
        have := fit_len hf hi
        rw [getD_el hi] at this
        unfold Ls; omega
      refine ⟨?_, ?_, ?_, ?_, fun t ht => ?_, ?_, ?_⟩
      · rw [hS, eS]; exact (ih.fit.apply _ _ hls).mono (by omega)
      · rw [hS, eS]; exact ih.rt.apply ih.fit _ _
      · rw [hS]; exact hlast.1
      · rw [hS, hlast.2]; exact ih.mz
      · rw [hS, eS]
        by_cases e : t = j + 1
        · subst e
          rw [hP, eP]
          exact has_apply ih.fit ih.rt h1 h2 (by rw [ih.la]; exact hnow) hf
        · exact (ih.has t (by omega)).told (told_apply ih.fit ih.rt (by rw [ih.la]; omega) _)
      · rw [hP, eP]
        have := doChs_len (l.getD j default) (runP l j)
        have := ih.ln
        omega
      · rw [hP, eP]; exact doChs_ls _ ih.ls hls
    | false =>
      have eS : batchS (runS l j) ((j + 1 : Nat) : Int) (l.getD j default) = (applyB (runS l j) ((j + 1 : Nat) : Int) []).1 := by rw [batchS, if_neg (by rw [hf]; exact Bool.false_ne_true)]
      have eP : batchP (runP l j) (l.getD j default) = runP l j := by rw [batchP, if_neg (by rw [hf]; exact Bool.false_ne_true)]
      refine ⟨?_, ?_, ?_, ?_, fun t ht => ?_, ?_, ?_⟩
      · rw [hS, eS]; exact (ih.fit.apply _ [] (by simp)).mono (by simp; omega)
      · rw [hS, eS]; exact ih.rt.apply ih.fit _ _
      · rw [hS]; exact hlast.1
      · rw [hS, hlast.2]; exact ih.mz
      · rw [hS, eS]
        by_cases e : t = j + 1
        · subst e
          rw [hP, eP]
          exact has_apply (l := []) ih.fit ih.rt h1 h2 (by rw [ih.la]; exact hnow) rfl
        · exact (ih.has t (by omega)).told (told_apply ih.fit ih.rt (by rw [ih.la]; omega) _)
      · rw [hP, eP]; have := ih.ln; omega
      · rw [hP, eP]; exact ih.ls
theorem encB_pure (l : List (List Ch)) : allPure (l.map encB) = true := Av.allPure_map (fun b => by simp [encB, isPure, capPure, chs_pure]) l
def thenP (l : List (List Ch)) (t : Int) (j : Nat) : List Pr := if 0 ≤ t ∧ t < (j : Int) then runP l t.toNat else []
set_option maxHeartbeats 4000000 in
theorem batches_p (l : List (List Ch)) (hl : l.length ≤ 35184372088832) (hv : ∀ b ∈ l, b.length ≤ 35184372088832) (t : Int) : PCalls Try.prog 3 [.sl 1 (l.map encB) .any, .int .i64 t] (.bool true) := by
  refine f3.pcalls0 (by simp) (by simp [allPure, isPure, capPure, encB_pure]) rfl ?_
  unfold c3
  have hil : (l.map encB).length = l.length := by simp
  have hL := lives_p
  repeat (first
    | ((first | apply Wp.seqItemsR | apply Wp.itemsR); (· simp only [go_sem, reduceIte, Nat.reduceEqDiff, Nat.reduceAdd, bx, ax, if_true, if_false, Nat.reduceMul, Nat.reduceLeDiff, hil]; exact rfl))
    | (refine WpItems.nil ⟨?_, ?_⟩; (· first | trivial | simp [pairsQ, pairsOk, apart, ent0]))
    | (apply Wp.cond_lit; (· simp only [go_sem, reduceIte, Nat.reduceEqDiff, Nat.reduceAdd, bx, ax, if_true, if_false, Nat.reduceMul, Nat.reduceLeDiff, hil]; exact rfl); (· rfl))
    | refine Wp.skip ?_
    | refine Wp.label ?_
    | refine Wp.block ?_
    | refine Wp.exit ?_
    | refine Wp.seq ?_)
  show WpItems _ _ _ _ ⟨lay [], 0, [], 0⟩ _ _
  refine WpItems.gcall1 (by simp only [go_sem, reduceIte, Nat.reduceEqDiff, Nat.reduceAdd, bx]) (by simp only [go_sem, reduceIte, Nat.reduceEqDiff, Nat.reduceAdd, bx, List.map]; first | exact VSubs.refl _ | (repeat (first | exact VSubs.nil | refine VSubs.cons (by first | exact VSub.refl _ | assumption | exact VSub.cap | exact VSub.any _) ?_))) (new_g) (Ok.nil) fun r1 G1 n1 T1 m1 ids1 hq1 on1 => ?_
  obtain ⟨s, F0, rfl, rfl, hF0⟩ := hq1
  refine WpItems.evR (by simp only [go_sem, reduceIte, Nat.reduceEqDiff, Nat.reduceAdd, bx]; exact rfl) ?_
  by_cases h60 : 60 < l.length
  · have d1 : decide ((60 : Int) < (l.length : Int)) = true := decide_eq_true (by omega)
    repeat (first
      | ((first | apply Wp.seqItemsR | apply Wp.itemsR | ((first
          | (refine WpItems.pcall ?_ ?_ (hL) ?_; (· simp only [go_sem, reduceIte, Nat.reduceEqDiff, Nat.reduceAdd, bx]); (· simp only [go_sem, reduceIte, Nat.reduceEqDiff, Nat.reduceAdd, bx, List.map]; first | exact VSubs.refl _ | (repeat (first | exact VSubs.nil | refine VSubs.cons (by first | exact VSub.refl _ | assumption | exact VSub.cap | exact VSub.any _) ?_))))); apply WpItems.evR)); (· simp only [go_sem, reduceIte, Nat.reduceEqDiff, Nat.reduceAdd, bx, ax, if_true, if_false, Nat.reduceMul, Nat.reduceLeDiff, hil, d1]; exact rfl))
      | (refine WpItems.nil ⟨?_, ?_⟩; (· first | trivial | simp [pairsQ, pairsOk, apart, ent0]))
      | (apply Wp.cond_lit; (· simp only [go_sem, reduceIte, Nat.reduceEqDiff, Nat.reduceAdd, bx, ax, if_true, if_false, Nat.reduceMul, Nat.reduceLeDiff, hil, d1]; exact rfl); (· rfl))
      | refine Wp.skip ?_
      | refine Wp.label ?_
      | refine Wp.block ?_
      | refine Wp.exit ?_
      | refine Wp.seq ?_)
    refine Wp.ret ⟨trivial, _, rfl, ?_⟩
    simp only [go_sem, reduceIte, Nat.reduceEqDiff, Nat.reduceAdd, bx]
    exact VSub.refl _
  have d1 : decide ((60 : Int) < (l.length : Int)) = false := decide_eq_false (by omega)
  repeat (first
    | ((first | apply Wp.seqItemsR | apply Wp.itemsR); (· simp only [go_sem, reduceIte, Nat.reduceEqDiff, Nat.reduceAdd, bx, ax, if_true, if_false, Nat.reduceMul, Nat.reduceLeDiff, hil, d1]; exact rfl))
    | (refine WpItems.nil ⟨?_, ?_⟩; (· first | trivial | simp [pairsQ, pairsOk, apart, ent0]))
    | (apply Wp.cond_lit; (· simp only [go_sem, reduceIte, Nat.reduceEqDiff, Nat.reduceAdd, bx, ax, if_true, if_false, Nat.reduceMul, Nat.reduceLeDiff, hil, d1]; exact rfl); (· rfl))
    | refine Wp.skip ?_
    | refine Wp.label ?_
    | refine Wp.block ?_
    | refine Wp.exit ?_
    | refine Wp.seq ?_)
  refine Wp.loopG (β := Nat) [0, 1, 5] (by simp only [go_sem, reduceIte, Nat.reduceEqDiff, List.map]; exact rfl) (fun j => [(6, .sl 2 (prs (runP l j)) .any), (7, .sl 2 (prs (thenP l t j)) .any), (8, .int .i64 (j : Nat))]) (fun j L => j ≤ l.length ∧ (∀ i, i < j → (l.getD i default).length ≤ 30) ∧ ∃ F, L = [F] ∧ SpcF s (runS l j) F) (fun j => l.length - j) 0 ⟨Nat.zero_le _, fun i h => absurd h (by omega), F0, rfl, hF0⟩ on1.ok (by
    have e : thenP l t 0 = [] := by rw [thenP, if_neg (by omega)]
    simp only [AllSub, go_sem, reduceIte, Nat.reduceEqDiff, e]; exact ⟨VSub.cap, VSub.cap, VSub.refl _, trivial⟩) ?_
  rintro j L n2 T2 m2 on ⟨hj, h30, F, rfl, hF⟩
  have hr := runs_ok (by omega) j hj h30
  by_cases hc : j < l.length
  · have g1 : decide (((j : Nat) : Int) < ((l.length : Nat) : Int)) = true := decide_eq_true (by omega)
    have h2 : (0 : Int) ≤ ((j : Nat) : Int) := by omega
    have h3 : ((j : Nat) : Int) < ((l.length : Nat) : Int) := by omega
    have e1 : IntKind.i64.wrap (((j : Nat) : Int) + 1) = ((j + 1 : Nat) : Int) := by rw [IntWalk.i64_in _ (by omega)]; omega
    have hat := enc_at encB l j .any hc
    have hvx := hv (l.getD j default) (by rw [getD_el hc]; exact List.getElem_mem hc)
    have hS : runS l (j + 1) = batchS (runS l j) ((j + 1 : Nat) : Int) (l.getD j default) := rfl
    have hP : runP l (j + 1) = batchP (runP l j) (l.getD j default) := rfl
    have hth : thenP l t (j + 1) = if (j : Int) = t then runP l j else thenP l t j := by
      unfold thenP
      by_cases e : (j : Int) = t
      · rw [if_pos e, if_pos (by omega)]
        have : t.toNat = j := by omega
        rw [this]
      · rw [if_neg e]
        by_cases e2 : 0 ≤ t ∧ t < (j : Int)
        · rw [if_pos e2, if_pos (by omega)]
        · rw [if_neg e2, if_neg (by omega)]
    have h302 : (l.getD j default).length ≤ 30 → ∀ i, i < j + 1 → (l.getD i default).length ≤ 30 := fun h i hi => by
      by_cases e : i = j
      · rw [e]; exact h
      · exact h30 i (by omega)
    generalize hx : l.getD j default = x at *
    by_cases q1 : 30 < x.length
    · have d2 : decide ((30 : Int) < (x.length : Int)) = true := decide_eq_true (by omega)
      repeat (first
        | ((first | apply Wp.seqItemsR | apply Wp.itemsR | ((first
            | (refine WpItems.pcall ?_ ?_ (hL) ?_; (· simp only [go_sem, reduceIte, Nat.reduceEqDiff, Nat.reduceAdd, bx]); (· simp only [go_sem, reduceIte, Nat.reduceEqDiff, Nat.reduceAdd, bx, List.map]; first | exact VSubs.refl _ | (repeat (first | exact VSubs.nil | refine VSubs.cons (by first | exact VSub.refl _ | assumption | exact VSub.cap | exact VSub.any _) ?_))))); apply WpItems.evR)); (· simp only [go_sem, reduceIte, Nat.reduceEqDiff, Nat.reduceAdd, bx, ax, if_true, if_false, Nat.reduceMul, Nat.reduceLeDiff, g1, h2, h3, hat, hil, encB, chs_length, d2]; exact rfl))
        | (refine WpItems.nil ⟨?_, ?_⟩; (· first | trivial | simp [pairsQ, pairsOk, apart, ent0]))
        | (apply Wp.cond_lit; (· simp only [go_sem, reduceIte, Nat.reduceEqDiff, Nat.reduceAdd, bx, ax, if_true, if_false, Nat.reduceMul, Nat.reduceLeDiff, g1, h2, h3, hat, hil, encB, chs_length, d2]; exact rfl); (· rfl))
        | refine Wp.skip ?_
        | refine Wp.label ?_
        | refine Wp.block ?_
        | refine Wp.exit ?_
        | refine Wp.seq ?_)
      refine Wp.ret ⟨trivial, _, rfl, ?_⟩
      simp only [go_sem, reduceIte, Nat.reduceEqDiff, Nat.reduceAdd, bx]
      exact VSub.refl _
    have d2 : decide ((30 : Int) < (x.length : Int)) = false := decide_eq_false (by omega)
    have lt1 : (runS l j).last < ((j + 1 : Nat) : Int) := by rw [hr.la]; omega
    have hap := apply_g hF hr.fit.ri ((j + 1 : Nat) : Int) x (by omega) (hr.fit.room (by omega))
    have d20 : decide ((2 : Int) = 0) = false := rfl
    have d22 : decide ((2 : Int) = 2) = true := rfl
    have d00 : decide ((0 : Int) = 0) = true := rfl
    cases hf : fitB x with
    | true =>
      have ha : applyB (runS l j) ((j + 1 : Nat) : Int) x = (runS l (j + 1), 0) := by
        rw [hS, batchS, if_pos hf, applyB, if_neg (by omega), if_neg (by rw [hf]; exact Bool.false_ne_true.symm)]
      have hch := changed_p (runP l j) x (by have := hr.ln; omega) (by omega) hr.ls (fun c hc2 => by
        obtain ⟨i, hi, rfl⟩ := List.mem_iff_getElem.1 hc2
        have := shut_of hf hi
        rwa [getD_el hi] at this)
      have hP2 : runP l (j + 1) = doChs (runP l j) x := by rw [hP, batchP, if_pos hf]
      rw [ha] at hap
      cases hjt : decide ((j : Int) = t) with
      | true =>
        have hth2 : thenP l t (j + 1) = runP l j := by rw [hth, if_pos (of_decide_eq_true hjt)]
        repeat (first
          | ((first | apply Wp.seqItemsR | apply Wp.itemsR); (· simp only [go_sem, reduceIte, Nat.reduceEqDiff, Nat.reduceAdd, bx, ax, if_true, if_false, Nat.reduceMul, Nat.reduceLeDiff, g1, h2, h3, hat, hil, encB, chs_length, d2, hjt, e1]; exact rfl))
          | (refine WpItems.nil ⟨?_, ?_⟩; (· first | trivial | simp [pairsQ, pairsOk, apart, ent0]))
          | (apply Wp.cond_lit; (· simp only [go_sem, reduceIte, Nat.reduceEqDiff, Nat.reduceAdd, bx, ax, if_true, if_false, Nat.reduceMul, Nat.reduceLeDiff, g1, h2, h3, hat, hil, encB, chs_length, d2, hjt, e1]; exact rfl); (· rfl))
          | refine Wp.skip ?_
          | refine Wp.label ?_
          | refine Wp.block ?_
          | refine Wp.exit ?_
          | refine Wp.seq ?_)
        refine WpItems.gcall1 (by simp only [go_sem, reduceIte, Nat.reduceEqDiff, Nat.reduceAdd, bx]) (by simp only [go_sem, reduceIte, Nat.reduceEqDiff, Nat.reduceAdd, bx, List.map]; first | exact VSubs.refl _ | (repeat (first | exact VSubs.nil | refine VSubs.cons (by first | exact VSub.refl _ | assumption | exact VSub.cap | exact VSub.any _) ?_))) (hap) (on.ok) fun r3 G3 n3 T3 m3 ids3 hq3 on3 => ?_
        obtain ⟨rfl, F3, rfl, hF3⟩ := hq3
        refine WpItems.evR (by simp only [go_sem, reduceIte, Nat.reduceEqDiff, Nat.reduceAdd, bx]; exact rfl) ?_
        repeat (first
          | ((first | apply Wp.seqItemsR | apply Wp.itemsR | ((first
              | (refine WpItems.pcall ?_ ?_ (hch) ?_; (· simp only [go_sem, reduceIte, Nat.reduceEqDiff, Nat.reduceAdd, bx]); (· simp only [go_sem, reduceIte, Nat.reduceEqDiff, Nat.reduceAdd, bx, List.map]; first | exact VSubs.refl _ | (repeat (first | exact VSubs.nil | refine VSubs.cons (by first | exact VSub.refl _ | assumption | exact VSub.cap | exact VSub.any _) ?_))))); apply WpItems.evR)); (· simp only [go_sem, reduceIte, Nat.reduceEqDiff, Nat.reduceAdd, bx, ax, if_true, if_false, Nat.reduceMul, Nat.reduceLeDiff, h2, h3, hat, hil, encB, d00, e1]; exact rfl))
          | (refine WpItems.nil ⟨?_, ?_⟩; (· first | trivial | simp [pairsQ, pairsOk, apart, ent0]))
          | (apply Wp.cond_lit; (· simp only [go_sem, reduceIte, Nat.reduceEqDiff, Nat.reduceAdd, bx, ax, if_true, if_false, Nat.reduceMul, Nat.reduceLeDiff, h2, h3, hat, hil, encB, d00, e1]; exact rfl); (· rfl))
          | refine Wp.skip ?_
          | refine Wp.label ?_
          | refine Wp.block ?_
          | refine Wp.exit ?_
          | refine Wp.seq ?_)
        refine ⟨j + 1, [F3], n3, T3, m3, on3, ⟨by omega, h302 (by omega), F3, rfl, hF3⟩, by omega, ?_⟩
        rw [hth2, hP2]
        refine StLe.tm (by simp only [AllSub, go_sem, reduceIte, Nat.reduceEqDiff, Nat.reduceAdd, bx]; and_intros <;> first | exact trivial | exact VSub.refl _ | exact VSub.any _ | (refine VSub.int ?_; omega))
      | false =>
        have hth2 : thenP l t (j + 1) = thenP l t j := by rw [hth, if_neg (of_decide_eq_false hjt)]
        repeat (first
          | ((first | apply Wp.seqItemsR | apply Wp.itemsR); (· simp only [go_sem, reduceIte, Nat.reduceEqDiff, Nat.reduceAdd, bx, ax, if_true, if_false, Nat.reduceMul, Nat.reduceLeDiff, g1, h2, h3, hat, hil, encB, chs_length, d2, hjt, e1]; exact rfl))
          | (refine WpItems.nil ⟨?_, ?_⟩; (· first | trivial | simp [pairsQ, pairsOk, apart, ent0]))
          | (apply Wp.cond_lit; (· simp only [go_sem, reduceIte, Nat.reduceEqDiff, Nat.reduceAdd, bx, ax, if_true, if_false, Nat.reduceMul, Nat.reduceLeDiff, g1, h2, h3, hat, hil, encB, chs_length, d2, hjt, e1]; exact rfl); (· rfl))
          | refine Wp.skip ?_
          | refine Wp.label ?_
          | refine Wp.block ?_
          | refine Wp.exit ?_
          | refine Wp.seq ?_)
        refine WpItems.gcall1 (by simp only [go_sem, reduceIte, Nat.reduceEqDiff, Nat.reduceAdd, bx]) (by simp only [go_sem, reduceIte, Nat.reduceEqDiff, Nat.reduceAdd, bx, List.map]; first | exact VSubs.refl _ | (repeat (first | exact VSubs.nil | refine VSubs.cons (by first | exact VSub.refl _ | assumption | exact VSub.cap | exact VSub.any _) ?_))) (hap) (on.ok) fun r3 G3 n3 T3 m3 ids3 hq3 on3 => ?_
        obtain ⟨rfl, F3, rfl, hF3⟩ := hq3
        refine WpItems.evR (by simp only [go_sem, reduceIte, Nat.reduceEqDiff, Nat.reduceAdd, bx]; exact rfl) ?_
        repeat (first
          | ((first | apply Wp.seqItemsR | apply Wp.itemsR | ((first
              | (refine WpItems.pcall ?_ ?_ (hch) ?_; (· simp only [go_sem, reduceIte, Nat.reduceEqDiff, Nat.reduceAdd, bx]); (· simp only [go_sem, reduceIte, Nat.reduceEqDiff, Nat.reduceAdd, bx, List.map]; first | exact VSubs.refl _ | (repeat (first | exact VSubs.nil | refine VSubs.cons (by first | exact VSub.refl _ | assumption | exact VSub.cap | exact VSub.any _) ?_))))); apply WpItems.evR)); (· simp only [go_sem, reduceIte, Nat.reduceEqDiff, Nat.reduceAdd, bx, ax, if_true, if_false, Nat.reduceMul, Nat.reduceLeDiff, h2, h3, hat, hil, encB, d00, e1]; exact rfl))
          | (refine WpItems.nil ⟨?_, ?_⟩; (· first | trivial | simp [pairsQ, pairsOk, apart, ent0]))
          | (apply Wp.cond_lit; (· simp only [go_sem, reduceIte, Nat.reduceEqDiff, Nat.reduceAdd, bx, ax, if_true, if_false, Nat.reduceMul, Nat.reduceLeDiff, h2, h3, hat, hil, encB, d00, e1]; exact rfl); (· rfl))
          | refine Wp.skip ?_
          | refine Wp.label ?_
          | refine Wp.block ?_
          | refine Wp.exit ?_
          | refine Wp.seq ?_)
        refine ⟨j + 1, [F3], n3, T3, m3, on3, ⟨by omega, h302 (by omega), F3, rfl, hF3⟩, by omega, ?_⟩
        rw [hth2, hP2]
        refine StLe.tm (by simp only [AllSub, go_sem, reduceIte, Nat.reduceEqDiff, Nat.reduceAdd, bx]; and_intros <;> first | exact trivial | exact VSub.refl _ | exact VSub.any _ | (refine VSub.int ?_; omega))
    | false =>
      have ha : applyB (runS l j) ((j + 1 : Nat) : Int) x = (runS l j, 2) := by
        rw [applyB, if_neg (by omega), if_pos hf]
      have ha2 : applyB (runS l j) ((j + 1 : Nat) : Int) [] = (runS l (j + 1), 0) := by
        rw [hS, batchS, if_neg (by rw [hf]; exact Bool.false_ne_true), applyB, if_neg (by omega), if_neg (by exact Bool.false_ne_true.symm)]
      have hP2 : runP l (j + 1) = runP l j := by rw [hP, batchP, if_neg (by rw [hf]; exact Bool.false_ne_true)]
      rw [ha] at hap
      cases hjt : decide ((j : Int) = t) with
      | true =>
        have hth2 : thenP l t (j + 1) = runP l j := by rw [hth, if_pos (of_decide_eq_true hjt)]
        repeat (first
          | ((first | apply Wp.seqItemsR | apply Wp.itemsR); (· simp only [go_sem, reduceIte, Nat.reduceEqDiff, Nat.reduceAdd, bx, ax, if_true, if_false, Nat.reduceMul, Nat.reduceLeDiff, g1, h2, h3, hat, hil, encB, chs_length, d2, hjt, e1]; exact rfl))
          | (refine WpItems.nil ⟨?_, ?_⟩; (· first | trivial | simp [pairsQ, pairsOk, apart, ent0]))
          | (apply Wp.cond_lit; (· simp only [go_sem, reduceIte, Nat.reduceEqDiff, Nat.reduceAdd, bx, ax, if_true, if_false, Nat.reduceMul, Nat.reduceLeDiff, g1, h2, h3, hat, hil, encB, chs_length, d2, hjt, e1]; exact rfl); (· rfl))
          | refine Wp.skip ?_
          | refine Wp.label ?_
          | refine Wp.block ?_
          | refine Wp.exit ?_
          | refine Wp.seq ?_)
        refine WpItems.gcall1 (by simp only [go_sem, reduceIte, Nat.reduceEqDiff, Nat.reduceAdd, bx]) (by simp only [go_sem, reduceIte, Nat.reduceEqDiff, Nat.reduceAdd, bx, List.map]; first | exact VSubs.refl _ | (repeat (first | exact VSubs.nil | refine VSubs.cons (by first | exact VSub.refl _ | assumption | exact VSub.cap | exact VSub.any _) ?_))) (hap) (on.ok) fun r3 G3 n3 T3 m3 ids3 hq3 on3 => ?_
        obtain ⟨rfl, F3, rfl, hF3⟩ := hq3
        refine WpItems.evR (by simp only [go_sem, reduceIte, Nat.reduceEqDiff, Nat.reduceAdd, bx]; exact rfl) ?_
        repeat (first
          | ((first | apply Wp.seqItemsR | apply Wp.itemsR); (· simp only [go_sem, reduceIte, Nat.reduceEqDiff, Nat.reduceAdd, bx, ax, if_true, if_false, Nat.reduceMul, Nat.reduceLeDiff, d20, d22, e1]; exact rfl))
          | (refine WpItems.nil ⟨?_, ?_⟩; (· first | trivial | simp [pairsQ, pairsOk, apart, ent0]))
          | (apply Wp.cond_lit; (· simp only [go_sem, reduceIte, Nat.reduceEqDiff, Nat.reduceAdd, bx, ax, if_true, if_false, Nat.reduceMul, Nat.reduceLeDiff, d20, d22, e1]; exact rfl); (· rfl))
          | refine Wp.skip ?_
          | refine Wp.label ?_
          | refine Wp.block ?_
          | refine Wp.exit ?_
          | refine Wp.seq ?_)
        have hap2 := apply_g hF3 hr.fit.ri ((j + 1 : Nat) : Int) [] (by simp) (hr.fit.room (by simp; omega))
        rw [ha2] at hap2
        refine WpItems.gcall1 (by simp only [go_sem, reduceIte, Nat.reduceEqDiff, Nat.reduceAdd, bx]) (by simp only [go_sem, reduceIte, Nat.reduceEqDiff, Nat.reduceAdd, bx, List.map]; first | exact VSubs.refl _ | (repeat (first | exact VSubs.nil | refine VSubs.cons (by first | exact VSub.refl _ | assumption | exact VSub.cap | exact VSub.any _) ?_))) (hap2) (on3.ok) fun r4 G4 n4 T4 m4 ids4 hq4 on4 => ?_
        obtain ⟨rfl, F4, rfl, hF4⟩ := hq4
        refine WpItems.evR (by simp only [go_sem, reduceIte, Nat.reduceEqDiff, Nat.reduceAdd, bx]; exact rfl) ?_
        repeat (first
          | ((first | apply Wp.seqItemsR | apply Wp.itemsR); (· simp only [go_sem, reduceIte, Nat.reduceEqDiff, Nat.reduceAdd, bx, ax, if_true, if_false, Nat.reduceMul, Nat.reduceLeDiff, d00, e1]; exact rfl))
          | (refine WpItems.nil ⟨?_, ?_⟩; (· first | trivial | simp [pairsQ, pairsOk, apart, ent0]))
          | (apply Wp.cond_lit; (· simp only [go_sem, reduceIte, Nat.reduceEqDiff, Nat.reduceAdd, bx, ax, if_true, if_false, Nat.reduceMul, Nat.reduceLeDiff, d00, e1]; exact rfl); (· rfl))
          | refine Wp.skip ?_
          | refine Wp.label ?_
          | refine Wp.block ?_
          | refine Wp.exit ?_
          | refine Wp.seq ?_)
        refine ⟨j + 1, [F4], n4, T4, m4, on3.step on4, ⟨by omega, h302 (by omega), F4, rfl, hF4⟩, by omega, ?_⟩
        rw [hth2, hP2]
        refine StLe.tm (by simp only [AllSub, go_sem, reduceIte, Nat.reduceEqDiff, Nat.reduceAdd, bx]; and_intros <;> first | exact trivial | exact VSub.refl _ | exact VSub.any _ | (refine VSub.int ?_; omega))
      | false =>
        have hth2 : thenP l t (j + 1) = thenP l t j := by rw [hth, if_neg (of_decide_eq_false hjt)]
        repeat (first
          | ((first | apply Wp.seqItemsR | apply Wp.itemsR); (· simp only [go_sem, reduceIte, Nat.reduceEqDiff, Nat.reduceAdd, bx, ax, if_true, if_false, Nat.reduceMul, Nat.reduceLeDiff, g1, h2, h3, hat, hil, encB, chs_length, d2, hjt, e1]; exact rfl))
          | (refine WpItems.nil ⟨?_, ?_⟩; (· first | trivial | simp [pairsQ, pairsOk, apart, ent0]))
          | (apply Wp.cond_lit; (· simp only [go_sem, reduceIte, Nat.reduceEqDiff, Nat.reduceAdd, bx, ax, if_true, if_false, Nat.reduceMul, Nat.reduceLeDiff, g1, h2, h3, hat, hil, encB, chs_length, d2, hjt, e1]; exact rfl); (· rfl))
          | refine Wp.skip ?_
          | refine Wp.label ?_
          | refine Wp.block ?_
          | refine Wp.exit ?_
          | refine Wp.seq ?_)
        refine WpItems.gcall1 (by simp only [go_sem, reduceIte, Nat.reduceEqDiff, Nat.reduceAdd, bx]) (by simp only [go_sem, reduceIte, Nat.reduceEqDiff, Nat.reduceAdd, bx, List.map]; first | exact VSubs.refl _ | (repeat (first | exact VSubs.nil | refine VSubs.cons (by first | exact VSub.refl _ | assumption | exact VSub.cap | exact VSub.any _) ?_))) (hap) (on.ok) fun r3 G3 n3 T3 m3 ids3 hq3 on3 => ?_
        obtain ⟨rfl, F3, rfl, hF3⟩ := hq3
        refine WpItems.evR (by simp only [go_sem, reduceIte, Nat.reduceEqDiff, Nat.reduceAdd, bx]; exact rfl) ?_
        repeat (first
          | ((first | apply Wp.seqItemsR | apply Wp.itemsR); (· simp only [go_sem, reduceIte, Nat.reduceEqDiff, Nat.reduceAdd, bx, ax, if_true, if_false, Nat.reduceMul, Nat.reduceLeDiff, d20, d22, e1]; exact rfl))
          | (refine WpItems.nil ⟨?_, ?_⟩; (· first | trivial | simp [pairsQ, pairsOk, apart, ent0]))
          | (apply Wp.cond_lit; (· simp only [go_sem, reduceIte, Nat.reduceEqDiff, Nat.reduceAdd, bx, ax, if_true, if_false, Nat.reduceMul, Nat.reduceLeDiff, d20, d22, e1]; exact rfl); (· rfl))
          | refine Wp.skip ?_
          | refine Wp.label ?_
          | refine Wp.block ?_
          | refine Wp.exit ?_
          | refine Wp.seq ?_)
        have hap2 := apply_g hF3 hr.fit.ri ((j + 1 : Nat) : Int) [] (by simp) (hr.fit.room (by simp; omega))
        rw [ha2] at hap2
        refine WpItems.gcall1 (by simp only [go_sem, reduceIte, Nat.reduceEqDiff, Nat.reduceAdd, bx]) (by simp only [go_sem, reduceIte, Nat.reduceEqDiff, Nat.reduceAdd, bx, List.map]; first | exact VSubs.refl _ | (repeat (first | exact VSubs.nil | refine VSubs.cons (by first | exact VSub.refl _ | assumption | exact VSub.cap | exact VSub.any _) ?_))) (hap2) (on3.ok) fun r4 G4 n4 T4 m4 ids4 hq4 on4 => ?_
        obtain ⟨rfl, F4, rfl, hF4⟩ := hq4
        refine WpItems.evR (by simp only [go_sem, reduceIte, Nat.reduceEqDiff, Nat.reduceAdd, bx]; exact rfl) ?_
        repeat (first
          | ((first | apply Wp.seqItemsR | apply Wp.itemsR); (· simp only [go_sem, reduceIte, Nat.reduceEqDiff, Nat.reduceAdd, bx, ax, if_true, if_false, Nat.reduceMul, Nat.reduceLeDiff, d00, e1]; exact rfl))
          | (refine WpItems.nil ⟨?_, ?_⟩; (· first | trivial | simp [pairsQ, pairsOk, apart, ent0]))
          | (apply Wp.cond_lit; (· simp only [go_sem, reduceIte, Nat.reduceEqDiff, Nat.reduceAdd, bx, ax, if_true, if_false, Nat.reduceMul, Nat.reduceLeDiff, d00, e1]; exact rfl); (· rfl))
          | refine Wp.skip ?_
          | refine Wp.label ?_
          | refine Wp.block ?_
          | refine Wp.exit ?_
          | refine Wp.seq ?_)
        refine ⟨j + 1, [F4], n4, T4, m4, on3.step on4, ⟨by omega, h302 (by omega), F4, rfl, hF4⟩, by omega, ?_⟩
        rw [hth2, hP2]
        refine StLe.tm (by simp only [AllSub, go_sem, reduceIte, Nat.reduceEqDiff, Nat.reduceAdd, bx]; and_intros <;> first | exact trivial | exact VSub.refl _ | exact VSub.any _ | (refine VSub.int ?_; omega))
  · have hje : j = l.length := by omega
    subst hje
    have g1 : decide (((l.length : Nat) : Int) < ((l.length : Nat) : Int)) = false := decide_eq_false (by omega)
    have hsm := hr.fit.small (by omega)
    have hla := hr.la
    have hmk := hr.mz
    have kp : ∀ u : Int, 0 ≤ u → u ≤ (l.length : Int) → keptB (runS l l.length) u = 0 := fun u h1 h2 => kept_iff.2 ⟨by rw [hmk]; exact h1, by rw [hla]; exact h2⟩
    have sc : ∀ u : Nat, u ≤ l.length → scanB (runS l l.length) [] [] (u : Int) (-1) = (runP l u, 0) := fun u hu => by
      rw [scanB, if_pos (kp u (by omega) (by omega)), (hr.has u hu).all hr.fit.ri]; rfl
    have sg1 := scan_g hF hr.fit.ri hsm [] [] (l.length : Int) (-1)
    rw [sc l.length (Nat.le_refl _)] at sg1
    have hp1 := samePr_p (runP l l.length) (runP l l.length) (by have := hr.ln; omega)
    rw [decide_eq_true rfl] at hp1
    have d00 : decide ((0 : Int) = 0) = true := rfl
    have dll : decide ((l.length : Int) = (l.length : Int)) = true := decide_eq_true rfl
    have hlast := last_r hF
    rw [hla] at hlast
    repeat (first
      | ((first | apply Wp.seqItemsR | apply Wp.itemsR); (· simp only [go_sem, reduceIte, Nat.reduceEqDiff, Nat.reduceAdd, bx, ax, if_true, if_false, Nat.reduceMul, Nat.reduceLeDiff, g1, hil]; exact rfl))
      | (refine WpItems.nil ⟨?_, ?_⟩; (· first | trivial | simp [pairsQ, pairsOk, apart, ent0]))
      | (apply Wp.cond_lit; (· simp only [go_sem, reduceIte, Nat.reduceEqDiff, Nat.reduceAdd, bx, ax, if_true, if_false, Nat.reduceMul, Nat.reduceLeDiff, g1, hil]; exact rfl); (· rfl))
      | refine Wp.skip ?_
      | refine Wp.label ?_
      | refine Wp.block ?_
      | refine Wp.exit ?_
      | refine Wp.seq ?_)
    refine WpItems.gkeep0 (by simp only [go_sem, reduceIte, Nat.reduceEqDiff, Nat.reduceAdd, bx]) (by simp only [go_sem, reduceIte, Nat.reduceEqDiff, Nat.reduceAdd, bx, List.map]; first | exact VSubs.refl _ | (repeat (first | exact VSubs.nil | refine VSubs.cons (by first | exact VSub.refl _ | assumption | exact VSub.cap | exact VSub.any _) ?_))) (sg1) (hF.k) (on.ok) fun n3 m3 ids3 on3 hids3 => ?_
    have ok := on3.ok
    refine WpItems.evR (by simp only [go_sem, reduceIte, Nat.reduceEqDiff, Nat.reduceAdd, bx]; exact rfl) ?_
    by_cases p1 : t < 0
    · have d3 := decide_eq_true p1
      repeat (first
        | ((first | apply Wp.seqItemsR | apply Wp.itemsR | ((first
            | (refine WpItems.pcall ?_ ?_ (hp1) ?_; (· simp only [go_sem, reduceIte, Nat.reduceEqDiff, Nat.reduceAdd, bx]); (· simp only [go_sem, reduceIte, Nat.reduceEqDiff, Nat.reduceAdd, bx, List.map]; first | exact VSubs.refl _ | (repeat (first | exact VSubs.nil | refine VSubs.cons (by first | exact VSub.refl _ | assumption | exact VSub.cap | exact VSub.any _) ?_))))
            | (refine WpItems.glook ?_ ?_ (hlast) (by first | exact fun j o h => h | exact ok.sub (by simp) | assumption) (fun ids => ?_); (· simp only [go_sem, reduceIte, Nat.reduceEqDiff, Nat.reduceAdd, bx]); (· simp only [go_sem, reduceIte, Nat.reduceEqDiff, Nat.reduceAdd, bx, List.map]; first | exact VSubs.refl _ | (repeat (first | exact VSubs.nil | refine VSubs.cons (by first | exact VSub.refl _ | assumption | exact VSub.cap | exact VSub.any _) ?_))))
            | (refine WpItems.pcall ?_ ?_ (hL) ?_; (· simp only [go_sem, reduceIte, Nat.reduceEqDiff, Nat.reduceAdd, bx]); (· simp only [go_sem, reduceIte, Nat.reduceEqDiff, Nat.reduceAdd, bx, List.map]; first | exact VSubs.refl _ | (repeat (first | exact VSubs.nil | refine VSubs.cons (by first | exact VSub.refl _ | assumption | exact VSub.cap | exact VSub.any _) ?_))))); apply WpItems.evR)); (· simp only [go_sem, reduceIte, Nat.reduceEqDiff, Nat.reduceAdd, bx, ax, if_true, if_false, Nat.reduceMul, Nat.reduceLeDiff, d00, dll, d3, hil]; exact rfl))
        | (refine WpItems.nil ⟨?_, ?_⟩; (· first | trivial | simp [pairsQ, pairsOk, apart, ent0]))
        | (apply Wp.cond_lit; (· simp only [go_sem, reduceIte, Nat.reduceEqDiff, Nat.reduceAdd, bx, ax, if_true, if_false, Nat.reduceMul, Nat.reduceLeDiff, d00, dll, d3, hil]; exact rfl); (· rfl))
        | refine Wp.skip ?_
        | refine Wp.label ?_
        | refine Wp.block ?_
        | refine Wp.exit ?_
        | refine Wp.seq ?_)
      refine Wp.ret ⟨trivial, _, rfl, ?_⟩
      simp only [go_sem, reduceIte, Nat.reduceEqDiff, Nat.reduceAdd, bx]
      exact VSub.refl _
    have d3 := decide_eq_false p1
    by_cases p2 : (l.length : Int) ≤ t
    · have d4 := decide_eq_true p2
      repeat (first
        | ((first | apply Wp.seqItemsR | apply Wp.itemsR | ((first
            | (refine WpItems.pcall ?_ ?_ (hp1) ?_; (· simp only [go_sem, reduceIte, Nat.reduceEqDiff, Nat.reduceAdd, bx]); (· simp only [go_sem, reduceIte, Nat.reduceEqDiff, Nat.reduceAdd, bx, List.map]; first | exact VSubs.refl _ | (repeat (first | exact VSubs.nil | refine VSubs.cons (by first | exact VSub.refl _ | assumption | exact VSub.cap | exact VSub.any _) ?_))))
            | (refine WpItems.glook ?_ ?_ (hlast) (by first | exact fun j o h => h | exact ok.sub (by simp) | assumption) (fun ids => ?_); (· simp only [go_sem, reduceIte, Nat.reduceEqDiff, Nat.reduceAdd, bx]); (· simp only [go_sem, reduceIte, Nat.reduceEqDiff, Nat.reduceAdd, bx, List.map]; first | exact VSubs.refl _ | (repeat (first | exact VSubs.nil | refine VSubs.cons (by first | exact VSub.refl _ | assumption | exact VSub.cap | exact VSub.any _) ?_))))
            | (refine WpItems.pcall ?_ ?_ (hL) ?_; (· simp only [go_sem, reduceIte, Nat.reduceEqDiff, Nat.reduceAdd, bx]); (· simp only [go_sem, reduceIte, Nat.reduceEqDiff, Nat.reduceAdd, bx, List.map]; first | exact VSubs.refl _ | (repeat (first | exact VSubs.nil | refine VSubs.cons (by first | exact VSub.refl _ | assumption | exact VSub.cap | exact VSub.any _) ?_))))); apply WpItems.evR)); (· simp only [go_sem, reduceIte, Nat.reduceEqDiff, Nat.reduceAdd, bx, ax, if_true, if_false, Nat.reduceMul, Nat.reduceLeDiff, d00, dll, d3, d4, hil]; exact rfl))
        | (refine WpItems.nil ⟨?_, ?_⟩; (· first | trivial | simp [pairsQ, pairsOk, apart, ent0]))
        | (apply Wp.cond_lit; (· simp only [go_sem, reduceIte, Nat.reduceEqDiff, Nat.reduceAdd, bx, ax, if_true, if_false, Nat.reduceMul, Nat.reduceLeDiff, d00, dll, d3, d4, hil]; exact rfl); (· rfl))
        | refine Wp.skip ?_
        | refine Wp.label ?_
        | refine Wp.block ?_
        | refine Wp.exit ?_
        | refine Wp.seq ?_)
      refine Wp.ret ⟨trivial, _, rfl, ?_⟩
      simp only [go_sem, reduceIte, Nat.reduceEqDiff, Nat.reduceAdd, bx]
      exact VSub.refl _
    have d4 := decide_eq_false p2
    have ht : (t.toNat : Int) = t := by omega
    have hthn : thenP l t l.length = runP l t.toNat := by rw [thenP, if_pos (by omega)]
    have sg2 := scan_g hF hr.fit.ri hsm [] [] t (-1)
    have sc2 := sc t.toNat (by omega)
    rw [ht] at sc2
    rw [sc2] at sg2
    have hr2 := runs_ok (by omega) t.toNat (by omega) fun i hi => h30 i (by omega)
    have hp2 := samePr_p (runP l t.toNat) (runP l t.toNat) (by have := hr2.ln; omega)
    rw [decide_eq_true rfl] at hp2
    rw [hthn]
    repeat (first
      | ((first | apply Wp.seqItemsR | apply Wp.itemsR | ((first
          | (refine WpItems.pcall ?_ ?_ (hp1) ?_; (· simp only [go_sem, reduceIte, Nat.reduceEqDiff, Nat.reduceAdd, bx]); (· simp only [go_sem, reduceIte, Nat.reduceEqDiff, Nat.reduceAdd, bx, List.map]; first | exact VSubs.refl _ | (repeat (first | exact VSubs.nil | refine VSubs.cons (by first | exact VSub.refl _ | assumption | exact VSub.cap | exact VSub.any _) ?_))))
          | (refine WpItems.glook ?_ ?_ (hlast) (by first | exact fun j o h => h | exact ok.sub (by simp) | assumption) (fun ids => ?_); (· simp only [go_sem, reduceIte, Nat.reduceEqDiff, Nat.reduceAdd, bx]); (· simp only [go_sem, reduceIte, Nat.reduceEqDiff, Nat.reduceAdd, bx, List.map]; first | exact VSubs.refl _ | (repeat (first | exact VSubs.nil | refine VSubs.cons (by first | exact VSub.refl _ | assumption | exact VSub.cap | exact VSub.any _) ?_))))
          | (refine WpItems.pcall ?_ ?_ (hL) ?_; (· simp only [go_sem, reduceIte, Nat.reduceEqDiff, Nat.reduceAdd, bx]); (· simp only [go_sem, reduceIte, Nat.reduceEqDiff, Nat.reduceAdd, bx, List.map]; first | exact VSubs.refl _ | (repeat (first | exact VSubs.nil | refine VSubs.cons (by first | exact VSub.refl _ | assumption | exact VSub.cap | exact VSub.any _) ?_))))); apply WpItems.evR)); (· simp only [go_sem, reduceIte, Nat.reduceEqDiff, Nat.reduceAdd, bx, ax, if_true, if_false, Nat.reduceMul, Nat.reduceLeDiff, d00, dll, d3, d4, hil]; exact rfl))
      | (refine WpItems.nil ⟨?_, ?_⟩; (· first | trivial | simp [pairsQ, pairsOk, apart, ent0]))
      | (apply Wp.cond_lit; (· simp only [go_sem, reduceIte, Nat.reduceEqDiff, Nat.reduceAdd, bx, ax, if_true, if_false, Nat.reduceMul, Nat.reduceLeDiff, d00, dll, d3, d4, hil]; exact rfl); (· rfl))
      | refine Wp.skip ?_
      | refine Wp.label ?_
      | refine Wp.block ?_
      | refine Wp.exit ?_
      | refine Wp.seq ?_)
    refine WpItems.gkeep0 (by simp only [go_sem, reduceIte, Nat.reduceEqDiff, Nat.reduceAdd, bx]) (by simp only [go_sem, reduceIte, Nat.reduceEqDiff, Nat.reduceAdd, bx, List.map]; first | exact VSubs.refl _ | (repeat (first | exact VSubs.nil | refine VSubs.cons (by first | exact VSub.refl _ | assumption | exact VSub.cap | exact VSub.any _) ?_))) (sg2) (hF.k) (on3.ok) fun n4 m4 ids4 on4 hids4 => ?_
    refine WpItems.evR (by simp only [go_sem, reduceIte, Nat.reduceEqDiff, Nat.reduceAdd, bx]; exact rfl) ?_
    repeat (first
      | ((first | apply Wp.seqItemsR | apply Wp.itemsR | ((first
          | (refine WpItems.pcall ?_ ?_ (hp2) ?_; (· simp only [go_sem, reduceIte, Nat.reduceEqDiff, Nat.reduceAdd, bx]); (· simp only [go_sem, reduceIte, Nat.reduceEqDiff, Nat.reduceAdd, bx, List.map]; first | exact VSubs.refl _ | (repeat (first | exact VSubs.nil | refine VSubs.cons (by first | exact VSub.refl _ | assumption | exact VSub.cap | exact VSub.any _) ?_))))
          | (refine WpItems.pcall ?_ ?_ (hL) ?_; (· simp only [go_sem, reduceIte, Nat.reduceEqDiff, Nat.reduceAdd, bx]); (· simp only [go_sem, reduceIte, Nat.reduceEqDiff, Nat.reduceAdd, bx, List.map]; first | exact VSubs.refl _ | (repeat (first | exact VSubs.nil | refine VSubs.cons (by first | exact VSub.refl _ | assumption | exact VSub.cap | exact VSub.any _) ?_))))); apply WpItems.evR)); (· simp only [go_sem, reduceIte, Nat.reduceEqDiff, Nat.reduceAdd, bx, ax, if_true, if_false, Nat.reduceMul, Nat.reduceLeDiff, d00]; exact rfl))
      | (refine WpItems.nil ⟨?_, ?_⟩; (· first | trivial | simp [pairsQ, pairsOk, apart, ent0]))
      | (apply Wp.cond_lit; (· simp only [go_sem, reduceIte, Nat.reduceEqDiff, Nat.reduceAdd, bx, ax, if_true, if_false, Nat.reduceMul, Nat.reduceLeDiff, d00]; exact rfl); (· rfl))
      | refine Wp.skip ?_
      | refine Wp.label ?_
      | refine Wp.block ?_
      | refine Wp.exit ?_
      | refine Wp.seq ?_)
    refine Wp.ret ⟨trivial, _, rfl, ?_⟩
    simp only [go_sem, reduceIte, Nat.reduceEqDiff, Nat.reduceAdd, bx]
    exact VSub.refl _
theorem law_SpaceBatches {b : Nat} (avs : List AV) (h : All2 (ArgFits Try.prog 5) Try.f3.params.toList avs) (_ : bulkAs avs ≤ b) : PCalls Try.prog 3 avs (.bool true) := by
  rw [Try.params3] at h
  cases h with | cons h0 h => cases h with | cons h1 h =>
  cases h
  obtain ⟨l, rfl, hl, hv⟩ := open_batches h0
  obtain ⟨t, rfl, -⟩ := open_i h1
  exact batches_p l hl (fun x hx => (hv x hx).1) t
end Go.Proofs.Ytpehfflehebmbaa.Space
end
section
set_option linter.unusedSimpArgs false
set_option linter.unusedVariables false
namespace Go.Proofs.Ytpehfflehebmbaa.Space
open Go Go.Av Go.Proofs Go.Proofs.Ytpehfflehebmbaa.C
open Go.ChangeShapes Go.WideShapes Go.ChangeAt Go.RowKit
set_option maxRecDepth 100000 in
theorem lifted_SpaceBatches (os : Os) (started : os.Started) (H : Type) (enc : TypeId × Value → H) :
    ReturnsInHanded {} Try.checked os 3 .any (Rows.spaceBatchesSpec.pre6 enc Try.prog Try.f3 Rows.spaceBatchesRow.domain false) (Rows.spaceBatchesSpec.post enc Try.prog Try.f3 false true false false) := by
  refine returnsInHanded_of_change_sized (C := Try.checked) own started (by kernel_rfl) Try.func3
    (ChangeSpec.witness6 (enc := enc) (C := Try.checked) false ⟨#[], #[.slice none 0 0, .int .i64 0], []⟩ 8 (by kernel_rfl) (by kernel_rfl) (by kernel_rfl) (by kernel_rfl)) ?_
  intro W base args ds gs before hval hW _ hwt _
  exact calls_row laid bulk rowed full rfl (fun l hl => by match l, hl with | [_, _], _ => rfl) rfl Try.underlying4 (by kernel_rfl) (by kernel_rfl) hval hW hwt (fun avs h hb => law_SpaceBatches avs h hb)
theorem said_SpaceBatches : Rows.SpaceBatchesSaid :=
  OpenClaim.holds_of_wide 3 Try.f3 rfl rfl rfl rfl rfl rfl rfl ⟨rfl, rfl, rfl, rfl, rfl⟩ rfl rfl rfl rfl rfl (by kernel_rfl) Try.func3 (by kernel_rfl)
    (of_decide_eq_true (by kernel_rfl)) (by unfold Func.isWrapper; first | (rw [if_pos (by decide +kernel)]; kernel_rfl) | (rw [if_neg (by decide +kernel)]; exact ⟨rfl, rfl⟩))
    (fun os started H enc _ => lifted_SpaceBatches os started H enc)
#print axioms said_SpaceBatches
end Go.Proofs.Ytpehfflehebmbaa.Space
end
