/- Parts of a proof: a layer of abstract values over the model, the functions' walks, plain laws. -/
import Derived.Deep.CondSized
import Derived.Deep.DeepHandedRow
import Derived.IntWalk
import Derived.KernelRfl
import Derived.Laws.Append
import Derived.Laws.AppendOwn
import Derived.Laws.BytesArg
import Derived.Laws.ComplexArith
import Derived.Laws.Cover3
import Derived.Laws.Entries
import Derived.Laws.FloatBits
import Derived.Laws.IdiomCopy
import Derived.Laws.IdiomStrings
import Derived.Laws.Pointers
import Derived.Laws.Small
import Derived.Laws.Strings
import Derived.Laws.StructEq
import Derived.Lib.LaidTab
import Derived.MapKept
import Derived.OpenShut
import Derived.Orders
import Derived.OrdersIn
import Derived.ProofKit
import Derived.RangeFuncRecord
import Derived.RangeFuncSeq
import Derived.ReadAgain
import Derived.Scope
import Derived.Shelf.Slices.Cells
import Derived.Shelf.Spec.SlicesInsertGrow
import Derived.SizedLaws
import Derived.Test.YtkcgpcbpieofnaaGreatDoorCards
import Derived.Test.YtkcgpcbpieofnaaGreatDoorProg
import Derived.Test.YtkcgpcbpieofnaaGreatDoorTie
import Derived.Test.YtkcgpcbpieofnaaGreatDoorKTD
section
set_option linter.unusedSimpArgs false
set_option linter.unusedVariables false
set_option maxRecDepth 10000
namespace Go.Proofs.YtkcgpcbpieofnaaGreatDoor.Reads
open Go Go.Av Go.Proofs Go.Proofs.YtkcgpcbpieofnaaGreatDoor.C Go.Proofs.YtkcgpcbpieofnaaGreatDoor.Batch
theorem isNaN_p (a : Bs) : PCalls Tryz.prog 198 [.str a] (.bool false) := by
  refine f198.pcalls0 (by simp) rfl rfl ?_
  unfold c198
  have h : decide (a = a) = true := decide_eq_true rfl
  repeat (first
    | ((first | apply Wp.seqItems | apply Wp.items); (· simp only [go_sem, reduceIte, Nat.reduceEqDiff, Nat.reduceAdd, bx, ax, if_true, if_false, Nat.reduceMul, Nat.reduceLeDiff, h]; exact rfl))
    | (refine WpItems.nil ⟨?_, ?_⟩; (· first | trivial | simp [pairsQ, pairsOk, apart, ent0]))
    | (apply Wp.cond_lit; (· simp only [go_sem, reduceIte, Nat.reduceEqDiff, Nat.reduceAdd, bx, ax, if_true, if_false, Nat.reduceMul, Nat.reduceLeDiff, h]; exact rfl); (· rfl))
    | refine Wp.skip ?_
    | refine Wp.label ?_
    | refine Wp.block ?_
    | refine Wp.exit ?_
    | refine Wp.seq ?_)
  refine Wp.ret ⟨trivial, _, rfl, ?_⟩
  simp only [go_sem, reduceIte, Nat.reduceEqDiff, Nat.reduceAdd, bx]
  exact VSub.refl _
theorem isNaN2_p (a : Bs) : PCalls Tryz.prog 223 [.str a] (.bool false) := by
  refine f223.pcalls0 (by simp) rfl rfl ?_
  unfold c223
  have h : decide (a = a) = true := decide_eq_true rfl
  repeat (first
    | ((first | apply Wp.seqItems | apply Wp.items); (· simp only [go_sem, reduceIte, Nat.reduceEqDiff, Nat.reduceAdd, bx, ax, if_true, if_false, Nat.reduceMul, Nat.reduceLeDiff, h]; exact rfl))
    | (refine WpItems.nil ⟨?_, ?_⟩; (· first | trivial | simp [pairsQ, pairsOk, apart, ent0]))
    | (apply Wp.cond_lit; (· simp only [go_sem, reduceIte, Nat.reduceEqDiff, Nat.reduceAdd, bx, ax, if_true, if_false, Nat.reduceMul, Nat.reduceLeDiff, h]; exact rfl); (· rfl))
    | refine Wp.skip ?_
    | refine Wp.label ?_
    | refine Wp.block ?_
    | refine Wp.exit ?_
    | refine Wp.seq ?_)
  refine Wp.ret ⟨trivial, _, rfl, ?_⟩
  simp only [go_sem, reduceIte, Nat.reduceEqDiff, Nat.reduceAdd, bx]
  exact VSub.refl _
theorem less_p (a b : Bs) : PCalls Tryz.prog 197 [.str a, .str b] (.bool (Op.bytesLess a b)) := by
  refine f197.pcalls0 (by simp) rfl rfl ?_
  unfold c197
  repeat (first
    | ((first | apply Wp.seqItems | apply Wp.items | ((first
        | (refine WpItems.pcall ?_ ?_ (isNaN2_p a) ?_; (· simp only [go_sem, reduceIte, Nat.reduceEqDiff, Nat.reduceAdd, bx]); (· simp only [go_sem, reduceIte, Nat.reduceEqDiff, Nat.reduceAdd, bx, List.map]; first | exact VSubs.refl _ | (repeat (first | exact VSubs.nil | refine VSubs.cons (by first | exact VSub.refl _ | assumption | exact VSub.cap | exact VSub.any _) ?_))))); apply WpItems.eval)); (· simp only [go_sem, reduceIte, Nat.reduceEqDiff, Nat.reduceAdd, bx, ax, if_true, if_false, Nat.reduceMul, Nat.reduceLeDiff]; exact rfl))
    | (refine WpItems.nil ⟨?_, ?_⟩; (· first | trivial | simp [pairsQ, pairsOk, apart, ent0]))
    | (apply Wp.cond_lit; (· simp only [go_sem, reduceIte, Nat.reduceEqDiff, Nat.reduceAdd, bx, ax, if_true, if_false, Nat.reduceMul, Nat.reduceLeDiff]; exact rfl); (· rfl))
    | refine Wp.skip ?_
    | refine Wp.label ?_
    | refine Wp.block ?_
    | refine Wp.exit ?_
    | refine Wp.seq ?_)
  refine Wp.ret ⟨trivial, _, rfl, ?_⟩
  simp only [go_sem, reduceIte, Nat.reduceEqDiff, Nat.reduceAdd, bx]
  exact VSub.refl _
theorem bsearch_p (l : List Bs) (hl : l.length ≤ 1152921504606846976) (key : Bs) (r : Nat) (hr : r ≤ l.length) (h0 : ∀ i, i < r → Op.bytesLess (l.getD i []) key = true) (h1 : ∀ i, r ≤ i → i < l.length → Op.bytesLess (l.getD i []) key = false) :
    PCalls Tryz.prog 155 [.sl 1 (strs l) .any, .str key] (.tup [.int .i64 r, .bool (decide (r < l.length) && decide (l.getD r [] = key))]) := by
  refine f155.pcalls0 (by simp) (by simp [allPure, isPure, capPure, strs_pure]) (by simp [allPure, isPure]) ?_
  unfold c155
  refine Wp.seqReg (by simp only [go_sem, reduceIte, Nat.reduceEqDiff, Nat.reduceAdd, bx]; exact rfl) (by trivial) ?_
  refine Wp.seqReg (by simp only [go_sem, reduceIte, Nat.reduceEqDiff, Nat.reduceAdd, bx, strs_length]; exact rfl) (by trivial) ?_
  refine Wp.seqReg (by simp only [go_sem, reduceIte, Nat.reduceEqDiff, Nat.reduceAdd, bx]; exact rfl) (by trivial) ?_
  refine Wp.seq ?_
  refine Wp.block ?_
  refine Wp.loopK [0, 1, 6] (by simp only [go_sem, reduceIte, Nat.reduceEqDiff, Nat.reduceAdd, bx, List.map]; exact rfl) (fun j : Nat × Nat => [(7, .int .i64 j.1), (8, .int .i64 j.2)]) (fun j => j.1 ≤ r ∧ r ≤ j.2 ∧ j.2 ≤ l.length) (fun j => j.2 - j.1) (0, l.length) ⟨Nat.zero_le _, hr, Nat.le_refl _⟩ ?_ ?_
  · simp only [AllSub, go_sem, reduceIte, Nat.reduceEqDiff, Nat.reduceAdd, bx]; and_intros <;> first | exact trivial | exact VSub.refl _ | exact VSub.any _ | (refine VSub.int ?_; omega)
  · rintro ⟨i, j⟩ ⟨a1, a2, a3⟩
    simp only at a1 a2 a3
    refine Wp.seq ?_
    refine Wp.seqReg (by simp only [go_sem, reduceIte, Nat.reduceEqDiff, Nat.reduceAdd, bx]; exact rfl) (by trivial) ?_
    refine Wp.cond_split (b := decide ((i : Int) < (j : Int))) (by simp only [go_sem, reduceIte, Nat.reduceEqDiff, Nat.reduceAdd, bx]) (fun hc => ?_) (fun hc => ?_)
    · have hc' : (i : Int) < (j : Int) := by simpa using hc
      have e1 : IntKind.i64.wrap ((i : Int) + (j : Int)) = ((i + j : Nat) : Int) := by rw [IntWalk.i64_in _ (by omega)]; omega
      have e2 : IntKind.u64.wrap ((i + j : Nat) : Int) = ((i + j : Nat) : Int) := IntWalk.u64_in _ (by omega)
      have e3 : ((i + j : Nat) : Int).fdiv (2 ^ (min (Int.toNat 1) 64)) = (((i + j) / 2 : Nat) : Int) := by
        rw [show min (Int.toNat 1) 64 = 1 from rfl, Int.fdiv_eq_ediv_of_nonneg _ (by omega)]
        omega
      have e4 : IntKind.i64.wrap (((i + j) / 2 : Nat) : Int) = (((i + j) / 2 : Nat) : Int) := IntWalk.i64_in _ (by omega)
      have e5 : ¬ (1 : Int) < 0 := by omega
      have p1 : (0 : Int) ≤ (((i + j) / 2 : Nat) : Int) := by omega
      have p2 : (((i + j) / 2 : Nat) : Int) < (l.length : Int) := by omega
      have p3 : (i + j) / 2 < l.length := by omega
      refine Wp.skip ?_
      refine Wp.block ?_
      refine Wp.seqReg (by simp only [go_sem, reduceIte, Nat.reduceEqDiff, Nat.reduceAdd, bx, e1, e2, IntKind.bits, e3, e4, e5]; exact rfl) (by trivial) ?_
      by_cases hh : (i + j) / 2 < r
      · have hs := h0 _ hh
        repeat (first
          | ((first | apply Wp.seqItems | apply Wp.items | ((first
              | (refine WpItems.pcall ?_ ?_ (less_p (l.getD ((i + j) / 2) []) key) ?_; (· simp only [go_sem, reduceIte, Nat.reduceEqDiff, Nat.reduceAdd, bx]); (· simp only [go_sem, reduceIte, Nat.reduceEqDiff, Nat.reduceAdd, bx, List.map]; first | exact VSubs.refl _ | (repeat (first | exact VSubs.nil | refine VSubs.cons (by first | exact VSub.refl _ | assumption | exact VSub.cap | exact VSub.any _) ?_))))); apply WpItems.eval)); (· simp only [go_sem, reduceIte, Nat.reduceEqDiff, Nat.reduceAdd, bx, ax, if_true, if_false, Nat.reduceMul, Nat.reduceLeDiff, strs_length, p1, p2, Int.toNat_natCast, strs_getD _ _ _ p3, hs, IntWalk.i64_in]; exact rfl))
          | (refine WpItems.nil ⟨?_, ?_⟩; (· first | trivial | simp [pairsQ, pairsOk, apart, ent0]))
          | (apply Wp.cond_lit; (· simp only [go_sem, reduceIte, Nat.reduceEqDiff, Nat.reduceAdd, bx, ax, if_true, if_false, Nat.reduceMul, Nat.reduceLeDiff, strs_length, p1, p2, Int.toNat_natCast, strs_getD _ _ _ p3, hs, IntWalk.i64_in]; exact rfl); (· rfl))
          | refine Wp.skip ?_
          | refine Wp.label ?_
          | refine Wp.block ?_
          | refine Wp.exit ?_
          | refine Wp.seq ?_)
        refine ⟨((i + j) / 2 + 1, j), ⟨by simp only; omega, by simp only; omega, by simp only; omega⟩, by simp only; omega, ?_⟩
        have e6 : IntKind.i64.wrap ((((i + j) / 2 : Nat) : Int) + 1) = (((i + j) / 2 + 1 : Nat) : Int) := by rw [IntWalk.i64_in _ (by omega)]; omega
        refine StLe.tm (by simp only [AllSub, go_sem, reduceIte, Nat.reduceEqDiff, Nat.reduceAdd, bx, e6]; and_intros <;> first | exact trivial | exact VSub.refl _ | exact VSub.any _ | (refine VSub.int ?_; omega))
      · have hs := h1 _ (by omega) p3
        repeat (first
          | ((first | apply Wp.seqItems | apply Wp.items | ((first
              | (refine WpItems.pcall ?_ ?_ (less_p (l.getD ((i + j) / 2) []) key) ?_; (· simp only [go_sem, reduceIte, Nat.reduceEqDiff, Nat.reduceAdd, bx]); (· simp only [go_sem, reduceIte, Nat.reduceEqDiff, Nat.reduceAdd, bx, List.map]; first | exact VSubs.refl _ | (repeat (first | exact VSubs.nil | refine VSubs.cons (by first | exact VSub.refl _ | assumption | exact VSub.cap | exact VSub.any _) ?_))))); apply WpItems.eval)); (· simp only [go_sem, reduceIte, Nat.reduceEqDiff, Nat.reduceAdd, bx, ax, if_true, if_false, Nat.reduceMul, Nat.reduceLeDiff, strs_length, p1, p2, Int.toNat_natCast, strs_getD _ _ _ p3, hs]; exact rfl))
          | (refine WpItems.nil ⟨?_, ?_⟩; (· first | trivial | simp [pairsQ, pairsOk, apart, ent0]))
          | (apply Wp.cond_lit; (· simp only [go_sem, reduceIte, Nat.reduceEqDiff, Nat.reduceAdd, bx, ax, if_true, if_false, Nat.reduceMul, Nat.reduceLeDiff, strs_length, p1, p2, Int.toNat_natCast, strs_getD _ _ _ p3, hs]; exact rfl); (· rfl))
          | refine Wp.skip ?_
          | refine Wp.label ?_
          | refine Wp.block ?_
          | refine Wp.exit ?_
          | refine Wp.seq ?_)
        refine ⟨(i, (i + j) / 2), ⟨by simp only; omega, by simp only; omega, by simp only; omega⟩, by simp only; omega, ?_⟩
        refine StLe.tm (by simp only [AllSub, go_sem, reduceIte, Nat.reduceEqDiff, Nat.reduceAdd, bx]; and_intros <;> first | exact trivial | exact VSub.refl _ | exact VSub.any _ | (refine VSub.int ?_; omega))
    · have hc' : ¬ (i : Int) < (j : Int) := by simpa using hc
      obtain rfl : i = r := by omega
      refine Wp.exit ?_
      have p1 : (0 : Int) ≤ (i : Int) := by omega
      by_cases hlt : i < l.length
      · have d1 : decide ((i : Int) < (l.length : Int)) = true := decide_eq_true (by omega)
        have p2 : (i : Int) < (l.length : Int) := by omega
        cases he : decide (l.getD i [] = key) with
        | true =>
          repeat (first
            | ((first | apply Wp.seqItems | apply Wp.items); (· simp only [go_sem, reduceIte, Nat.reduceEqDiff, Nat.reduceAdd, bx, ax, if_true, if_false, Nat.reduceMul, Nat.reduceLeDiff, d1, p1, p2, strs_length, Int.toNat_natCast, strs_getD _ _ _ hlt, he]; exact rfl))
            | (refine WpItems.nil ⟨?_, ?_⟩; (· first | trivial | simp [pairsQ, pairsOk, apart, ent0]))
            | (apply Wp.cond_lit; (· simp only [go_sem, reduceIte, Nat.reduceEqDiff, Nat.reduceAdd, bx, ax, if_true, if_false, Nat.reduceMul, Nat.reduceLeDiff, d1, p1, p2, strs_length, Int.toNat_natCast, strs_getD _ _ _ hlt, he]; exact rfl); (· rfl))
            | refine Wp.skip ?_
            | refine Wp.label ?_
            | refine Wp.block ?_
            | refine Wp.exit ?_
            | refine Wp.seq ?_)
          refine Wp.ret ⟨trivial, _, rfl, ?_⟩
          simp only [go_sem, reduceIte, Nat.reduceEqDiff, Nat.reduceAdd, bx]
          simp only [decide_eq_true hlt, Bool.true_and]
          exact VSub.refl _
        | false =>
          repeat (first
            | ((first | apply Wp.seqItems | apply Wp.items | ((first
                | (refine WpItems.pcall ?_ ?_ (isNaN_p (l.getD i [])) ?_; (· simp only [go_sem, reduceIte, Nat.reduceEqDiff, Nat.reduceAdd, bx]); (· simp only [go_sem, reduceIte, Nat.reduceEqDiff, Nat.reduceAdd, bx, List.map]; first | exact VSubs.refl _ | (repeat (first | exact VSubs.nil | refine VSubs.cons (by first | exact VSub.refl _ | assumption | exact VSub.cap | exact VSub.any _) ?_))))); apply WpItems.eval)); (· simp only [go_sem, reduceIte, Nat.reduceEqDiff, Nat.reduceAdd, bx, ax, if_true, if_false, Nat.reduceMul, Nat.reduceLeDiff, d1, p1, p2, strs_length, Int.toNat_natCast, strs_getD _ _ _ hlt, he]; exact rfl))
            | (refine WpItems.nil ⟨?_, ?_⟩; (· first | trivial | simp [pairsQ, pairsOk, apart, ent0]))
            | (apply Wp.cond_lit; (· simp only [go_sem, reduceIte, Nat.reduceEqDiff, Nat.reduceAdd, bx, ax, if_true, if_false, Nat.reduceMul, Nat.reduceLeDiff, d1, p1, p2, strs_length, Int.toNat_natCast, strs_getD _ _ _ hlt, he]; exact rfl); (· rfl))
            | refine Wp.skip ?_
            | refine Wp.label ?_
            | refine Wp.block ?_
            | refine Wp.exit ?_
            | refine Wp.seq ?_)
          refine Wp.ret ⟨trivial, _, rfl, ?_⟩
          simp only [go_sem, reduceIte, Nat.reduceEqDiff, Nat.reduceAdd, bx]
          simp only [decide_eq_true hlt, Bool.true_and]
          exact VSub.refl _
      · have d1 : decide ((i : Int) < (l.length : Int)) = false := decide_eq_false (by omega)
        repeat (first
          | ((first | apply Wp.seqItems | apply Wp.items); (· simp only [go_sem, reduceIte, Nat.reduceEqDiff, Nat.reduceAdd, bx, ax, if_true, if_false, Nat.reduceMul, Nat.reduceLeDiff, d1]; exact rfl))
          | (refine WpItems.nil ⟨?_, ?_⟩; (· first | trivial | simp [pairsQ, pairsOk, apart, ent0]))
          | (apply Wp.cond_lit; (· simp only [go_sem, reduceIte, Nat.reduceEqDiff, Nat.reduceAdd, bx, ax, if_true, if_false, Nat.reduceMul, Nat.reduceLeDiff, d1]; exact rfl); (· rfl))
          | refine Wp.skip ?_
          | refine Wp.label ?_
          | refine Wp.block ?_
          | refine Wp.exit ?_
          | refine Wp.seq ?_)
        refine Wp.ret ⟨trivial, _, rfl, ?_⟩
        simp only [go_sem, reduceIte, Nat.reduceEqDiff, Nat.reduceAdd, bx]
        simp only [decide_eq_false hlt, Bool.false_and]
        exact VSub.refl _
theorem set_strs (l : List Bs) (i : Nat) (v : Bs) : setAt (strs l) i [.str v] = strs (l.take i ++ v :: l.drop (i + 1)) := by
  simp [setAt, strs]
theorem strs_at (l : List Bs) (k : Nat) (h : k < l.length) : (strs l)[k]? = some (.str (l.getD k [])) := by
  simp [strs, List.getD, List.getElem?_map, List.getElem?_eq_getElem h]
theorem filter_step {l : List Bs} {p : Bs → Bool} {j : Nat} (h : j < l.length) : (l.take (j + 1)).filter (fun x => !p x) = (l.take j).filter (fun x => !p x) ++ (if p (l.getD j []) then [] else [l.getD j []]) := by
  rw [List.take_succ_eq_append_getElem h, List.filter_append, List.getD_eq_getElem?_getD, List.getElem?_eq_getElem h]
  congr 1
  cases hp : p l[j] <;> simp [hp]
theorem del_p (l : List Bs) (hl : l.length ≤ 1152921504606846976) (p : Bs → Bool) {g : FuncId} {fn : Func} (hf : Tryz.prog.funcs[g]? = some fn) (hb : fn.body.isSome = true) (hn : fn.name ≠ "runtime.NumGoroutine") (caps : List AV) (hc : allPure caps = true)
    (hp : ∀ c ∈ l, PCalls Tryz.prog g (.str c :: caps) (.bool (p c))) :
    DCalls Tryz.prog 200 (strs l) l.length [.clo (.func g) [] caps] (.sl 1 (strs (l.filter fun x => !p x)) .any) := by
  refine f200.dcalls (by simp) (strs_pure _) (by simp [allPure, isPure, hc]) (by simp [isPure, capPure, strs_pure]) ?_
  unfold c200
  have look : RCalls Tryz.prog 227 [.tsl 1 0 0 l.length none, .clo (.func g) [] caps] (upd none' 0 (some (.cells (strs l)))) (.int .i64 (ix p l)) := by
    have := (indexStr_p l (by omega) p hf hb hn caps hc hp).look (fun G G' w v h => by simpa only [VRel] using h) none 0
    rwa [strs_length] at this
  repeat (first
    | ((first | apply Wp.seqItems | apply Wp.items); (· simp only [go_sem, reduceIte, Nat.reduceEqDiff, Nat.reduceAdd, bx, ax, if_true, if_false, Nat.reduceMul, Nat.reduceLeDiff]; exact rfl))
    | (refine WpItems.nil ⟨?_, ?_⟩; (· first | trivial | simp [pairsQ, pairsOk, apart, ent0]))
    | (apply Wp.cond_lit; (· simp only [go_sem, reduceIte, Nat.reduceEqDiff, Nat.reduceAdd, bx, ax, if_true, if_false, Nat.reduceMul, Nat.reduceLeDiff]; exact rfl); (· rfl))
    | refine Wp.skip ?_
    | refine Wp.label ?_
    | refine Wp.block ?_
    | refine Wp.exit ?_
    | refine Wp.seq ?_)
  refine WpItems.rcall [0] (by simp only [go_sem]) (by simp only [go_sem, reduceIte, Nat.reduceEqDiff, List.map]; exact VSubs.refl _) (fun id o h => h) (fun id h => by simp only [upd, none'] at h; split at h <;> simp_all) look ?_
  refine WpItems.eval (by simp only [go_sem, reduceIte, Nat.reduceEqDiff, Nat.reduceAdd, bx]; exact rfl) ?_
  refine WpItems.nil ⟨by trivial, ?_⟩
  cases ha : l.any p with
  | false =>
    have e1 : ix p l = -1 := by simp [ix, ha]
    have hfl : l.filter (fun x => !p x) = l := List.filter_eq_self.2 fun x hx => by
      have := List.any_eq_false.1 ha x hx
      simp [this]
    repeat (first
      | ((first | apply Wp.seqItems | apply Wp.items); (· simp only [go_sem, reduceIte, Nat.reduceEqDiff, Nat.reduceAdd, bx, ax, if_true, if_false, Nat.reduceMul, Nat.reduceLeDiff, e1, decide_true]; exact rfl))
      | (refine WpItems.nil ⟨?_, ?_⟩; (· first | trivial | simp [pairsQ, pairsOk, apart, ent0]))
      | (apply Wp.cond_lit; (· simp only [go_sem, reduceIte, Nat.reduceEqDiff, Nat.reduceAdd, bx, ax, if_true, if_false, Nat.reduceMul, Nat.reduceLeDiff, e1, decide_true]; exact rfl); (· rfl))
      | refine Wp.skip ?_
      | refine Wp.label ?_
      | refine Wp.block ?_
      | refine Wp.exit ?_
      | refine Wp.seq ?_)
    refine Wp.ret ⟨trivial, _, rfl, ?_⟩
    simp only [go_sem, reduceIte, Nat.reduceEqDiff, Nat.reduceAdd, bx, unT]
    simp only [List.drop_zero, Nat.zero_add, H.only, upd, if_true, and_self, strs_length, Nat.le_refl, hfl]
    refine VSub.of_eq ?_
    rw [List.take_of_length_le (by rw [strs_length]; omega)]
  | true =>
    obtain ⟨x0, hx0, hpx⟩ := List.any_eq_true.1 ha
    have hlt : l.findIdx p < l.length := List.findIdx_lt_length_of_exists ⟨x0, hx0, hpx⟩
    have e1 : ix p l = ((l.findIdx p : Nat) : Int) := by simp [ix, ha]
    have d1 : decide (((l.findIdx p : Nat) : Int) = -1) = false := decide_eq_false (by omega)
    have e2 : IntKind.i64.wrap (((l.findIdx p : Nat) : Int) + 1) = ((l.findIdx p + 1 : Nat) : Int) := by rw [IntWalk.i64_in _ (by omega)]; omega
    repeat (first
      | ((first | apply Wp.seqItems | apply Wp.items); (· simp only [go_sem, reduceIte, Nat.reduceEqDiff, Nat.reduceAdd, bx, ax, if_true, if_false, Nat.reduceMul, Nat.reduceLeDiff, e1, d1, e2]; exact rfl))
      | (refine WpItems.nil ⟨?_, ?_⟩; (· first | trivial | simp [pairsQ, pairsOk, apart, ent0]))
      | (apply Wp.cond_lit; (· simp only [go_sem, reduceIte, Nat.reduceEqDiff, Nat.reduceAdd, bx, ax, if_true, if_false, Nat.reduceMul, Nat.reduceLeDiff, e1, d1, e2]; exact rfl); (· rfl))
      | refine Wp.skip ?_
      | refine Wp.label ?_
      | refine Wp.block ?_
      | refine Wp.exit ?_
      | refine Wp.seq ?_)
    refine Wp.loopH [0, 1] (by simp only [go_sem, reduceIte, Nat.reduceEqDiff, List.map]; exact rfl) (fun b : Nat × Nat × List Bs => [(5, .int .i64 b.1), (6, .int .i64 b.2.1)]) (fun b => .only (upd none' 0 (some (.cells (strs b.2.2)))) [] 1 0)
      (fun b => b.1 < b.2.1 ∧ b.2.1 ≤ l.length ∧ b.2.2.length = l.length ∧ b.2.2.take b.1 = (l.take b.2.1).filter (fun x => !p x) ∧ b.2.2.drop b.2.1 = l.drop b.2.1) (fun b => l.length - b.2.1) (l.findIdx p, l.findIdx p + 1, l) ⟨by simp only; omega, by simp only; omega, rfl, ?_, rfl⟩ rfl ?_ ?_
    · simp only
      have hpi : p (l.getD (l.findIdx p) []) = true := by rw [getD_el hlt]; exact List.findIdx_getElem
      rw [filter_step hlt, hpi, if_pos rfl, List.append_nil]
      refine (List.filter_eq_self.2 fun x hx => ?_).symm
      obtain ⟨k, hk, rfl⟩ := List.mem_iff_getElem.1 hx
      rw [List.length_take] at hk
      rw [List.getElem_take]
      have := List.not_of_lt_findIdx (p := p) (xs := l) (i := k) (by omega)
      simpa using this
    · simp only [AllSub, go_sem, reduceIte, Nat.reduceEqDiff, Nat.reduceAdd, bx]; and_intros <;> first | exact trivial | exact VSub.refl _ | exact VSub.any _ | (refine VSub.int ?_; omega)
    rintro ⟨i, j, cs⟩ ⟨h1, h2, h3, h4, h5⟩
    simp only at h1 h2 h3 h4 h5
    by_cases hc : j < l.length
    · have g1 : decide ((j : Int) < (l.length : Int)) = true := decide_eq_true (by omega)
      have q1 : (0 : Int) ≤ (j : Int) := by omega
      have q2 : (j : Int) < (l.length : Int) := by omega
      have q3 : j < cs.length := by omega
      have q4 : (0 : Int) ≤ (i : Int) := by omega
      have q5 : (i : Int) < (l.length : Int) := by omega
      have q6 : i + 1 ≤ cs.length := by omega
      have ej : cs.getD j [] = l.getD j [] := by
        have h := congrArg (fun l => l[0]?) h5
        simp only [List.getElem?_drop, Nat.add_zero] at h
        rw [List.getD_eq_getElem?_getD, List.getD_eq_getElem?_getD, h]
      have hm : l.getD j [] ∈ l := by rw [getD_el hc]; exact List.getElem_mem hc
      have e3 : IntKind.i64.wrap ((j : Int) + 1) = ((j + 1 : Nat) : Int) := by rw [IntWalk.i64_in _ (by omega)]; omega
      have e4 : IntKind.i64.wrap ((i : Int) + 1) = ((i + 1 : Nat) : Int) := by rw [IntWalk.i64_in _ (by omega)]; omega
      have hd : cs.drop (j + 1) = l.drop (j + 1) := by
        have h := congrArg (List.drop 1) h5
        simpa only [List.drop_drop, Nat.add_comm] using h
      repeat (first
        | ((first | apply Wp.seqItems | apply Wp.items); (· simp only [go_sem, reduceIte, Nat.reduceEqDiff, Nat.reduceAdd, bx, ax, if_true, if_false, Nat.reduceMul, Nat.reduceLeDiff, g1, q1, q2, Int.toNat_natCast, Nat.mul_one, strs_at cs j q3, ej]; exact rfl))
        | (refine WpItems.nil ⟨?_, ?_⟩; (· first | trivial | simp [pairsQ, pairsOk, apart, ent0]))
        | (apply Wp.cond_lit; (· simp only [go_sem, reduceIte, Nat.reduceEqDiff, Nat.reduceAdd, bx, ax, if_true, if_false, Nat.reduceMul, Nat.reduceLeDiff, g1, q1, q2, Int.toNat_natCast, Nat.mul_one, strs_at cs j q3, ej]; exact rfl); (· rfl))
        | refine Wp.skip ?_
        | refine Wp.label ?_
        | refine Wp.block ?_
        | refine Wp.exit ?_
        | refine Wp.seq ?_)
      refine WpItems.pcallv (by simp only [go_sem]) (by simp only [go_sem, reduceIte, Nat.reduceEqDiff]; exact rfl) hf hb hn (by simp only [go_sem, reduceIte, Nat.reduceEqDiff, List.map]; exact VSubs.refl _) (hp _ hm) ?_
      refine WpItems.eval (by simp only [go_sem, reduceIte, Nat.reduceEqDiff, Nat.reduceAdd, bx]; exact rfl) ?_
      refine WpItems.nil ⟨by trivial, ?_⟩
      have hfs := filter_step (p := p) hc
      cases hq : p (l.getD j []) with
      | true =>
        repeat (first
          | ((first | apply Wp.seqItems | apply Wp.items); (· simp only [go_sem, reduceIte, Nat.reduceEqDiff, Nat.reduceAdd, bx, ax, if_true, if_false, Nat.reduceMul, Nat.reduceLeDiff, e3]; exact rfl))
          | (refine WpItems.nil ⟨?_, ?_⟩; (· first | trivial | simp [pairsQ, pairsOk, apart, ent0]))
          | (apply Wp.cond_lit; (· simp only [go_sem, reduceIte, Nat.reduceEqDiff, Nat.reduceAdd, bx, ax, if_true, if_false, Nat.reduceMul, Nat.reduceLeDiff, e3]; exact rfl); (· rfl))
          | refine Wp.skip ?_
          | refine Wp.label ?_
          | refine Wp.block ?_
          | refine Wp.exit ?_
          | refine Wp.seq ?_)
        refine ⟨(i, j + 1, cs), ⟨by simp only; omega, by simp only; omega, h3, ?_, hd⟩, by simp only; omega, ?_⟩
        · simp only; rw [hfs, hq, if_pos rfl, List.append_nil]; exact h4
        · refine StLe.tm (by simp only [AllSub, go_sem, reduceIte, Nat.reduceEqDiff, Nat.reduceAdd, bx]; and_intros <;> first | exact trivial | exact VSub.refl _ | exact VSub.any _ | (refine VSub.int ?_; omega))
      | false =>
        repeat (first
          | ((first | apply Wp.seqItems | apply Wp.items); (· simp only [go_sem, reduceIte, Nat.reduceEqDiff, Nat.reduceAdd, bx, ax, if_true, if_false, Nat.reduceMul, Nat.reduceLeDiff, e3, e4, q4, q5, q6, Int.toNat_natCast, Nat.mul_one, set_strs]; exact rfl))
          | (refine WpItems.nil ⟨?_, ?_⟩; (· first | trivial | simp [pairsQ, pairsOk, apart, ent0]))
          | (apply Wp.cond_lit; (· simp only [go_sem, reduceIte, Nat.reduceEqDiff, Nat.reduceAdd, bx, ax, if_true, if_false, Nat.reduceMul, Nat.reduceLeDiff, e3, e4, q4, q5, q6, Int.toNat_natCast, Nat.mul_one, set_strs]; exact rfl); (· rfl))
          | refine Wp.skip ?_
          | refine Wp.label ?_
          | refine Wp.block ?_
          | refine Wp.exit ?_
          | refine Wp.seq ?_)
        have hti : (cs.take i).length = i := by simp; omega
        refine ⟨(i + 1, j + 1, cs.take i ++ l.getD j [] :: cs.drop (i + 1)), ⟨by simp only; omega, by simp only; omega, by simp only [List.length_append, List.length_cons, List.length_take, List.length_drop]; omega, ?_, ?_⟩, by simp only; omega, ?_⟩
        · simp only
          rw [hfs, hq, if_neg (by simp), ← h4, List.take_append, hti, List.take_of_length_le (by omega), Nat.add_sub_cancel_left]
          rfl
        · simp only
          rw [List.drop_append, hti, List.drop_eq_nil_of_le (by omega), List.nil_append, show j + 1 - i = (j - i) + 1 by omega, List.drop_succ_cons, List.drop_drop, ← hd]
          congr 1; omega
        · refine StLe.tmN (by omega) (OLe.at (by simp [upd, none', strs, List.map_append, List.map_cons, List.map_take, List.map_drop])) (by simp only [AllSub, go_sem, reduceIte, Nat.reduceEqDiff, Nat.reduceAdd, bx, strs, List.map_append, List.map_cons, List.map_take, List.map_drop]; and_intros <;> first | exact trivial | exact VSub.refl _ | exact VSub.any _ | (refine VSub.int ?_; omega))
    · obtain rfl : j = l.length := by omega
      have g1 : decide ((l.length : Int) < (l.length : Int)) = false := decide_eq_false (by omega)
      have q4 : (0 : Int) ≤ (i : Int) := by omega
      have q5 : (i : Int) ≤ (l.length : Int) := by omega
      have q6 : ¬ (l.length - i = 0) := by omega
      have q7 : i + (l.length - i) ≤ l.length := by omega
      have q8 : (strs cs).length = l.length := by rw [strs_length, h3]
      have q9 : (0 : Int) ≤ (l.length : Int) := by omega
      rw [List.take_length] at h4
      repeat (first
        | ((first | apply Wp.seqItems | apply Wp.items); (· simp only [go_sem, reduceIte, Nat.reduceEqDiff, Nat.reduceAdd, bx, ax, if_true, if_false, Nat.reduceMul, Nat.reduceLeDiff, g1, q4, q5, q6, q7, q8, q9, Int.toNat_natCast, Nat.mul_one, Int.le_refl, Nat.sub_zero, Option.map_none]; exact rfl))
        | (refine WpItems.nil ⟨?_, ?_⟩; (· first | trivial | simp [pairsQ, pairsOk, apart, ent0]))
        | (apply Wp.cond_lit; (· simp only [go_sem, reduceIte, Nat.reduceEqDiff, Nat.reduceAdd, bx, ax, if_true, if_false, Nat.reduceMul, Nat.reduceLeDiff, g1, q4, q5, q6, q7, q8, q9, Int.toNat_natCast, Nat.mul_one, Int.le_refl, Nat.sub_zero, Option.map_none]; exact rfl); (· rfl))
        | refine Wp.skip ?_
        | refine Wp.label ?_
        | refine Wp.block ?_
        | refine Wp.exit ?_
        | refine Wp.seq ?_)
      refine Wp.ret ⟨trivial, _, rfl, ?_⟩
      simp only [go_sem, reduceIte, Nat.reduceEqDiff, Nat.reduceAdd, bx, unT]
      simp only [H.only, upd, if_true, and_self, List.drop_zero]
      have hti : (List.take i (strs cs)).length = i := by rw [List.length_take, q8]; omega
      rw [if_pos (by rw [List.append_assoc, List.length_append, hti]; omega), List.append_assoc, List.take_append_of_le_length (by omega), List.take_take, Nat.min_self, ← h4]
      exact VSub.of_eq (by rw [strs, ← List.map_take]; rfl)
end Go.Proofs.YtkcgpcbpieofnaaGreatDoor.Reads
end
section
set_option linter.unusedSimpArgs false
set_option linter.unusedVariables false
set_option maxRecDepth 10000
namespace Go.Proofs.YtkcgpcbpieofnaaGreatDoor.Reads
open Go Go.Av Go.Proofs Go.Proofs.YtkcgpcbpieofnaaGreatDoor.C Go.Lib Go.RowKit
def lays22_ren : Go.Shelf.Ren := ⟨fun | 22 => 183 | 29 => 213 | 30 => 214 | 36 => 235 | 17 => 247 | n => n, fun | 24 => 39 | 9 => 9 | 3 => 3 | 4 => 4 | 0 => 0 | n => n, fun | n => n⟩
theorem lays22 : Lays2.n22 Tryz.prog lays22_ren where
  mixed := by kernel_rfl
  f17 := Tryz.func247.trans (congrArg some (by kernel_rfl))
  f22 := Tryz.func183.trans (congrArg some (by kernel_rfl))
  f29 := Tryz.func213.trans (congrArg some (by kernel_rfl))
  f30 := Tryz.func214.trans (congrArg some (by kernel_rfl))
  f36 := Tryz.func235.trans (congrArg some (by kernel_rfl))
  t0 := Tryz.underlying0
  a0 := Tryz.isAgg0
  z0 := Tryz.sizeOf0
  v0 := Tryz.zeroValue0
  t3 := Tryz.underlying3
  a3 := Tryz.isAgg3
  z3 := Tryz.sizeOf3
  v3 := Tryz.zeroValue3
  t4 := Tryz.underlying4
  a4 := Tryz.isAgg4
  z4 := Tryz.sizeOf4
  v4 := Tryz.zeroValue4
  t9 := Tryz.underlying9
  a9 := Tryz.isAgg9
  z9 := Tryz.sizeOf9
  v9 := Tryz.zeroValue9
  t24 := Tryz.underlying39
  a24 := Tryz.isAgg39
  z24 := Tryz.sizeOf39
  v24 := Tryz.zeroValue39
  i9 := by kernel_rfl
def sv (l : List (List UInt8)) : List Value := l.map fun s => .string ⟨s.toArray⟩
theorem sv_length (l : List (List UInt8)) : (sv l).length = l.length := by simp [sv]
theorem sv_of {G : Ghost} {w : World} : ∀ {l : List (List UInt8)} {vs : List Value}, VRels G w (strs l) vs → vs = sv l
  | [], vs, h => by simpa [strs, VRels, sv] using h
  | s :: l, vs, h => by
    simp only [strs, List.map_cons, VRels, VRel] at h
    obtain ⟨v, us, rfl, rfl, h⟩ := h
    rw [sv_of (l := l) h]
    rfl
theorem sv_rels (l : List (List UInt8)) (G : Ghost) (w : World) : VRels G w (strs l) (sv l) := by
  induction l with
  | nil => simp [strs, sv, VRels]
  | cons s l ih =>
    simp only [strs, sv, List.map_cons, VRels]
    exact ⟨.string ⟨s.toArray⟩, sv l, rfl, by simp [VRel], ih⟩
theorem sv_one {l : List (List UInt8)} {v : Value} (h : v ∈ sv l) : One v := by
  obtain ⟨s, _, rfl⟩ := List.mem_map.1 h
  exact ⟨(fun _ e => by cases e), (fun _ e => by cases e)⟩
theorem sv_one' {l : List (List UInt8)} {v : Value} (h : v ∈ sv l) : v.oneCell' = true := by
  obtain ⟨s, _, rfl⟩ := List.mem_map.1 h
  rfl
theorem cell_of {w : World} {B : Nat} {T : TypeId} {fr : Nat × Nat} {L R : List Value} (hg : w.heap[B]? = some (.cells (L ++ R).toArray T fr)) (j : Nat) (v : Value) (h : L[j]? = some v) : w.cell? ⟨B, 0 + j, none⟩ = some v := by
  have hj := (List.getElem?_eq_some_iff.1 h).1
  unfold World.cell?
  simp only [hg, Nat.zero_add]
  simpa [List.getElem?_append_left hj] using h
theorem sv_insert (l : List (List UInt8)) (i : Nat) (x : List UInt8) : sv (l.take i ++ x :: l.drop i) = (sv l).take i ++ .string ⟨x.toArray⟩ :: (sv l).drop i := by simp [sv]
theorem ins_end {A R : List Value} {X : Value} {n : Nat} (hn : A.length = n) : (A ++ R).take (0 + n) ++ [X] ++ (A ++ R).drop (0 + n + 1) = A.take n ++ X :: A.drop n ++ R.drop 1 := by
  subst hn
  rw [Nat.zero_add, List.take_left, List.take_length, List.drop_length, List.drop_append, List.drop_eq_nil_of_le (by omega)]
  simp
theorem ins_mid {A R : List Value} {X : Value} {n i : Nat} (hn : A.length = n) (hi : i < n) :
    ((A ++ R).take (0 + (i + 1)) ++ A.drop i ++ (A ++ R).drop (0 + (i + 1) + (A.drop i).length)).take (0 + i) ++ [X] ++ ((A ++ R).take (0 + (i + 1)) ++ A.drop i ++ (A ++ R).drop (0 + (i + 1) + (A.drop i).length)).drop (0 + i + 1) = A.take i ++ X :: A.drop i ++ (A ++ R).drop (n + 1) := by
  subst hn
  have e2 : ((A ++ R).take (i + 1)).length = i + 1 := by simp; omega
  have e1 : ((A ++ R).take (i + 1)).take i = A.take i := by
    rw [List.take_take, Nat.min_eq_left (by omega), List.take_append_of_le_length (by omega)]
  have e3 : i + 1 + (A.drop i).length = A.length + 1 := by simp; omega
  rw [Nat.zero_add, Nat.zero_add, e3]
  have c1 : ((A ++ R).take (i + 1) ++ A.drop i ++ (A ++ R).drop (A.length + 1)).take i = A.take i := by
    rw [List.append_assoc, List.take_append_of_le_length (by omega), e1]
  have c2 : ((A ++ R).take (i + 1) ++ A.drop i ++ (A ++ R).drop (A.length + 1)).drop (i + 1) = A.drop i ++ (A ++ R).drop (A.length + 1) := by
    rw [List.append_assoc, List.drop_append, e2, List.drop_eq_nil_of_le (by omega), Nat.sub_self, List.drop_zero, List.nil_append]
  rw [c1, c2]
  simp
theorem ins_grow {A Z : List Value} {X : Value} {n i : Nat} (hn : A.length = n) (hi : i < n) :
    ((A.take i ++ Z).take i ++ [X] ++ (A.take i ++ Z).drop (i + 1)).take (i + 1) ++ A.drop i ++ ((A.take i ++ Z).take i ++ [X] ++ (A.take i ++ Z).drop (i + 1)).drop (i + 1 + (A.drop i).length) = A.take i ++ X :: A.drop i ++ ((A.take i ++ Z).take i ++ [X] ++ (A.take i ++ Z).drop (i + 1)).drop (i + 1 + (A.drop i).length) := by
  subst hn
  have e2 : (A.take i).length = i := by simp; omega
  have e1 : (A.take i ++ Z).take i = A.take i := by
    rw [List.take_append_of_le_length (by omega), List.take_take, Nat.min_self]
  have e4 : ((A.take i ++ Z).take i ++ [X] ++ (A.take i ++ Z).drop (i + 1)).take (i + 1) = A.take i ++ [X] := by
    rw [e1, List.take_append_of_le_length (by simp; omega), List.take_of_length_le (by simp; omega)]
  rw [e4]
  simp
theorem grown_le {w : World} {n old : Nat} {e : TypeId} (h : n ≤ 1099511627777) : grownCap w n old e ≤ 9223372036854775807 := by
  have := Nat.mod_lt (w.tape w.drawn (.appendCap n old e)) (show 0 < 2 ^ 63 - n by omega)
  simp only [grownCap, Question.cut]
  omega
theorem insert_t (l : List (List UInt8)) (i : Nat) (x : List UInt8) (hi : i ≤ l.length) (hl : l.length < 1099511627776) (h0 : 0 < l.length) {id id2 : Nat} (hne : id ≠ id2) {h : H} (ho : h.objs id = some (.cells (strs l))) (ho2 : h.objs id2 = some (.cells [.str x])) (htk : h.toks = []) :
    ACalls Tryz.prog 183 [.tsl 1 id 0 l.length none, .int .i64 i, .tsl 1 id2 0 1 none] h (.tsl 1 h.n 0 (l.length + 1) none) (h.turn id (.cells (strs (l.take i ++ x :: l.drop i)))) := by
  intro G w vs hv R F
  simp only [VRels, VRel] at hv
  obtain ⟨v1, _, rfl, ⟨hd1, hv1⟩, v2, _, rfl, rfl, v3, _, rfl, ⟨hd2, hv3⟩, rfl⟩ := hv
  obtain ⟨C, c, T, fr, rfl, ⟨hnC, hc63⟩, -, hg, hroom⟩ | ⟨hz, -⟩ := hv1
  rotate_left
  · omega
  obtain ⟨C2, c2, T2, fr2, rfl, ⟨hnC2, -⟩, -, hg2, hroom2⟩ | ⟨hz, -⟩ := hv3
  rotate_left
  · omega
  obtain ⟨-, hown, hB, us, rest, T', fr', hg', hvs, hfr, -⟩ := R.obj id _ ho
  obtain ⟨-, hown2, hB2, us2, rest2, T2', fr2', hg2', hvs2, hfr2, -⟩ := R.obj id2 _ ho2
  have hus := sv_of hvs
  subst hus
  have hus2 : us2 = [.string ⟨x.toArray⟩] := by
    simp only [VRels, VRel] at hvs2
    obtain ⟨v, _, rfl, rfl, rfl⟩ := hvs2
    rfl
  subst hus2
  have hbb : G.ι id2 ≠ G.ι id := fun e => hne (R.inj _ _ _ _ ho ho2 e.symm)
  rw [hg] at hg'
  obtain ⟨rfl, rfl, rfl⟩ : c = (sv l ++ rest).toArray ∧ T = T' ∧ fr = fr' := by simpa using hg'
  rw [hg2] at hg2'
  obtain ⟨rfl, rfl, rfl⟩ : c2 = ([Value.string ⟨x.toArray⟩] ++ rest2).toArray ∧ T2 = T2' ∧ fr2 = fr2' := by simpa using hg2'
  have hsl := sv_length l
  have hrl : C ≤ l.length + rest.length := by simpa [hsl] using hroom
  have hcs : ∀ (j : Nat) v, (sv l)[j]? = some v → w.cell? ⟨G.ι id, 0 + j, none⟩ = some v := fun j v => cell_of hg j v
  have hvs' : ∀ (j : Nat) v, ([Value.string ⟨x.toArray⟩] : List Value)[j]? = some v → w.cell? ⟨G.ι id2, 0 + j, none⟩ = some v := fun j v => cell_of hg2 j v
  have h1v : ∀ v ∈ ([Value.string ⟨x.toArray⟩] : List Value), v.oneCell' = true := by simp [Value.oneCell']
  have hsome : ∀ j, j < C → (w.cell? ⟨G.ι id, 0 + j, none⟩).isSome = true := fun j hj => by
    unfold World.cell?; simp only [hg]; simp [hsl]; omega
  have hfz : ∀ j, w.frozen? ⟨G.ι id, j, none⟩ = false := fun j => by
    unfold World.frozen?; simp only [hg]
    have := hfr
    simp; omega
  have hfz2 : ∀ j, w.frozen? ⟨G.ι id2, j, none⟩ = false := fun j => by
    unfold World.frozen?; simp only [hg2]
    have := hfr2
    simp; omega
  have hfrn : ¬ G.dom h.n := F.1 _ (Nat.le_refl _) (Nat.lt_succ_self _)
  have hout : (strs (l.take i ++ x :: l.drop i)).length = l.length + 1 := by simp [strs]; omega
  have hso : (sv (l.take i ++ x :: l.drop i)).length = l.length + 1 := by rw [sv_length]; simp; omega
  -- a world in which the row stands in a new block
  have newb : ∀ (w' : World) (L2 : List Value) (T0 : TypeId) (C0 : Nat), l.length + 1 ≤ C0 → C0 ≤ 9223372036854775807 → C0 ≤ l.length + 1 + L2.length → w'.heap[w.heap.size]? = some (.cells (sv (l.take i ++ x :: l.drop i) ++ L2).toArray T0 (0, 0)) → w.heap.size ≤ w'.heap.size → w'.os = w.os → w'.output = w.output → (∀ b, b < w.heap.size → w'.heap[b]? = w.heap[b]?) →
      ∃ v G', Ending.returned (.slice (some ⟨w.heap.size, 0, none⟩) (l.length + 1) C0) = .returned v ∧ Trans G w h G' w' (h.turn id (.cells (strs (l.take i ++ x :: l.drop i)))) ∧ RepH G' (h.turn id (.cells (strs (l.take i ++ x :: l.drop i)))) w' ∧ VRel G' w' (.tsl 1 h.n 0 (l.length + 1) none) v := by
    intro w' L2 T0 C0 q1 q7 q8 q2 q3 q4 q5 q6
    obtain ⟨G', T1, R1, V⟩ := row_new (B := w.heap.size) (C := C0) (w' := w') R ho htk hfrn q3 q4 q5 (fun b hb _ => q6 b hb) (by rw [q6 _ hB]; exact SameForm.refl _) (.inr (Nat.le_refl _)) ⟨by rw [hout]; exact q1, q7⟩ (by rw [hso, hout]) (sv_rels _) (fun v hv => sv_one hv) q2 (by rw [hso]; exact q8) rfl
    exact ⟨_, G', rfl, T1, R1, by rw [hout] at V; exact V⟩
  -- a world in which it stands in its own block
  have inpl : ∀ (w' : World) (L2 : List Value), w'.heap[G.ι id]? = some (.cells (sv (l.take i ++ x :: l.drop i) ++ L2).toArray T fr) → (sv (l.take i ++ x :: l.drop i) ++ L2).length = (sv l ++ rest).length → w'.heap.size = w.heap.size → w'.os = w.os → w'.output = w.output → (∀ b, b ≠ G.ι id → w'.heap[b]? = w.heap[b]?) → l.length + 1 ≤ C →
      ∃ v G', Ending.returned (.slice (some ⟨G.ι id, 0, none⟩) (l.length + 1) C) = .returned v ∧ Trans G w h G' w' (h.turn id (.cells (strs (l.take i ++ x :: l.drop i)))) ∧ RepH G' (h.turn id (.cells (strs (l.take i ++ x :: l.drop i)))) w' ∧ VRel G' w' (.tsl 1 h.n 0 (l.length + 1) none) v := by
    intro w' L2 q1 q2 q3 q4 q5 q6 q7
    obtain ⟨G', T1, R1, V⟩ := row_new (B := G.ι id) (C := C) (w' := w') R ho htk hfrn (Nat.le_of_eq q3.symm) q4 q5 (fun b _ hb => q6 b hb) (by rw [hg, q1]; exact ⟨_, _, rfl, by simpa using q2, fun _ _ h => h⟩) (.inl rfl) ⟨by rw [hout]; exact q7, hc63⟩ (by rw [hso, hout]) (sv_rels _) (fun v hv => sv_one hv) q1 (by rw [List.length_append, List.length_append, hsl] at q2; omega) hfr
    exact ⟨_, G', rfl, T1, R1, by rw [hout] at V; exact V⟩
  by_cases hfit : l.length + 1 ≤ C
  · by_cases hie : i = l.length
    · subst hie
      refine (Any2.slices_Insert_string_end_room lays22 (G.ι id) 0 l.length C (G.ι id2) 0 1 C2 [.string ⟨x.toArray⟩] w (by omega) hfit hc63 rfl (fun j hj => by have := hsome (l.length + j) (by omega); rwa [← Nat.add_assoc] at this) (fun j hj => hfz _) hvs' h1v).mono ?_
      rintro e w' ⟨rfl, rfl⟩
      obtain ⟨a1, a2, a3, a4, a5⟩ := setCells_heap (G.ι id) T fr [.string ⟨x.toArray⟩] (0 + l.length) (sv l ++ rest) w hg (by simp [hsl]; omega)
      refine inpl _ (rest.drop 1) ?_ ?_ a3 a4 a5 a2 hfit
      · rw [a1, sv_insert, List.length_singleton, ins_end hsl]
      · rw [List.length_append, List.length_append, hso, hsl, List.length_drop]; omega
    · have hlt : i < l.length := by omega
      refine (Any2.slices_Insert_string_shift lays22 (G.ι id) 0 l.length C i (G.ι id2) 0 1 C2 (sv l) [.string ⟨x.toArray⟩] w hlt (by omega) hfit hc63 hbb hsl rfl hcs (fun j hj => hsome j (by omega)) (fun j hj => hfz _) hvs' (fun v hv => sv_one' hv) h1v T2 T ([Value.string ⟨x.toArray⟩] ++ rest2).toArray.size (sv l ++ rest).toArray.size (by unfold World.shape?; simp only [hg2]) (by unfold World.shape?; simp only [hg]) (by rw [List.size_toArray, List.length_append, hsl]; omega) (hfz2 _) (hfz2 _)).mono ?_
      rintro e w' ⟨rfl, rfl⟩
      obtain ⟨a1, a2, a3, a4, a5⟩ := setCells_heap (G.ι id) T fr ((sv l).drop i) (0 + (i + 1)) (sv l ++ rest) w.drew hg (by simp [hsl]; omega)
      obtain ⟨b1, b2, b3, b4, b5⟩ := setCells_heap (G.ι id) T fr [.string ⟨x.toArray⟩] (0 + i) _ _ a1 (by simp [hsl]; omega)
      refine inpl _ ((sv l ++ rest).drop (l.length + 1)) ?_ ?_ (b3.trans a3) (b4.trans a4) (b5.trans a5) (fun b hb => (b2 b hb).trans (a2 b hb)) hfit
      · rw [b1, sv_insert, List.length_singleton, ins_mid hsl hlt]
      · rw [List.length_append, hso, List.length_drop, List.length_append, hsl]; omega
  · have hCl : C = l.length := by omega
    subst hCl
    have hbig : (l.length + 1) * 16 ≤ 140737488355328 := by omega
    have hgc : ∀ e, l.length + 1 ≤ grownCap w (l.length + 1) l.length e := fun e => by simp [grownCap, Question.cut]
    by_cases hie : i = l.length
    · subst hie
      refine (Any2.slices_Insert_string_end_grow lays22 (some ⟨G.ι id, 0, none⟩) l.length l.length (G.ι id2) 0 1 C2 (sv l) [.string ⟨x.toArray⟩] w (by omega) (Nat.le_refl _) (by omega) hbig hsl rfl (fun e => by cases e) (fun a ha j v hj => by cases ha; rw [Addr.add_lit]; exact hcs j v hj) hvs' h1v).mono ?_
      rintro e w' ⟨rfl, rfl⟩
      have hgc' := hgc (lays22_ren.t 9)
      have hgl : grownCap w (l.length + 1) l.length (lays22_ren.t 9) ≤ 9223372036854775807 := grown_le (by omega)
      generalize grownCap w (l.length + 1) l.length (lays22_ren.t 9) = C0 at hgc' hgl ⊢
      have hZs : (Builtin.zeroCells (Value.string ⟨#[]⟩).cells (C0 - (l.length + 1))).toList.length = C0 - (l.length + 1) := by
        have hz : (Value.string ⟨#[]⟩).cells.size = 1 := rfl
        generalize (Value.string ⟨#[]⟩).cells = zc at hz
        simp [Builtin.zeroCells, hz]
      generalize Builtin.zeroCells (Value.string ⟨#[]⟩).cells (C0 - (l.length + 1)) = Zc at hZs ⊢
      refine newb _ Zc.toList (lays22_ren.t 9) _ hgc' hgl (by omega) ?_ ?_ rfl rfl ?_
      · show (w.heap.push _)[w.heap.size]? = _
        rw [Array.getElem?_push_size]
        refine congrArg some (congrArg (fun c => Go.Obj.cells c _ (0, 0)) (Array.ext' ?_))
        simp only [Array.toList_append, sv_insert, ← hsl, List.take_length, List.drop_length]
      · show _ ≤ (w.heap.push _).size
        rw [Array.size_push]; omega
      · intro b hb
        show (w.heap.push _)[b]? = _
        rw [Array.getElem?_push, if_neg (Nat.ne_of_lt hb)]
    · have hlt : i < l.length := by omega
      refine (Any2.slices_Insert_string_grow lays22 (G.ι id) 0 l.length l.length i (G.ι id2) 0 1 C2 (sv l) [.string ⟨x.toArray⟩] w hlt (by omega) (Nat.le_refl _) (by omega) hbig hsl rfl hcs hvs' (fun v hv => sv_one' hv) h1v).mono ?_
      rintro e w' ⟨rfl, rfl⟩
      generalize hC0 : grownCap w (l.length + 1) l.length (lays22_ren.t 9) = C0
      have hC1 : l.length + 1 ≤ C0 := hC0 ▸ hgc _
      have hC2 : C0 ≤ 9223372036854775807 := hC0 ▸ grown_le (by omega)
      generalize hA : w.alloc (.cells (((sv l).take i).toArray ++ Builtin.zeroCells (Value.string ⟨#[]⟩).cells (l.length + 1 - i) ++ Builtin.zeroCells (Value.string ⟨#[]⟩).cells (C0 - (l.length + 1))) (lays22_ren.t 9)) = A0
      obtain ⟨Z, hZl, g1⟩ : ∃ Z : List Value, Z.length = C0 - i ∧ A0.drew.heap[w.heap.size]? = some (.cells ((sv l).take i ++ Z).toArray (lays22_ren.t 9) (0, 0)) := by
        refine ⟨(Builtin.zeroCells (Value.string ⟨#[]⟩).cells (l.length + 1 - i) ++ Builtin.zeroCells (Value.string ⟨#[]⟩).cells (C0 - (l.length + 1))).toList, ?_, ?_⟩
        · have hz : (Value.string ⟨#[]⟩).cells.size = 1 := rfl
          generalize (Value.string ⟨#[]⟩).cells = zc at hz
          simp [Builtin.zeroCells, hz]; omega
        · subst hA
          show (w.heap.push _)[w.heap.size]? = _
          rw [Array.getElem?_push_size]
          refine congrArg some (congrArg (fun c => Go.Obj.cells c _ (0, 0)) (Array.ext' ?_))
          simp only [Array.toList_append, List.append_assoc]
      have k3 : A0.heap.size = w.heap.size + 1 := by
        rw [← hA]
        show (w.heap.push _).size = _
        rw [Array.size_push]
      have k4 : A0.os = w.os := by rw [← hA]; rfl
      have k5 : A0.output = w.output := by rw [← hA]; rfl
      have k2 : ∀ b, b < w.heap.size → A0.heap[b]? = w.heap[b]? := fun b hb => by
        rw [← hA]
        show (w.heap.push _)[b]? = _
        rw [Array.getElem?_push, if_neg (Nat.ne_of_lt hb)]
      clear hA
      have hT' : ((sv l).take i).length = i := by rw [List.length_take, hsl]; omega
      have hD : ((sv l).drop i).length = l.length - i := by rw [List.length_drop, hsl]
      obtain ⟨a1, a2, a3, a4, a5⟩ := setCells_heap w.heap.size _ (0, 0) [.string ⟨x.toArray⟩] i _ A0.drew g1 (by rw [List.length_append, hT', hZl, List.length_singleton]; omega)
      obtain ⟨b1, b2, b3, b4, b5⟩ := setCells_heap w.heap.size _ (0, 0) ((sv l).drop i) (i + 1) _ (World.setCells A0.drew w.heap.size i [.string ⟨x.toArray⟩]).drew a1 (by simp only [List.length_append, List.length_take, List.length_drop, hsl, hZl, List.length_singleton]; omega)
      rw [List.length_singleton, ins_grow hsl hlt, ← sv_insert] at b1
      refine newb _ _ _ _ hC1 hC2 (by simp only [List.length_append, List.length_take, List.length_drop, List.length_singleton, hsl, hZl]; omega) b1 ?_ ?_ ?_ ?_
      · rw [b3]; show _ ≤ (World.setCells A0.drew _ _ _).heap.size; rw [a3]; show _ ≤ A0.heap.size; omega
      · rw [b4]; show (World.setCells A0.drew _ _ _).os = _; rw [a4]; exact k4
      · rw [b5]; show (World.setCells A0.drew _ _ _).output = _; rw [a5]; exact k5
      · intro b hb
        rw [b2 b (Nat.ne_of_lt hb)]; show (World.setCells A0.drew _ _ _).heap[b]? = _
        rw [a2 b (Nat.ne_of_lt hb)]
        exact k2 b hb
theorem insert_e (x : List UInt8) {id2 : Nat} {h : H} (ho2 : h.objs id2 = some (.cells [.str x])) (htk : h.toks = []) :
    ACalls Tryz.prog 183 [.sl 1 [] (.exact 0), .int .i64 0, .tsl 1 id2 0 1 none] h (.tsl 1 h.n 0 1 none) (h.turn id2 (.cells (strs [x]))) := by
  intro G w vs hv R F
  simp only [VRels] at hv
  obtain ⟨v1, _, rfl, hv1, v2, _, rfl, hv2, v3, _, rfl, hv3, rfl⟩ := hv
  have hbase : ∃ a0, v1 = .slice a0 0 0 := by
    simp only [VRel, CapOk] at hv1
    rcases hv1 with ⟨-, h, -⟩ | ⟨B, off, C, vs, q1, -, -, -, -, q6⟩
    · exact h
    · subst q6; exact ⟨_, by simpa using q1⟩
  obtain ⟨a0, rfl⟩ := hbase
  simp only [VRel] at hv2 hv3
  subst hv2
  obtain ⟨hd2, hv3⟩ := hv3
  obtain ⟨C2, c2, T2, fr2, rfl, ⟨hnC2, -⟩, -, hg2, hroom2⟩ | ⟨hz, -⟩ := hv3
  rotate_left
  · omega
  obtain ⟨-, hown2, hB2, us2, rest2, T2', fr2', hg2', hvs2, hfr2, -⟩ := R.obj id2 _ ho2
  have hus2 : us2 = [.string ⟨x.toArray⟩] := by
    simp only [VRels, VRel] at hvs2
    obtain ⟨v, _, rfl, rfl, rfl⟩ := hvs2
    rfl
  subst hus2
  rw [hg2] at hg2'
  obtain ⟨rfl, rfl, rfl⟩ : c2 = ([Value.string ⟨x.toArray⟩] ++ rest2).toArray ∧ T2 = T2' ∧ fr2 = fr2' := by simpa using hg2'
  have hvs' : ∀ (j : Nat) v, ([Value.string ⟨x.toArray⟩] : List Value)[j]? = some v → w.cell? ⟨G.ι id2, 0 + j, none⟩ = some v := fun j v => cell_of hg2 j v
  have h1v : ∀ v ∈ ([Value.string ⟨x.toArray⟩] : List Value), v.oneCell' = true := by simp [Value.oneCell']
  have key := Any2.slices_Insert_string_end_grow lays22 a0 0 0 (G.ι id2) 0 1 C2 [] [.string ⟨x.toArray⟩] w (by omega) (Nat.le_refl _) (by omega) (by omega) rfl rfl (fun _ => rfl) (fun a ha j v hj => by simp at hj) hvs' h1v
  refine key.mono ?_
  rintro e w' ⟨rfl, rfl⟩
  have hgc' : 0 + 1 ≤ grownCap w (0 + 1) 0 (lays22_ren.t 9) := by simp [grownCap, Question.cut]
  have hgl : grownCap w (0 + 1) 0 (lays22_ren.t 9) ≤ 9223372036854775807 := grown_le (by omega)
  generalize grownCap w (0 + 1) 0 (lays22_ren.t 9) = C0 at hgc' hgl ⊢
  have hZs : (Builtin.zeroCells (Value.string ⟨#[]⟩).cells (C0 - (0 + 1))).toList.length = C0 - (0 + 1) := by
    have hz : (Value.string ⟨#[]⟩).cells.size = 1 := rfl
    generalize (Value.string ⟨#[]⟩).cells = zc at hz
    simp [Builtin.zeroCells, hz]
  generalize Builtin.zeroCells (Value.string ⟨#[]⟩).cells (C0 - (0 + 1)) = Zc at hZs ⊢
  have hs : (w.drew.alloc (.cells (([] ++ [Value.string ⟨x.toArray⟩]).toArray ++ Zc) (lays22_ren.t 9))).heap.size = w.heap.size + 1 := by
    show (w.heap.push _).size = _
    rw [Array.size_push]
  have hold : ∀ b, b < w.heap.size → (w.drew.alloc (.cells (([] ++ [Value.string ⟨x.toArray⟩]).toArray ++ Zc) (lays22_ren.t 9))).heap[b]? = w.heap[b]? := fun b hb => by
    show (w.heap.push _)[b]? = _
    rw [Array.getElem?_push, if_neg (Nat.ne_of_lt hb)]
  have hnew : (w.drew.alloc (.cells (([] ++ [Value.string ⟨x.toArray⟩]).toArray ++ Zc) (lays22_ren.t 9))).heap[w.heap.size]? = some (.cells (sv [x] ++ Zc.toList).toArray (lays22_ren.t 9) (0, 0)) := by
    show (w.heap.push _)[w.heap.size]? = _
    rw [Array.getElem?_push_size]
    refine congrArg some (congrArg (fun c => Go.Obj.cells c _ (0, 0)) (Array.ext' ?_))
    simp only [Array.toList_append]
    rfl
  obtain ⟨G', T1, R1, V⟩ := row_new (w' := w.drew.alloc (.cells (([] ++ [Value.string ⟨x.toArray⟩]).toArray ++ Zc) (lays22_ren.t 9))) (B := w.heap.size) (C := C0) (xs := strs [x]) (vs := sv [x]) R ho2 htk (F.1 _ (Nat.le_refl _) (Nat.lt_succ_self _)) (by omega) rfl rfl (fun b hb _ => hold b hb) (by rw [hold _ hB2]; exact SameForm.refl _) (.inr (Nat.le_refl _)) ⟨by simpa [strs] using hgc', hgl⟩ rfl (sv_rels _) (fun v hv => sv_one hv) hnew (by simp only [sv_length, List.length_singleton]; omega) rfl
  exact ⟨_, G', rfl, T1, R1, V⟩
end Go.Proofs.YtkcgpcbpieofnaaGreatDoor.Reads
end
section
set_option linter.unusedSimpArgs false
set_option linter.unusedVariables false
set_option maxRecDepth 10000
namespace Go.Proofs.YtkcgpcbpieofnaaGreatDoor.Reads
open Go Go.Av Go.Proofs Go.Proofs.YtkcgpcbpieofnaaGreatDoor.C Go.Proofs.YtkcgpcbpieofnaaGreatDoor.Batch
def spOk (l : List Sp) (i : Nat) : Bool := hasB (l.getD i default) && (decide (i = 0) || apartB (l.getD (i - 1) default) (l.getD i default))
def kOk (k : List Bs) (l : List Sp) (i : Nat) : Bool := (decide (i = 0) || Op.bytesLess (k.getD (i - 1) []) (k.getD i [])) && !spanned l (k.getD i [])
def spsOk (l : List Sp) : Bool := (List.range l.length).all (spOk l)
def ksOk (k : List Bs) (l : List Sp) : Bool := (List.range k.length).all (kOk k l)
def checkB (k : List Bs) (l : List Sp) : Bool := decide (k.length ≤ 64) && decide (l.length ≤ 64) && spsOk l && ksOk k l
theorem all_no {p : Nat → Bool} {n j : Nat} (h : j < n) (hp : p j = false) : (List.range n).all p = false := List.all_eq_false.2 ⟨j, List.mem_range.2 h, by simp [hp]⟩
theorem all_yes {p : Nat → Bool} {n : Nat} (h : ∀ i, i < n → p i = true) : (List.range n).all p = true := List.all_eq_true.2 fun i hi => h i (List.mem_range.1 hi)
theorem check_p (k : List Bs) (l : List Sp) : PCalls Tryz.prog 156 [encR k l] (.int .i64 (if checkB k l then 0 else 4)) := by
  refine f156.pcalls0 (by simp) (by simp [allPure, encR_pure]) rfl ?_
  unfold c156
  refine Wp.seqReg (by simp only [go_sem, reduceIte, Nat.reduceEqDiff, Nat.reduceAdd, bx, encR]; exact rfl) (by trivial) ?_
  refine Wp.frz (fun _ => true) [(1, .ref [.sl 1 (strs k) .any, .sl 2 (sps l) .any])] ⟨none', 1, [], 0⟩ ?_ (OLe.none _) (by simp) (by simp [go_sem]) (Nat.le_refl _) ?_
  · simp only [AllSub, go_sem, reduceIte, Nat.reduceEqDiff, unT, and_true]
    exact VSub.refl _
  by_cases b1 : k.length ≤ 64
  rotate_left
  · have d1 : decide ((64 : Int) < (k.length : Int)) = true := decide_eq_true (by omega)
    repeat (first
      | ((first | apply Wp.seqItems | apply Wp.items); (· simp only [go_sem, reduceIte, Nat.reduceEqDiff, Nat.reduceAdd, bx, ax, if_true, if_false, Nat.reduceMul, Nat.reduceLeDiff, d1, strs_length]; exact rfl))
      | (refine WpItems.nil ⟨?_, ?_⟩; (· first | trivial | simp [pairsQ, pairsOk, apart, ent0]))
      | (apply Wp.cond_lit; (· simp only [go_sem, reduceIte, Nat.reduceEqDiff, Nat.reduceAdd, bx, ax, if_true, if_false, Nat.reduceMul, Nat.reduceLeDiff, d1, strs_length]; exact rfl); (· rfl))
      | refine Wp.skip ?_
      | refine Wp.label ?_
      | refine Wp.block ?_
      | refine Wp.exit ?_
      | refine Wp.seq ?_)
    refine Wp.ret ⟨trivial, _, rfl, ?_⟩
    simp only [go_sem, reduceIte, Nat.reduceEqDiff, Nat.reduceAdd, bx]
    simp only [checkB, decide_eq_false b1, Bool.false_and, Bool.false_eq_true, if_false]
    exact VSub.refl _
  have d1 : decide ((64 : Int) < (k.length : Int)) = false := decide_eq_false (by omega)
  by_cases b2 : l.length ≤ 64
  rotate_left
  · have d2 : decide ((64 : Int) < (l.length : Int)) = true := decide_eq_true (by omega)
    repeat (first
      | ((first | apply Wp.seqItems | apply Wp.items); (· simp only [go_sem, reduceIte, Nat.reduceEqDiff, Nat.reduceAdd, bx, ax, if_true, if_false, Nat.reduceMul, Nat.reduceLeDiff, d1, d2, strs_length, sps_length]; exact rfl))
      | (refine WpItems.nil ⟨?_, ?_⟩; (· first | trivial | simp [pairsQ, pairsOk, apart, ent0]))
      | (apply Wp.cond_lit; (· simp only [go_sem, reduceIte, Nat.reduceEqDiff, Nat.reduceAdd, bx, ax, if_true, if_false, Nat.reduceMul, Nat.reduceLeDiff, d1, d2, strs_length, sps_length]; exact rfl); (· rfl))
      | refine Wp.skip ?_
      | refine Wp.label ?_
      | refine Wp.block ?_
      | refine Wp.exit ?_
      | refine Wp.seq ?_)
    refine Wp.ret ⟨trivial, _, rfl, ?_⟩
    simp only [go_sem, reduceIte, Nat.reduceEqDiff, Nat.reduceAdd, bx]
    simp only [checkB, decide_eq_false b2, Bool.and_false, Bool.false_and, Bool.false_eq_true, if_false]
    exact VSub.refl _
  have d2 : decide ((64 : Int) < (l.length : Int)) = false := decide_eq_false (by omega)
  repeat (first
    | ((first | apply Wp.seqItems | apply Wp.items); (· simp only [go_sem, reduceIte, Nat.reduceEqDiff, Nat.reduceAdd, bx, ax, if_true, if_false, Nat.reduceMul, Nat.reduceLeDiff, d1, d2, strs_length, sps_length]; exact rfl))
    | (refine WpItems.nil ⟨?_, ?_⟩; (· first | trivial | simp [pairsQ, pairsOk, apart, ent0]))
    | (apply Wp.cond_lit; (· simp only [go_sem, reduceIte, Nat.reduceEqDiff, Nat.reduceAdd, bx, ax, if_true, if_false, Nat.reduceMul, Nat.reduceLeDiff, d1, d2, strs_length, sps_length]; exact rfl); (· rfl))
    | refine Wp.skip ?_
    | refine Wp.label ?_
    | refine Wp.block ?_
    | refine Wp.exit ?_
    | refine Wp.seq ?_)
  refine Wp.loopN [1, 18, 19] (by simp only [go_sem, reduceIte, Nat.reduceEqDiff, List.map, sps_length]; exact rfl) (fun j : Nat => [(20, .int .i64 j)]) (fun j => j ≤ l.length ∧ ∀ i, i < j → spOk l i = true) (fun j => l.length - j) 0 ⟨Nat.zero_le _, fun i h => absurd h (by omega)⟩ ?_ ?_
  · simp only [AllSub, go_sem, reduceIte, Nat.reduceEqDiff, Nat.reduceAdd, bx]; and_intros <;> first | exact trivial | exact VSub.refl _ | exact VSub.any _ | (refine VSub.int ?_; omega)
  rintro j n hn ⟨hj, hs⟩
  by_cases hc : j < l.length
  · have g1 : decide ((j : Int) < (l.length : Int)) = true := decide_eq_true (by omega)
    have h2 : (0 : Int) ≤ (j : Int) := by omega
    have h3 : (j : Int) < (l.length : Int) := by omega
    have e1 : IntKind.i64.wrap ((j : Int) + 1) = ((j + 1 : Nat) : Int) := by rw [IntWalk.i64_in _ (by omega)]; omega
    have key : ∀ {b : Bool}, spOk l j = b → (b = true → ∀ i, i < j + 1 → spOk l i = true) ∧ (b = false → checkB k l = false) := by
      intro b hb
      refine ⟨fun h i hi => ?_, fun h => ?_⟩
      · by_cases e : i = j
        · subst e; rw [hb, h]
        · exact hs i (by omega)
      · have : spsOk l = false := all_no hc (hb.trans h)
        simp [checkB, this]
    cases ha : hasB (l.getD j default) with
    | false =>
      have q := (key (b := false) (by simp only [spOk, ha, Bool.false_and])).2 rfl
      repeat (first
        | ((first | apply Wp.seqItems | apply Wp.items | ((first
            | (refine WpItems.pcall ?_ ?_ (has_p (l.getD j default)) ?_; (· simp only [go_sem, reduceIte, Nat.reduceEqDiff, Nat.reduceAdd, bx]); (· simp only [go_sem, reduceIte, Nat.reduceEqDiff, Nat.reduceAdd, bx, List.map]; first | exact VSubs.refl _ | (repeat (first | exact VSubs.nil | refine VSubs.cons (by first | exact VSub.refl _ | assumption | exact VSub.cap | exact VSub.any _) ?_))))); apply WpItems.eval)); (· simp only [go_sem, reduceIte, Nat.reduceEqDiff, Nat.reduceAdd, bx, ax, if_true, if_false, Nat.reduceMul, Nat.reduceLeDiff, g1, h2, h3, e1, sps_length, Int.toNat_natCast, sps_getD _ _ _ hc, encSp, ha]; exact rfl))
        | (refine WpItems.nil ⟨?_, ?_⟩; (· first | trivial | simp [pairsQ, pairsOk, apart, ent0]))
        | (apply Wp.cond_lit; (· simp only [go_sem, reduceIte, Nat.reduceEqDiff, Nat.reduceAdd, bx, ax, if_true, if_false, Nat.reduceMul, Nat.reduceLeDiff, g1, h2, h3, e1, sps_length, Int.toNat_natCast, sps_getD _ _ _ hc, encSp, ha]; exact rfl); (· rfl))
        | refine Wp.skip ?_
        | refine Wp.label ?_
        | refine Wp.block ?_
        | refine Wp.exit ?_
        | refine Wp.seq ?_)
      refine Wp.ret ⟨trivial, _, rfl, ?_⟩
      simp only [go_sem, reduceIte, Nat.reduceEqDiff, Nat.reduceAdd, bx]
      simp only [q, Bool.false_eq_true, if_false]
      exact VSub.refl _
    | true =>
      by_cases hz : j = 0
      · have g2 : decide ((0 : Int) < (j : Int)) = false := decide_eq_false (by omega)
        have q := (key (b := true) (by simp only [spOk, ha, hz, decide_true, Bool.true_or, Bool.and_self] at ha ⊢; simp only [ha, Bool.and_self])).1 rfl
        repeat (first
          | ((first | apply Wp.seqItems | apply Wp.items | ((first
              | (refine WpItems.pcall ?_ ?_ (has_p (l.getD j default)) ?_; (· simp only [go_sem, reduceIte, Nat.reduceEqDiff, Nat.reduceAdd, bx]); (· simp only [go_sem, reduceIte, Nat.reduceEqDiff, Nat.reduceAdd, bx, List.map]; first | exact VSubs.refl _ | (repeat (first | exact VSubs.nil | refine VSubs.cons (by first | exact VSub.refl _ | assumption | exact VSub.cap | exact VSub.any _) ?_))))); apply WpItems.eval)); (· simp only [go_sem, reduceIte, Nat.reduceEqDiff, Nat.reduceAdd, bx, ax, if_true, if_false, Nat.reduceMul, Nat.reduceLeDiff, g1, g2, h2, h3, e1, sps_length, Int.toNat_natCast, sps_getD _ _ _ hc, encSp, ha]; exact rfl))
          | (refine WpItems.nil ⟨?_, ?_⟩; (· first | trivial | simp [pairsQ, pairsOk, apart, ent0]))
          | (apply Wp.cond_lit; (· simp only [go_sem, reduceIte, Nat.reduceEqDiff, Nat.reduceAdd, bx, ax, if_true, if_false, Nat.reduceMul, Nat.reduceLeDiff, g1, g2, h2, h3, e1, sps_length, Int.toNat_natCast, sps_getD _ _ _ hc, encSp, ha]; exact rfl); (· rfl))
          | refine Wp.skip ?_
          | refine Wp.label ?_
          | refine Wp.block ?_
          | refine Wp.exit ?_
          | refine Wp.seq ?_)
        refine ⟨j + 1, n + 1, by omega, ⟨by omega, q⟩, by omega, ?_⟩
        refine StLe.tmN (by omega) (OLe.none _) (by simp only [AllSub, go_sem, reduceIte, Nat.reduceEqDiff, Nat.reduceAdd, bx]; and_intros <;> first | exact trivial | exact VSub.refl _ | exact VSub.any _ | (refine VSub.int ?_; omega))
      · have g2 : decide ((0 : Int) < (j : Int)) = true := decide_eq_true (by omega)
        have e2 : IntKind.i64.wrap ((j : Int) - 1) = ((j - 1 : Nat) : Int) := by rw [IntWalk.i64_in _ (by omega)]; omega
        have h4 : (0 : Int) ≤ ((j - 1 : Nat) : Int) := by omega
        have h5 : ((j - 1 : Nat) : Int) < (l.length : Int) := by omega
        have h6 : j - 1 < l.length := by omega
        have hq : spOk l j = apartB (l.getD (j - 1) default) (l.getD j default) := by simp only [spOk, ha, decide_eq_false hz, Bool.true_and, Bool.false_or]
        cases hp : apartB (l.getD (j - 1) default) (l.getD j default) with
        | true =>
          have q := (key (hq.trans hp)).1 rfl
          repeat (first
            | ((first | apply Wp.seqItems | apply Wp.items | ((first
                | (refine WpItems.pcall ?_ ?_ (has_p (l.getD j default)) ?_; (· simp only [go_sem, reduceIte, Nat.reduceEqDiff, Nat.reduceAdd, bx]); (· simp only [go_sem, reduceIte, Nat.reduceEqDiff, Nat.reduceAdd, bx, List.map]; first | exact VSubs.refl _ | (repeat (first | exact VSubs.nil | refine VSubs.cons (by first | exact VSub.refl _ | assumption | exact VSub.cap | exact VSub.any _) ?_))))
                | (refine WpItems.pcall ?_ ?_ (apart_p (l.getD (j - 1) default) (l.getD j default)) ?_; (· simp only [go_sem, reduceIte, Nat.reduceEqDiff, Nat.reduceAdd, bx]); (· simp only [go_sem, reduceIte, Nat.reduceEqDiff, Nat.reduceAdd, bx, List.map]; first | exact VSubs.refl _ | (repeat (first | exact VSubs.nil | refine VSubs.cons (by first | exact VSub.refl _ | assumption | exact VSub.cap | exact VSub.any _) ?_))))); apply WpItems.eval)); (· simp only [go_sem, reduceIte, Nat.reduceEqDiff, Nat.reduceAdd, bx, ax, if_true, if_false, Nat.reduceMul, Nat.reduceLeDiff, g1, g2, h2, h3, h4, h5, e1, e2, sps_length, Int.toNat_natCast, sps_getD _ _ _ hc, sps_getD _ _ _ h6, encSp, ha, hp]; exact rfl))
            | (refine WpItems.nil ⟨?_, ?_⟩; (· first | trivial | simp [pairsQ, pairsOk, apart, ent0]))
            | (apply Wp.cond_lit; (· simp only [go_sem, reduceIte, Nat.reduceEqDiff, Nat.reduceAdd, bx, ax, if_true, if_false, Nat.reduceMul, Nat.reduceLeDiff, g1, g2, h2, h3, h4, h5, e1, e2, sps_length, Int.toNat_natCast, sps_getD _ _ _ hc, sps_getD _ _ _ h6, encSp, ha, hp]; exact rfl); (· rfl))
            | refine Wp.skip ?_
            | refine Wp.label ?_
            | refine Wp.block ?_
            | refine Wp.exit ?_
            | refine Wp.seq ?_)
          refine ⟨j + 1, n + 1, by omega, ⟨by omega, q⟩, by omega, ?_⟩
          refine StLe.tmN (by omega) (OLe.none _) (by simp only [AllSub, go_sem, reduceIte, Nat.reduceEqDiff, Nat.reduceAdd, bx]; and_intros <;> first | exact trivial | exact VSub.refl _ | exact VSub.any _ | (refine VSub.int ?_; omega))
        | false =>
          have q := (key (hq.trans hp)).2 rfl
          repeat (first
            | ((first | apply Wp.seqItems | apply Wp.items | ((first
                | (refine WpItems.pcall ?_ ?_ (has_p (l.getD j default)) ?_; (· simp only [go_sem, reduceIte, Nat.reduceEqDiff, Nat.reduceAdd, bx]); (· simp only [go_sem, reduceIte, Nat.reduceEqDiff, Nat.reduceAdd, bx, List.map]; first | exact VSubs.refl _ | (repeat (first | exact VSubs.nil | refine VSubs.cons (by first | exact VSub.refl _ | assumption | exact VSub.cap | exact VSub.any _) ?_))))
                | (refine WpItems.pcall ?_ ?_ (apart_p (l.getD (j - 1) default) (l.getD j default)) ?_; (· simp only [go_sem, reduceIte, Nat.reduceEqDiff, Nat.reduceAdd, bx]); (· simp only [go_sem, reduceIte, Nat.reduceEqDiff, Nat.reduceAdd, bx, List.map]; first | exact VSubs.refl _ | (repeat (first | exact VSubs.nil | refine VSubs.cons (by first | exact VSub.refl _ | assumption | exact VSub.cap | exact VSub.any _) ?_))))); apply WpItems.eval)); (· simp only [go_sem, reduceIte, Nat.reduceEqDiff, Nat.reduceAdd, bx, ax, if_true, if_false, Nat.reduceMul, Nat.reduceLeDiff, g1, g2, h2, h3, h4, h5, e1, e2, sps_length, Int.toNat_natCast, sps_getD _ _ _ hc, sps_getD _ _ _ h6, encSp, ha, hp]; exact rfl))
            | (refine WpItems.nil ⟨?_, ?_⟩; (· first | trivial | simp [pairsQ, pairsOk, apart, ent0]))
            | (apply Wp.cond_lit; (· simp only [go_sem, reduceIte, Nat.reduceEqDiff, Nat.reduceAdd, bx, ax, if_true, if_false, Nat.reduceMul, Nat.reduceLeDiff, g1, g2, h2, h3, h4, h5, e1, e2, sps_length, Int.toNat_natCast, sps_getD _ _ _ hc, sps_getD _ _ _ h6, encSp, ha, hp]; exact rfl); (· rfl))
            | refine Wp.skip ?_
            | refine Wp.label ?_
            | refine Wp.block ?_
            | refine Wp.exit ?_
            | refine Wp.seq ?_)
          refine Wp.ret ⟨trivial, _, rfl, ?_⟩
          simp only [go_sem, reduceIte, Nat.reduceEqDiff, Nat.reduceAdd, bx]
          simp only [q, Bool.false_eq_true, if_false]
          exact VSub.refl _
  obtain rfl : j = l.length := by omega
  have g1 : decide ((l.length : Int) < (l.length : Int)) = false := decide_eq_false (by omega)
  have hsp : spsOk l = true := all_yes hs
  repeat (first
    | ((first | apply Wp.seqItems | apply Wp.items); (· simp only [go_sem, reduceIte, Nat.reduceEqDiff, Nat.reduceAdd, bx, ax, if_true, if_false, Nat.reduceMul, Nat.reduceLeDiff, g1, strs_length]; exact rfl))
    | (refine WpItems.nil ⟨?_, ?_⟩; (· first | trivial | simp [pairsQ, pairsOk, apart, ent0]))
    | (apply Wp.cond_lit; (· simp only [go_sem, reduceIte, Nat.reduceEqDiff, Nat.reduceAdd, bx, ax, if_true, if_false, Nat.reduceMul, Nat.reduceLeDiff, g1, strs_length]; exact rfl); (· rfl))
    | refine Wp.skip ?_
    | refine Wp.label ?_
    | refine Wp.block ?_
    | refine Wp.exit ?_
    | refine Wp.seq ?_)
  refine Wp.loopN [1, 45, 46] (by simp only [go_sem, reduceIte, Nat.reduceEqDiff, List.map, strs_length]; exact rfl) (fun j : Nat => [(47, .int .i64 j)]) (fun j => j ≤ k.length ∧ ∀ i, i < j → kOk k l i = true) (fun j => k.length - j) 0 ⟨Nat.zero_le _, fun i h => absurd h (by omega)⟩ ?_ ?_
  · simp only [AllSub, go_sem, reduceIte, Nat.reduceEqDiff, Nat.reduceAdd, bx]; and_intros <;> first | exact trivial | exact VSub.refl _ | exact VSub.any _ | (refine VSub.int ?_; omega)
  rintro j n' hn' ⟨hj, hs'⟩
  by_cases hc : j < k.length
  · have g1 : decide ((j : Int) < (k.length : Int)) = true := decide_eq_true (by omega)
    have h2 : (0 : Int) ≤ (j : Int) := by omega
    have h3 : (j : Int) < (k.length : Int) := by omega
    have e1 : IntKind.i64.wrap ((j : Int) + 1) = ((j + 1 : Nat) : Int) := by rw [IntWalk.i64_in _ (by omega)]; omega
    have key : ∀ {b : Bool}, kOk k l j = b → (b = true → ∀ i, i < j + 1 → kOk k l i = true) ∧ (b = false → checkB k l = false) := by
      intro b hb
      refine ⟨fun h i hi => ?_, fun h => ?_⟩
      · by_cases e : i = j
        · subst e; rw [hb, h]
        · exact hs' i (by omega)
      · have : ksOk k l = false := all_no hc (hb.trans h)
        simp [checkB, this]
    have go : ∀ g : Bool, ((decide (j = 0) || Op.bytesLess (k.getD (j - 1) []) (k.getD j [])) = g) → kOk k l j = (g && !spanned l (k.getD j [])) := fun g hg => by simp only [kOk, hg]
    by_cases hz : j = 0
    · have g2 : decide ((0 : Int) < (j : Int)) = false := decide_eq_false (by omega)
      have hg := go true (by simp [hz])
      cases hp : spanned l (k.getD j []) with
      | true =>
        have q := (key (b := false) (by rw [hg, hp]; rfl)).2 rfl
        repeat (first
          | ((first | apply Wp.seqItems | apply Wp.items | ((first
              | (refine WpItems.pcall ?_ ?_ (spanned_p l (by omega) (k.getD j [])) ?_; (· simp only [go_sem, reduceIte, Nat.reduceEqDiff, Nat.reduceAdd, bx]); (· simp only [go_sem, reduceIte, Nat.reduceEqDiff, Nat.reduceAdd, bx, List.map]; first | exact VSubs.refl _ | (repeat (first | exact VSubs.nil | refine VSubs.cons (by first | exact VSub.refl _ | assumption | exact VSub.cap | exact VSub.any _) ?_))))); apply WpItems.eval)); (· simp only [go_sem, reduceIte, Nat.reduceEqDiff, Nat.reduceAdd, bx, ax, if_true, if_false, Nat.reduceMul, Nat.reduceLeDiff, g1, g2, h2, h3, e1, strs_length, Int.toNat_natCast, strs_getD _ _ _ hc, hp]; exact rfl))
          | (refine WpItems.nil ⟨?_, ?_⟩; (· first | trivial | simp [pairsQ, pairsOk, apart, ent0]))
          | (apply Wp.cond_lit; (· simp only [go_sem, reduceIte, Nat.reduceEqDiff, Nat.reduceAdd, bx, ax, if_true, if_false, Nat.reduceMul, Nat.reduceLeDiff, g1, g2, h2, h3, e1, strs_length, Int.toNat_natCast, strs_getD _ _ _ hc, hp]; exact rfl); (· rfl))
          | refine Wp.skip ?_
          | refine Wp.label ?_
          | refine Wp.block ?_
          | refine Wp.exit ?_
          | refine Wp.seq ?_)
        refine Wp.ret ⟨trivial, _, rfl, ?_⟩
        simp only [go_sem, reduceIte, Nat.reduceEqDiff, Nat.reduceAdd, bx]
        simp only [q, Bool.false_eq_true, if_false]
        exact VSub.refl _
      | false =>
        have q := (key (b := true) (by rw [hg, hp]; rfl)).1 rfl
        repeat (first
          | ((first | apply Wp.seqItems | apply Wp.items | ((first
              | (refine WpItems.pcall ?_ ?_ (spanned_p l (by omega) (k.getD j [])) ?_; (· simp only [go_sem, reduceIte, Nat.reduceEqDiff, Nat.reduceAdd, bx]); (· simp only [go_sem, reduceIte, Nat.reduceEqDiff, Nat.reduceAdd, bx, List.map]; first | exact VSubs.refl _ | (repeat (first | exact VSubs.nil | refine VSubs.cons (by first | exact VSub.refl _ | assumption | exact VSub.cap | exact VSub.any _) ?_))))); apply WpItems.eval)); (· simp only [go_sem, reduceIte, Nat.reduceEqDiff, Nat.reduceAdd, bx, ax, if_true, if_false, Nat.reduceMul, Nat.reduceLeDiff, g1, g2, h2, h3, e1, strs_length, Int.toNat_natCast, strs_getD _ _ _ hc, hp]; exact rfl))
          | (refine WpItems.nil ⟨?_, ?_⟩; (· first | trivial | simp [pairsQ, pairsOk, apart, ent0]))
          | (apply Wp.cond_lit; (· simp only [go_sem, reduceIte, Nat.reduceEqDiff, Nat.reduceAdd, bx, ax, if_true, if_false, Nat.reduceMul, Nat.reduceLeDiff, g1, g2, h2, h3, e1, strs_length, Int.toNat_natCast, strs_getD _ _ _ hc, hp]; exact rfl); (· rfl))
          | refine Wp.skip ?_
          | refine Wp.label ?_
          | refine Wp.block ?_
          | refine Wp.exit ?_
          | refine Wp.seq ?_)
        refine ⟨j + 1, n', by omega, ⟨by omega, q⟩, by omega, ?_⟩
        refine StLe.tmN (by omega) (OLe.none _) (by simp only [AllSub, go_sem, reduceIte, Nat.reduceEqDiff, Nat.reduceAdd, bx]; and_intros <;> first | exact trivial | exact VSub.refl _ | exact VSub.any _ | (refine VSub.int ?_; omega))
    · have g2 : decide ((0 : Int) < (j : Int)) = true := decide_eq_true (by omega)
      have e2 : IntKind.i64.wrap ((j : Int) - 1) = ((j - 1 : Nat) : Int) := by rw [IntWalk.i64_in _ (by omega)]; omega
      have h4 : (0 : Int) ≤ ((j - 1 : Nat) : Int) := by omega
      have h5 : ((j - 1 : Nat) : Int) < (k.length : Int) := by omega
      have h6 : j - 1 < k.length := by omega
      have hg := go _ (show _ = Op.bytesLess (k.getD (j - 1) []) (k.getD j []) by simp [hz])
      cases hp : Op.bytesLess (k.getD (j - 1) []) (k.getD j []) with
      | false =>
        have q := (key (b := false) (by rw [hg, hp]; rfl)).2 rfl
        repeat (first
          | ((first | apply Wp.seqItems | apply Wp.items); (· simp only [go_sem, reduceIte, Nat.reduceEqDiff, Nat.reduceAdd, bx, ax, if_true, if_false, Nat.reduceMul, Nat.reduceLeDiff, g1, g2, h2, h3, h4, h5, e1, e2, strs_length, Int.toNat_natCast, strs_getD _ _ _ hc, strs_getD _ _ _ h6, hp]; exact rfl))
          | (refine WpItems.nil ⟨?_, ?_⟩; (· first | trivial | simp [pairsQ, pairsOk, apart, ent0]))
          | (apply Wp.cond_lit; (· simp only [go_sem, reduceIte, Nat.reduceEqDiff, Nat.reduceAdd, bx, ax, if_true, if_false, Nat.reduceMul, Nat.reduceLeDiff, g1, g2, h2, h3, h4, h5, e1, e2, strs_length, Int.toNat_natCast, strs_getD _ _ _ hc, strs_getD _ _ _ h6, hp]; exact rfl); (· rfl))
          | refine Wp.skip ?_
          | refine Wp.label ?_
          | refine Wp.block ?_
          | refine Wp.exit ?_
          | refine Wp.seq ?_)
        refine Wp.ret ⟨trivial, _, rfl, ?_⟩
        simp only [go_sem, reduceIte, Nat.reduceEqDiff, Nat.reduceAdd, bx]
        simp only [q, Bool.false_eq_true, if_false]
        exact VSub.refl _
      | true =>
        cases hp2 : spanned l (k.getD j []) with
        | true =>
          have q := (key (b := false) (by rw [hg, hp, hp2]; rfl)).2 rfl
          repeat (first
            | ((first | apply Wp.seqItems | apply Wp.items | ((first
                | (refine WpItems.pcall ?_ ?_ (spanned_p l (by omega) (k.getD j [])) ?_; (· simp only [go_sem, reduceIte, Nat.reduceEqDiff, Nat.reduceAdd, bx]); (· simp only [go_sem, reduceIte, Nat.reduceEqDiff, Nat.reduceAdd, bx, List.map]; first | exact VSubs.refl _ | (repeat (first | exact VSubs.nil | refine VSubs.cons (by first | exact VSub.refl _ | assumption | exact VSub.cap | exact VSub.any _) ?_))))); apply WpItems.eval)); (· simp only [go_sem, reduceIte, Nat.reduceEqDiff, Nat.reduceAdd, bx, ax, if_true, if_false, Nat.reduceMul, Nat.reduceLeDiff, g1, g2, h2, h3, h4, h5, e1, e2, strs_length, Int.toNat_natCast, strs_getD _ _ _ hc, strs_getD _ _ _ h6, hp, hp2]; exact rfl))
            | (refine WpItems.nil ⟨?_, ?_⟩; (· first | trivial | simp [pairsQ, pairsOk, apart, ent0]))
            | (apply Wp.cond_lit; (· simp only [go_sem, reduceIte, Nat.reduceEqDiff, Nat.reduceAdd, bx, ax, if_true, if_false, Nat.reduceMul, Nat.reduceLeDiff, g1, g2, h2, h3, h4, h5, e1, e2, strs_length, Int.toNat_natCast, strs_getD _ _ _ hc, strs_getD _ _ _ h6, hp, hp2]; exact rfl); (· rfl))
            | refine Wp.skip ?_
            | refine Wp.label ?_
            | refine Wp.block ?_
            | refine Wp.exit ?_
            | refine Wp.seq ?_)
          refine Wp.ret ⟨trivial, _, rfl, ?_⟩
          simp only [go_sem, reduceIte, Nat.reduceEqDiff, Nat.reduceAdd, bx]
          simp only [q, Bool.false_eq_true, if_false]
          exact VSub.refl _
        | false =>
          have q := (key (b := true) (by rw [hg, hp, hp2]; rfl)).1 rfl
          repeat (first
            | ((first | apply Wp.seqItems | apply Wp.items | ((first
                | (refine WpItems.pcall ?_ ?_ (spanned_p l (by omega) (k.getD j [])) ?_; (· simp only [go_sem, reduceIte, Nat.reduceEqDiff, Nat.reduceAdd, bx]); (· simp only [go_sem, reduceIte, Nat.reduceEqDiff, Nat.reduceAdd, bx, List.map]; first | exact VSubs.refl _ | (repeat (first | exact VSubs.nil | refine VSubs.cons (by first | exact VSub.refl _ | assumption | exact VSub.cap | exact VSub.any _) ?_))))); apply WpItems.eval)); (· simp only [go_sem, reduceIte, Nat.reduceEqDiff, Nat.reduceAdd, bx, ax, if_true, if_false, Nat.reduceMul, Nat.reduceLeDiff, g1, g2, h2, h3, h4, h5, e1, e2, strs_length, Int.toNat_natCast, strs_getD _ _ _ hc, strs_getD _ _ _ h6, hp, hp2]; exact rfl))
            | (refine WpItems.nil ⟨?_, ?_⟩; (· first | trivial | simp [pairsQ, pairsOk, apart, ent0]))
            | (apply Wp.cond_lit; (· simp only [go_sem, reduceIte, Nat.reduceEqDiff, Nat.reduceAdd, bx, ax, if_true, if_false, Nat.reduceMul, Nat.reduceLeDiff, g1, g2, h2, h3, h4, h5, e1, e2, strs_length, Int.toNat_natCast, strs_getD _ _ _ hc, strs_getD _ _ _ h6, hp, hp2]; exact rfl); (· rfl))
            | refine Wp.skip ?_
            | refine Wp.label ?_
            | refine Wp.block ?_
            | refine Wp.exit ?_
            | refine Wp.seq ?_)
          refine ⟨j + 1, n', by omega, ⟨by omega, q⟩, by omega, ?_⟩
          refine StLe.tmN (by omega) (OLe.none _) (by simp only [AllSub, go_sem, reduceIte, Nat.reduceEqDiff, Nat.reduceAdd, bx]; and_intros <;> first | exact trivial | exact VSub.refl _ | exact VSub.any _ | (refine VSub.int ?_; omega))
  obtain rfl : j = k.length := by omega
  have g1 : decide ((k.length : Int) < (k.length : Int)) = false := decide_eq_false (by omega)
  have hk : ksOk k l = true := all_yes hs'
  repeat (first
    | ((first | apply Wp.seqItems | apply Wp.items); (· simp only [go_sem, reduceIte, Nat.reduceEqDiff, Nat.reduceAdd, bx, ax, if_true, if_false, Nat.reduceMul, Nat.reduceLeDiff, g1]; exact rfl))
    | (refine WpItems.nil ⟨?_, ?_⟩; (· first | trivial | simp [pairsQ, pairsOk, apart, ent0]))
    | (apply Wp.cond_lit; (· simp only [go_sem, reduceIte, Nat.reduceEqDiff, Nat.reduceAdd, bx, ax, if_true, if_false, Nat.reduceMul, Nat.reduceLeDiff, g1]; exact rfl); (· rfl))
    | refine Wp.skip ?_
    | refine Wp.label ?_
    | refine Wp.block ?_
    | refine Wp.exit ?_
    | refine Wp.seq ?_)
  refine Wp.ret ⟨trivial, _, rfl, ?_⟩
  simp only [go_sem, reduceIte, Nat.reduceEqDiff, Nat.reduceAdd, bx]
  simp only [checkB, decide_eq_true b1, decide_eq_true b2, hsp, hk, Bool.and_self, if_true]
  exact VSub.refl _
end Go.Proofs.YtkcgpcbpieofnaaGreatDoor.Reads
end
section
set_option linter.unusedSimpArgs false
set_option linter.unusedVariables false
set_option maxRecDepth 10000
namespace Go.Proofs.YtkcgpcbpieofnaaGreatDoor.Reads
open Go Go.Av Go.Proofs Go.Proofs.YtkcgpcbpieofnaaGreatDoor.C Go.Proofs.YtkcgpcbpieofnaaGreatDoor.Batch
def madeB (ks : List Bs) (l : List Sp) : List Bs × List Sp × Int :=
  if decide ((ks.filter fun x => !spanned l x).length ≤ 64) && decide (l.length ≤ 64) then (ks.filter fun x => !spanned l x, l, 0) else ([], [], 9)
def encO (o : List Bs × List Sp × Int) : AV := .tup [encR o.1 o.2.1, .int .i64 o.2.2]
theorem encO_pure (o : List Bs × List Sp × Int) : isPure (encO o) = true := by simp [encO, isPure, allPure, encR_pure]
theorem nil_sub (e : Int) : VSub (.tup [.agg [.sl 1 [] (.exact 0), .sl 2 [] (.exact 0)], .int .i64 e]) (encO ([], [], e)) :=
  VSub.tup (VSubs.cons (VSub.agg (VSubs.cons VSub.cap (VSubs.cons VSub.cap VSubs.nil))) (VSubs.refl _))
theorem del0_p {g : FuncId} {fn : Func} (hf : Tryz.prog.funcs[g]? = some fn) (hb : fn.body.isSome = true) (hn : fn.name ≠ "runtime.NumGoroutine") (caps : List AV) (hc : allPure caps = true) :
    PCalls Tryz.prog 200 [.sl 1 [] (.exact 0), .clo (.func g) [] caps] (.sl 1 [] .any) := by
  refine f200.pcalls0 (by simp) (by simp [allPure, isPure, capPure, hc]) rfl ?_
  unfold c200
  have h0 := indexStr_p [] (by simp) (fun _ => false) hf hb hn caps hc (by simp)
  have e : ix (fun _ : Bs => false) [] = -1 := rfl
  have d1 : decide ((-1 : Int) = -1) = true := rfl
  rw [e] at h0
  have hs : VSubs [AV.sl 1 [] (.exact 0), .clo (.func g) [] caps] [.sl 1 (strs []) .any, .clo (.func g) [] caps] := VSubs.cons VSub.cap (VSubs.refl _)
  repeat (first
    | ((first | apply Wp.seqItems | apply Wp.items | ((first
        | (refine WpItems.pcall ?_ ?_ (h0) ?_; (· simp only [go_sem, reduceIte, Nat.reduceEqDiff, Nat.reduceAdd, bx]); (· simp only [go_sem, reduceIte, Nat.reduceEqDiff, Nat.reduceAdd, bx, List.map]; exact hs))); apply WpItems.eval)); (· simp only [go_sem, reduceIte, Nat.reduceEqDiff, Nat.reduceAdd, bx, ax, if_true, if_false, Nat.reduceMul, Nat.reduceLeDiff, d1]; exact rfl))
    | (refine WpItems.nil ⟨?_, ?_⟩; (· first | trivial | simp [pairsQ, pairsOk, apart, ent0]))
    | (apply Wp.cond_lit; (· simp only [go_sem, reduceIte, Nat.reduceEqDiff, Nat.reduceAdd, bx, ax, if_true, if_false, Nat.reduceMul, Nat.reduceLeDiff, d1]; exact rfl); (· rfl))
    | refine Wp.skip ?_
    | refine Wp.label ?_
    | refine Wp.block ?_
    | refine Wp.exit ?_
    | refine Wp.seq ?_)
  refine Wp.ret ⟨trivial, _, rfl, ?_⟩
  simp only [go_sem, reduceIte, Nat.reduceEqDiff, Nat.reduceAdd, bx]
  exact VSub.cap
theorem made0_p (l : List Sp) (hl : l.length ≤ 4611686018427387904) : PCalls Tryz.prog 159 [.sl 1 [] (.exact 0), .sl 2 (sps l) .any] (encO (madeB [] l)) := by
  refine f159.pcalls0 (by simp) (by simp [allPure, isPure, capPure, sps_pure]) (encO_pure _) ?_
  unfold c159
  refine Wp.seqReg (by simp only [go_sem, reduceIte, Nat.reduceEqDiff, Nat.reduceAdd, bx]; exact rfl) (by trivial) ?_
  refine Wp.frz (fun j => j == 0) [(0, .sl 1 [] (.exact 0)), (3, .ref [.sl 2 (sps l) .any]), (4, .ptr 1 0)] ⟨upd none' 1 (some (.cells [.sl 1 [] (.exact 0), .sl 2 [] (.exact 0)])), 2, [], 0⟩ ?_ ?_ (by simp) (by simp [go_sem]) (Nat.le_refl _) ?_
  · simp only [AllSub, go_sem, reduceIte, Nat.reduceEqDiff, unT, and_true, beq_self_eq_true, Nat.reduceBEq, Bool.false_eq_true]
    and_intros <;> exact VSub.refl _
  · intro j o h
    show ∃ o', _ ∧ OSub o' o
    refine ⟨o, ?_, OSub.refl o⟩
    simp only [upd, none'] at h
    split at h
    · rename_i e; subst e; cases h; simp [H.drop, upd]
    · cases h
  by_cases b2 : l.length ≤ 64
  · have d1 : decide ((64 : Int) < ((0 : Nat) : Int)) = false := rfl
    have d2 : decide ((64 : Int) < (l.length : Int)) = false := decide_eq_false (by omega)
    repeat (first
      | ((first | apply Wp.seqItems | apply Wp.items | ((first
          | (refine WpItems.pcall ?_ ?_ (del0_p (caps := [.ref [.sl 2 (sps l) .any]]) Tryz.func201 rfl (of_decide_eq_true (by kernel_rfl)) (by simp [allPure, isPure, capPure, sps_pure])) ?_; (· simp only [go_sem, reduceIte, Nat.reduceEqDiff, Nat.reduceAdd, bx]); (· simp only [go_sem, reduceIte, Nat.reduceEqDiff, Nat.reduceAdd, bx, List.map]; first | exact VSubs.refl _ | (repeat (first | exact VSubs.nil | refine VSubs.cons (by first | exact VSub.refl _ | assumption | exact VSub.cap | exact VSub.any _) ?_))))); apply WpItems.eval)); (· simp only [go_sem, reduceIte, Nat.reduceEqDiff, Nat.reduceAdd, bx, ax, if_true, if_false, Nat.reduceMul, Nat.reduceLeDiff, d1, d2, sps_length]; exact rfl))
      | (refine WpItems.nil ⟨?_, ?_⟩; (· first | trivial | simp [pairsQ, pairsOk, apart, ent0]))
      | (apply Wp.cond_lit; (· simp only [go_sem, reduceIte, Nat.reduceEqDiff, Nat.reduceAdd, bx, ax, if_true, if_false, Nat.reduceMul, Nat.reduceLeDiff, d1, d2, sps_length]; exact rfl); (· rfl))
      | refine Wp.skip ?_
      | refine Wp.label ?_
      | refine Wp.block ?_
      | refine Wp.exit ?_
      | refine Wp.seq ?_)
    refine Wp.ret ⟨trivial, _, rfl, ?_⟩
    simp only [go_sem, reduceIte, Nat.reduceEqDiff, Nat.reduceAdd, bx]
    simp only [madeB, List.filter_nil, List.length_nil, Nat.zero_le, decide_true, b2, Bool.and_self, if_true]
    exact VSub.refl _
  · have d1 : decide ((64 : Int) < ((0 : Nat) : Int)) = false := rfl
    have d2 : decide ((64 : Int) < (l.length : Int)) = true := decide_eq_true (by omega)
    repeat (first
      | ((first | apply Wp.seqItems | apply Wp.items | ((first
          | (refine WpItems.pcall ?_ ?_ (del0_p (caps := [.ref [.sl 2 (sps l) .any]]) Tryz.func201 rfl (of_decide_eq_true (by kernel_rfl)) (by simp [allPure, isPure, capPure, sps_pure])) ?_; (· simp only [go_sem, reduceIte, Nat.reduceEqDiff, Nat.reduceAdd, bx]); (· simp only [go_sem, reduceIte, Nat.reduceEqDiff, Nat.reduceAdd, bx, List.map]; first | exact VSubs.refl _ | (repeat (first | exact VSubs.nil | refine VSubs.cons (by first | exact VSub.refl _ | assumption | exact VSub.cap | exact VSub.any _) ?_))))); apply WpItems.eval)); (· simp only [go_sem, reduceIte, Nat.reduceEqDiff, Nat.reduceAdd, bx, ax, if_true, if_false, Nat.reduceMul, Nat.reduceLeDiff, d1, d2, sps_length]; exact rfl))
      | (refine WpItems.nil ⟨?_, ?_⟩; (· first | trivial | simp [pairsQ, pairsOk, apart, ent0]))
      | (apply Wp.cond_lit; (· simp only [go_sem, reduceIte, Nat.reduceEqDiff, Nat.reduceAdd, bx, ax, if_true, if_false, Nat.reduceMul, Nat.reduceLeDiff, d1, d2, sps_length]; exact rfl); (· rfl))
      | refine Wp.skip ?_
      | refine Wp.label ?_
      | refine Wp.block ?_
      | refine Wp.exit ?_
      | refine Wp.seq ?_)
    refine Wp.ret ⟨trivial, _, rfl, ?_⟩
    simp only [go_sem, reduceIte, Nat.reduceEqDiff, Nat.reduceAdd, bx]
    simp only [madeB, List.filter_nil, List.length_nil, Nat.zero_le, decide_true, decide_eq_false b2, Bool.and_false, Bool.false_eq_true, if_false]
    exact nil_sub 9
theorem made_p (ks : List Bs) (hk : ks.length ≤ 1152921504606846976) (l : List Sp) (hl : l.length ≤ 4611686018427387904) : DCalls Tryz.prog 159 (strs ks) ks.length [.sl 2 (sps l) .any] (encO (madeB ks l)) := by
  refine f159.dcalls (by simp) (strs_pure _) (by simp [allPure, isPure, capPure, sps_pure]) (encO_pure _) ?_
  unfold c159
  refine Wp.seqReg (by simp only [go_sem, reduceIte, Nat.reduceEqDiff, Nat.reduceAdd, bx]; exact rfl) (by trivial) ?_
  refine Wp.frz (fun j => j == 1) [(0, .tsl 1 0 0 ks.length none), (3, .ref [.sl 2 (sps l) .any]), (4, .ptr 2 0)] ⟨upd (upd none' 0 (some (.cells (strs ks)))) 2 (some (.cells [.sl 1 [] (.exact 0), .sl 2 [] (.exact 0)])), 3, [], 0⟩ ?_ ?_ (by simp) (by simp [go_sem]) (Nat.le_refl _) ?_
  · simp only [AllSub, go_sem, reduceIte, Nat.reduceEqDiff, unT, and_true, beq_self_eq_true, Nat.reduceBEq, Bool.false_eq_true, and_false]
    and_intros <;> exact VSub.refl _
  · intro j o h
    show ∃ o', _ ∧ OSub o' o
    refine ⟨o, ?_, OSub.refl o⟩
    simp only [upd, none'] at h
    split at h
    · rename_i e; subst e; cases h; simp [H.drop, H.only, upd]
    · split at h
      · rename_i e; subst e; cases h; simp [H.drop, H.only, upd]
      · cases h
  refine Wp.seqItems (by simp only [go_sem, reduceIte, Nat.reduceEqDiff, Nat.reduceAdd, bx]; exact rfl) ?_
  refine WpItems.dcall 0 (by simp only [go_sem]) (by simp only [go_sem, reduceIte, Nat.reduceEqDiff, List.map]; exact VSubs.refl _) (del_p ks hk (spanned l) (caps := [.ref [.sl 2 (sps l) .any]]) Tryz.func201 rfl (of_decide_eq_true (by kernel_rfl)) (by simp [allPure, isPure, capPure, sps_pure]) (fun c _ => made1_p l hl c)) (by simp [upd]) (by simp) ?_
  refine WpItems.eval (by simp only [go_sem, reduceIte, Nat.reduceEqDiff, Nat.reduceAdd, bx]; exact rfl) ?_
  refine WpItems.nil ⟨by trivial, ?_⟩
  have hf : (ks.filter fun x => !spanned l x).length ≤ ks.length := List.length_filter_le _ _
  generalize hg : ks.filter (fun x => !spanned l x) = k2 at hf
  have hB : madeB ks l = if decide (k2.length ≤ 64) && decide (l.length ≤ 64) then (k2, l, 0) else ([], [], 9) := by rw [madeB, hg]
  rw [hB]
  by_cases b1 : k2.length ≤ 64
  · have d1 : decide ((64 : Int) < (k2.length : Int)) = false := decide_eq_false (by omega)
    by_cases b2 : l.length ≤ 64
    · have d2 : decide ((64 : Int) < (l.length : Int)) = false := decide_eq_false (by omega)
      repeat (first
        | ((first | apply Wp.seqItems | apply Wp.items); (· simp only [go_sem, reduceIte, Nat.reduceEqDiff, Nat.reduceAdd, bx, ax, if_true, if_false, Nat.reduceMul, Nat.reduceLeDiff, d1, d2, sps_length, strs_length]; exact rfl))
        | (refine WpItems.nil ⟨?_, ?_⟩; (· first | trivial | simp [pairsQ, pairsOk, apart, ent0]))
        | (apply Wp.cond_lit; (· simp only [go_sem, reduceIte, Nat.reduceEqDiff, Nat.reduceAdd, bx, ax, if_true, if_false, Nat.reduceMul, Nat.reduceLeDiff, d1, d2, sps_length, strs_length]; exact rfl); (· rfl))
        | refine Wp.skip ?_
        | refine Wp.label ?_
        | refine Wp.block ?_
        | refine Wp.exit ?_
        | refine Wp.seq ?_)
      refine Wp.ret ⟨trivial, _, rfl, ?_⟩
      simp only [go_sem, reduceIte, Nat.reduceEqDiff, Nat.reduceAdd, bx, unT, unTs]
      simp only [b1, b2, decide_true, Bool.and_self, if_true]
      exact VSub.refl _
    · have d2 : decide ((64 : Int) < (l.length : Int)) = true := decide_eq_true (by omega)
      repeat (first
        | ((first | apply Wp.seqItems | apply Wp.items); (· simp only [go_sem, reduceIte, Nat.reduceEqDiff, Nat.reduceAdd, bx, ax, if_true, if_false, Nat.reduceMul, Nat.reduceLeDiff, d1, d2, sps_length, strs_length]; exact rfl))
        | (refine WpItems.nil ⟨?_, ?_⟩; (· first | trivial | simp [pairsQ, pairsOk, apart, ent0]))
        | (apply Wp.cond_lit; (· simp only [go_sem, reduceIte, Nat.reduceEqDiff, Nat.reduceAdd, bx, ax, if_true, if_false, Nat.reduceMul, Nat.reduceLeDiff, d1, d2, sps_length, strs_length]; exact rfl); (· rfl))
        | refine Wp.skip ?_
        | refine Wp.label ?_
        | refine Wp.block ?_
        | refine Wp.exit ?_
        | refine Wp.seq ?_)
      refine Wp.ret ⟨trivial, _, rfl, ?_⟩
      simp only [go_sem, reduceIte, Nat.reduceEqDiff, Nat.reduceAdd, bx, unT, unTs]
      simp only [decide_eq_false b2, Bool.and_false, Bool.false_eq_true, if_false]
      exact nil_sub 9
  · have d1 : decide ((64 : Int) < (k2.length : Int)) = true := decide_eq_true (by omega)
    repeat (first
      | ((first | apply Wp.seqItems | apply Wp.items); (· simp only [go_sem, reduceIte, Nat.reduceEqDiff, Nat.reduceAdd, bx, ax, if_true, if_false, Nat.reduceMul, Nat.reduceLeDiff, d1, sps_length, strs_length]; exact rfl))
      | (refine WpItems.nil ⟨?_, ?_⟩; (· first | trivial | simp [pairsQ, pairsOk, apart, ent0]))
      | (apply Wp.cond_lit; (· simp only [go_sem, reduceIte, Nat.reduceEqDiff, Nat.reduceAdd, bx, ax, if_true, if_false, Nat.reduceMul, Nat.reduceLeDiff, d1, sps_length, strs_length]; exact rfl); (· rfl))
      | refine Wp.skip ?_
      | refine Wp.label ?_
      | refine Wp.block ?_
      | refine Wp.exit ?_
      | refine Wp.seq ?_)
    refine Wp.ret ⟨trivial, _, rfl, ?_⟩
    simp only [go_sem, reduceIte, Nat.reduceEqDiff, Nat.reduceAdd, bx, unT, unTs]
    simp only [decide_eq_false b1, Bool.false_and, Bool.false_eq_true, if_false]
    exact nil_sub 9
theorem rising {k : List Bs} {l : List Sp} (h : ksOk k l = true) {i : Nat} : ∀ {j}, i < j → j < k.length → Op.bytesLess (k.getD i []) (k.getD j []) = true
  | 0, hij, _ => absurd hij (by omega)
  | j + 1, hij, hj => by
    have h1 := List.all_eq_true.1 h (j + 1) (List.mem_range.2 hj)
    simp only [kOk, Nat.add_sub_cancel, Bool.and_eq_true, Bool.or_eq_true, decide_eq_true_eq] at h1
    have h2 : Op.bytesLess (k.getD j []) (k.getD (j + 1) []) = true := by
      rcases h1.1 with e | e
      · omega
      · exact e
    by_cases e : i = j
    · subst e; exact h2
    · exact less_trans (rising h (i := i) (j := j) (by omega) (by omega)) h2
def place (k : List Bs) (key : Bs) : Nat := k.findIdx fun x => !Op.bytesLess x key
def there (k : List Bs) (key : Bs) : Bool := decide (place k key < k.length) && decide (k.getD (place k key) [] = key)
theorem place_le (k : List Bs) (key : Bs) : place k key ≤ k.length := List.findIdx_le_length
theorem place_lt {k : List Bs} {key : Bs} {i : Nat} (h : i < place k key) : Op.bytesLess (k.getD i []) key = true := by
  have hl : i < k.length := Nat.lt_of_lt_of_le h (place_le k key)
  have := List.not_of_lt_findIdx h
  rw [getD_el hl]
  simpa using this
theorem place_ge {k : List Bs} {l : List Sp} {key : Bs} (hk : ksOk k l = true) {i : Nat} (h : place k key ≤ i) (hl : i < k.length) : Op.bytesLess (k.getD i []) key = false := by
  have hp : place k key < k.length := Nat.lt_of_le_of_lt h hl
  have h1 : Op.bytesLess (k.getD (place k key) []) key = false := by
    have := List.findIdx_getElem (p := fun x => !Op.bytesLess x key) (xs := k) (w := hp)
    rw [getD_el hp]
    have h2 : (!Op.bytesLess (k[place k key]'hp) key) = true := this
    simpa using h2
  by_cases e : i = place k key
  · rw [e]; exact h1
  · have h2 := rising hk (i := place k key) (j := i) (by omega) hl
    cases hc : Op.bytesLess (k.getD i []) key with
    | false => rfl
    | true => rw [less_trans h2 hc] at h1; cases h1
theorem search_p {k : List Bs} {l : List Sp} (hk : ksOk k l = true) (hl : k.length ≤ 64) (key : Bs) : PCalls Tryz.prog 155 [.sl 1 (strs k) .any, .str key] (.tup [.int .i64 (place k key), .bool (there k key)]) :=
  bsearch_p k (by omega) key (place k key) (place_le k key) (fun i h => place_lt h) (fun i h hi => place_ge hk h hi)
end Go.Proofs.YtkcgpcbpieofnaaGreatDoor.Reads
end
section
set_option linter.unusedSimpArgs false
set_option linter.unusedVariables false
set_option maxRecDepth 10000
namespace Go.Proofs.YtkcgpcbpieofnaaGreatDoor.Reads
open Go Go.Av Go.Proofs Go.Proofs.YtkcgpcbpieofnaaGreatDoor.C Go.Proofs.YtkcgpcbpieofnaaGreatDoor.Batch
def insK (k : List Bs) (key : Bs) : List Bs := if there k key then k else k.take (place k key) ++ key :: k.drop (place k key)
def keyB (k : List Bs) (l : List Sp) (key : Bs) : List Bs × List Sp × Int := if checkB k l then madeB (insK k key) l else ([], [], 4)
theorem strs_cells (l : List Bs) : (strs l).flatMap cellsOf = strs l := by
  induction l with
  | nil => rfl
  | cons s l ih => simp only [strs, List.map_cons, List.flatMap_cons] at ih ⊢; rw [ih]; rfl
theorem strs_shaped (l : List Bs) : (strs l).all shaped = true := by
  simp [strs, shaped, isCell]
theorem cloneK_p (k : List Bs) (h0 : k ≠ []) (hl : k.length ≤ 1000000) (n m : Nat) : ACalls Tryz.prog 160 [.sl 1 (strs k) .any] (H0 n m) (.tsl 1 n 0 k.length none) (.only (upd none' n (some (.cells (strs k)))) [] (n + 1) m) := by
  cases k with
  | nil => exact absurd rfl h0
  | cons s k =>
    have := cloneT_gen (sz := 1) (bytes := 16) f160 (.str s) (strs k) (strs_shaped (s :: k)) (by rw [strs_length]; simp only [List.length_cons] at hl; omega) (by rw [strs_length]; simp only [List.length_cons] at hl; omega) n m
    rw [strs_length] at this
    have e : (AV.str s :: strs k).flatMap cellsOf = strs (s :: k) := strs_cells (s :: k)
    rw [e] at this
    exact this
theorem cloneS_p (l : List Sp) (hl : l.length ≤ 1000000) : PCalls Tryz.prog 157 [.sl 2 (sps l) .any] (.sl 2 (sps l) .any) :=
  clone_gen (sz := 2) (bytes := 32) f157 (sps l) (sps_pure l) (by rw [sps_length]; omega) (by rw [sps_length]; omega)
theorem check_ok {k : List Bs} {l : List Sp} (h : checkB k l = true) : k.length ≤ 64 ∧ l.length ≤ 64 ∧ spsOk l = true ∧ ksOk k l = true := by
  simp only [checkB, Bool.and_eq_true, decide_eq_true_eq] at h
  exact ⟨h.1.1.1, h.1.1.2, h.1.2, h.2⟩
theorem key_p (k : List Bs) (l : List Sp) (key : Bs) : PCalls Tryz.prog 169 [encR k l, .str key] (encO (keyB k l key)) := by
  refine f169.pcallsF (by simp) (by simp [allPure, encR_pure, isPure]) (encO_pure _) ?_
  unfold c169
  have hck := check_p k l
  cases hc : checkB k l with
  | false =>
    rw [hc] at hck
    simp only [Bool.false_eq_true, if_false] at hck
    have d1 : decide ((4 : Int) = 0) = false := rfl
    repeat (first
      | ((first | apply Wp.seqItems | apply Wp.items | ((first
          | (refine WpItems.pcall ?_ ?_ (hck) ?_; (· simp only [go_sem, reduceIte, Nat.reduceEqDiff, Nat.reduceAdd, bx]); (· simp only [go_sem, reduceIte, Nat.reduceEqDiff, Nat.reduceAdd, bx, List.map]; first | exact VSubs.refl _ | (repeat (first | exact VSubs.nil | refine VSubs.cons (by first | exact VSub.refl _ | assumption | exact VSub.cap | exact VSub.any _) ?_))))); apply WpItems.eval)); (· simp only [go_sem, reduceIte, Nat.reduceEqDiff, Nat.reduceAdd, bx, ax, if_true, if_false, Nat.reduceMul, Nat.reduceLeDiff, encR, d1]; exact rfl))
      | (refine WpItems.nil ⟨?_, ?_⟩; (· first | trivial | simp [pairsQ, pairsOk, apart, ent0]))
      | (apply Wp.cond_lit; (· simp only [go_sem, reduceIte, Nat.reduceEqDiff, Nat.reduceAdd, bx, ax, if_true, if_false, Nat.reduceMul, Nat.reduceLeDiff, encR, d1]; exact rfl); (· rfl))
      | refine Wp.skip ?_
      | refine Wp.label ?_
      | refine Wp.block ?_
      | refine Wp.exit ?_
      | refine Wp.seq ?_)
    refine Wp.ret ⟨trivial, _, rfl, ?_⟩
    simp only [go_sem, reduceIte, Nat.reduceEqDiff, Nat.reduceAdd, bx, unT, unTs]
    simp only [keyB, hc, Bool.false_eq_true, if_false]
    exact nil_sub 4
  | true =>
    rw [hc] at hck
    simp only [if_true] at hck
    have d1 : decide ((0 : Int) = 0) = true := rfl
    obtain ⟨b1, b2, b3, b4⟩ := check_ok hc
    have hse := search_p b4 b1 key
    have hpl := place_le k key
    rw [show keyB k l key = madeB (insK k key) l by simp [keyB, hc]]
    repeat (first
      | ((first | apply Wp.seqItems | apply Wp.items | ((first
          | (refine WpItems.pcall ?_ ?_ (hck) ?_; (· simp only [go_sem, reduceIte, Nat.reduceEqDiff, Nat.reduceAdd, bx]); (· simp only [go_sem, reduceIte, Nat.reduceEqDiff, Nat.reduceAdd, bx, List.map]; first | exact VSubs.refl _ | (repeat (first | exact VSubs.nil | refine VSubs.cons (by first | exact VSub.refl _ | assumption | exact VSub.cap | exact VSub.any _) ?_))))); apply WpItems.eval)); (· simp only [go_sem, reduceIte, Nat.reduceEqDiff, Nat.reduceAdd, bx, ax, if_true, if_false, Nat.reduceMul, Nat.reduceLeDiff, encR, d1]; exact rfl))
      | (refine WpItems.nil ⟨?_, ?_⟩; (· first | trivial | simp [pairsQ, pairsOk, apart, ent0]))
      | (apply Wp.cond_lit; (· simp only [go_sem, reduceIte, Nat.reduceEqDiff, Nat.reduceAdd, bx, ax, if_true, if_false, Nat.reduceMul, Nat.reduceLeDiff, encR, d1]; exact rfl); (· rfl))
      | refine Wp.skip ?_
      | refine Wp.label ?_
      | refine Wp.block ?_
      | refine Wp.exit ?_
      | refine Wp.seq ?_)
    by_cases hk0 : k = []
    · subst hk0
      refine WpItems.pcall (by simp only [go_sem]) (by simp only [go_sem, reduceIte, Nat.reduceEqDiff, List.map]; exact VSubs.refl _) (cloneE_gen (sz := 1) (bytes := 16) f160) ?_
      refine WpItems.eval (by simp only [go_sem, reduceIte, Nat.reduceEqDiff, Nat.reduceAdd, bx]; exact rfl) ?_
      refine WpItems.nil ⟨by trivial, ?_⟩
      refine Wp.seq ?_
      refine Wp.seqItems (by simp only [go_sem, reduceIte, Nat.reduceEqDiff, Nat.reduceAdd, bx]; exact rfl) ?_
      refine WpItems.pcall (by simp only [go_sem]) (by simp only [go_sem, reduceIte, Nat.reduceEqDiff, List.map]; exact VSubs.cons VSub.cap (VSubs.refl _)) hse ?_
      refine WpItems.eval (by simp only [go_sem, reduceIte, Nat.reduceEqDiff, Nat.reduceAdd, bx]; exact rfl) ?_
      refine WpItems.nil ⟨by trivial, ?_⟩
      have ht : there [] key = false := rfl
      have hp0 : place [] key = 0 := rfl
      have e : insK [] key = [key] := rfl
      rw [e, ht, hp0]
      refine Wp.seqReg (by simp only [go_sem, reduceIte, Nat.reduceEqDiff, Nat.reduceAdd, bx]; exact rfl) (by trivial) ?_
      refine Wp.cond_true (by simp only [go_sem, reduceIte, Nat.reduceEqDiff, Nat.reduceAdd, bx]) ?_
      refine Wp.regN ?_
      refine WpItemsN.op (by simp only [go_sem, reduceIte, Nat.reduceEqDiff, Nat.reduceAdd, bx]) (by simp only [go_sem, reduceIte, Nat.reduceEqDiff, Nat.reduceAdd, bx]; exact rfl) ?_
      refine WpItemsN.op (by simp only [go_sem, reduceIte, Nat.reduceEqDiff, Nat.reduceAdd, bx]) (by simp only [go_sem, reduceIte, Nat.reduceEqDiff, Nat.reduceAdd, bx]; exact rfl) ?_
      refine WpItemsN.op (by simp only [go_sem, reduceIte, Nat.reduceEqDiff, Nat.reduceAdd, bx]) (by simp only [go_sem, reduceIte, Nat.reduceEqDiff, Nat.reduceAdd, bx]; exact rfl) ?_
      refine WpItemsN.opT (by simp only [go_sem, reduceIte, Nat.reduceEqDiff, Nat.reduceAdd, bx]) (by simp only [aopT, go_sem, reduceIte, Nat.reduceEqDiff, Nat.reduceAdd, bx, List.all_cons, List.all_nil, List.length_cons, List.length_nil, Nat.reduceMul, Nat.reduceLeDiff, and_self, if_true, decide_true, Bool.and_self]; exact rfl) ?_
      refine WpItemsN.acall (by simp only [go_sem]) (by simp only [go_sem, reduceIte, Nat.reduceEqDiff, List.map]; exact VSubs.refl _) (insert_e key (id2 := 2) (h := .only (upd none' 2 (some (.cells [.str key]))) [] 3 0) (by simp [H.only, upd]) rfl) (touch_turn _ (id := 2) (ob := .cells [.str key]) (by simp [upd, cellsOf]) (by simp)) ?_
      refine WpItemsN.op (by simp only [go_sem, reduceIte, Nat.reduceEqDiff, Nat.reduceAdd, bx]) (by simp only [go_sem, reduceIte, Nat.reduceEqDiff, Nat.reduceAdd, bx]; exact rfl) ?_
      refine WpItems.toN (log := []) (WpItems.nil ?_)
      refine Wp.seqItems (by simp only [go_sem, reduceIte, Nat.reduceEqDiff, Nat.reduceAdd, bx, H.turn]; exact rfl) ?_
      refine WpItems.pcall (by simp only [go_sem, reduceIte, Nat.reduceEqDiff, Nat.reduceAdd, bx]) (by simp only [go_sem, reduceIte, Nat.reduceEqDiff, Nat.reduceAdd, bx, List.map]; exact VSubs.refl _) (cloneS_p l (by omega)) ?_
      refine WpItems.eval (by simp only [go_sem, reduceIte, Nat.reduceEqDiff, Nat.reduceAdd, bx]; exact rfl) ?_
      refine WpItems.dcall 3 (by simp only [go_sem]) (by simp only [go_sem, reduceIte, Nat.reduceEqDiff, List.map]; exact VSubs.refl _) (made_p [key] (by simp) l (by omega)) (by simp [upd]) (by simp) ?_
      refine WpItems.eval (by simp only [go_sem, reduceIte, Nat.reduceEqDiff, Nat.reduceAdd, bx, encO, encR]; exact rfl) ?_
      refine WpItems.nil ⟨by trivial, ?_⟩
      refine Wp.ret ⟨trivial, _, rfl, ?_⟩
      simp only [go_sem, reduceIte, Nat.reduceEqDiff, Nat.reduceAdd, bx, unT, unTs]
      exact VSub.refl _
    · refine WpItems.acall (by simp only [go_sem]) (by simp only [go_sem, reduceIte, Nat.reduceEqDiff, List.map]; exact VSubs.refl _) (cloneK_p k hk0 (by omega) _ _) (touch_new _ _) ?_
      refine WpItems.eval (by simp only [go_sem, reduceIte, Nat.reduceEqDiff, Nat.reduceAdd, bx]; exact rfl) ?_
      refine WpItems.nil ⟨by trivial, ?_⟩
      refine Wp.seq ?_
      refine Wp.seqItems (by simp only [go_sem, reduceIte, Nat.reduceEqDiff, Nat.reduceAdd, bx]; exact rfl) ?_
      have look : RCalls Tryz.prog 155 [.tsl 1 2 0 k.length none, .str key] (upd none' 2 (some (.cells (strs k)))) (.tup [.int .i64 (place k key), .bool (there k key)]) := by
        have := hse.look (fun G G' w v h => by simpa only [VRel, VRels] using h) none 2
        rwa [strs_length] at this
      refine WpItems.rcall [2] (by simp only [go_sem]) (by simp only [go_sem, reduceIte, Nat.reduceEqDiff, List.map]; exact VSubs.refl _) (fun id o h => by simp only [upd, none'] at h ⊢; split at h <;> simp_all) (fun id h => by simp only [upd, none'] at h; split at h <;> simp_all) look ?_
      refine WpItems.eval (by simp only [go_sem, reduceIte, Nat.reduceEqDiff, Nat.reduceAdd, bx]; exact rfl) ?_
      refine WpItems.nil ⟨by trivial, ?_⟩
      cases ht : there k key with
      | true =>
        have e : insK k key = k := by simp [insK, ht]
        rw [e]
        repeat (first
          | ((first | apply Wp.seqItems | apply Wp.items); (· simp only [go_sem, reduceIte, Nat.reduceEqDiff, Nat.reduceAdd, bx, ax, if_true, if_false, Nat.reduceMul, Nat.reduceLeDiff, ht]; exact rfl))
          | (refine WpItems.nil ⟨?_, ?_⟩; (· first | trivial | simp [pairsQ, pairsOk, apart, ent0]))
          | (apply Wp.cond_lit; (· simp only [go_sem, reduceIte, Nat.reduceEqDiff, Nat.reduceAdd, bx, ax, if_true, if_false, Nat.reduceMul, Nat.reduceLeDiff, ht]; exact rfl); (· rfl))
          | refine Wp.skip ?_
          | refine Wp.label ?_
          | refine Wp.block ?_
          | refine Wp.exit ?_
          | refine Wp.seq ?_)
        refine WpItems.pcall (by simp only [go_sem, reduceIte, Nat.reduceEqDiff, Nat.reduceAdd, bx]) (by simp only [go_sem, reduceIte, Nat.reduceEqDiff, Nat.reduceAdd, bx, List.map]; exact VSubs.refl _) (cloneS_p l (by omega)) ?_
        refine WpItems.eval (by simp only [go_sem, reduceIte, Nat.reduceEqDiff, Nat.reduceAdd, bx]; exact rfl) ?_
        refine WpItems.dcall 2 (by simp only [go_sem]) (by simp only [go_sem, reduceIte, Nat.reduceEqDiff, List.map]; exact VSubs.refl _) (made_p k (by omega) l (by omega)) (by simp [upd]) (by simp) ?_
        refine WpItems.eval (by simp only [go_sem, reduceIte, Nat.reduceEqDiff, Nat.reduceAdd, bx, encO, encR]; exact rfl) ?_
        refine WpItems.nil ⟨by trivial, ?_⟩
        refine Wp.ret ⟨trivial, _, rfl, ?_⟩
        simp only [go_sem, reduceIte, Nat.reduceEqDiff, Nat.reduceAdd, bx, unT, unTs]
        exact VSub.refl _
      | false =>
        have e : insK k key = k.take (place k key) ++ key :: k.drop (place k key) := by simp [insK, ht]
        rw [e]
        have hpos : 0 < k.length := List.length_pos_iff.2 hk0
        have hln : (k.take (place k key) ++ key :: k.drop (place k key)).length = k.length + 1 := by
          simp only [List.length_append, List.length_cons, List.length_take, List.length_drop]; omega
        refine Wp.seqReg (by simp only [go_sem, reduceIte, Nat.reduceEqDiff, Nat.reduceAdd, bx]; exact rfl) (by trivial) ?_
        refine Wp.cond_true (by simp only [go_sem, reduceIte, Nat.reduceEqDiff, Nat.reduceAdd, bx]) ?_
        refine Wp.regN ?_
        refine WpItemsN.op (by simp only [go_sem, reduceIte, Nat.reduceEqDiff, Nat.reduceAdd, bx]) (by simp only [go_sem, reduceIte, Nat.reduceEqDiff, Nat.reduceAdd, bx]; exact rfl) ?_
        refine WpItemsN.op (by simp only [go_sem, reduceIte, Nat.reduceEqDiff, Nat.reduceAdd, bx]) (by simp only [go_sem, reduceIte, Nat.reduceEqDiff, Nat.reduceAdd, bx]; exact rfl) ?_
        refine WpItemsN.op (by simp only [go_sem, reduceIte, Nat.reduceEqDiff, Nat.reduceAdd, bx]) (by simp only [go_sem, reduceIte, Nat.reduceEqDiff, Nat.reduceAdd, bx]; exact rfl) ?_
        refine WpItemsN.opT (by simp only [go_sem, reduceIte, Nat.reduceEqDiff, Nat.reduceAdd, bx]) (by simp only [aopT, go_sem, reduceIte, Nat.reduceEqDiff, Nat.reduceAdd, bx, List.all_cons, List.all_nil, List.length_cons, List.length_nil, Nat.reduceMul, Nat.reduceLeDiff, and_self, if_true, decide_true, Bool.and_self]; exact rfl) ?_
        refine WpItemsN.acall (by simp only [go_sem]) (by simp only [go_sem, reduceIte, Nat.reduceEqDiff, List.map]; exact VSubs.refl _) (insert_t k (place k key) key hpl (by omega) hpos (id := 2) (id2 := 3) (h := .only (upd (upd none' 2 (some (.cells (strs k)))) 3 (some (.cells [.str key]))) [] 4 0) (by decide) (by simp [H.only, upd]) (by simp [H.only, upd]) rfl) (touch_turn2 _ (id := 2) (id2 := 3) (ob := .cells (strs k)) (ob2 := .cells [.str key]) (by simp [upd]) (by simp [upd, cellsOf]) (by decide) (by simp) (by simp)) ?_
        refine WpItemsN.op (by simp only [go_sem, reduceIte, Nat.reduceEqDiff, Nat.reduceAdd, bx]) (by simp only [go_sem, reduceIte, Nat.reduceEqDiff, Nat.reduceAdd, bx]; exact rfl) ?_
        refine WpItems.toN (log := []) (WpItems.nil ?_)
        refine Wp.seqItems (by simp only [go_sem, reduceIte, Nat.reduceEqDiff, Nat.reduceAdd, bx, H.turn]; exact rfl) ?_
        refine WpItems.pcall (by simp only [go_sem, reduceIte, Nat.reduceEqDiff, Nat.reduceAdd, bx]) (by simp only [go_sem, reduceIte, Nat.reduceEqDiff, Nat.reduceAdd, bx, List.map]; exact VSubs.refl _) (cloneS_p l (by omega)) ?_
        refine WpItems.eval (by simp only [go_sem, reduceIte, Nat.reduceEqDiff, Nat.reduceAdd, bx]; exact rfl) ?_
        have hmd := made_p (k.take (place k key) ++ key :: k.drop (place k key)) (by omega) l (by omega)
        rw [hln] at hmd
        refine WpItems.dcall 4 (by simp only [go_sem]) (by simp only [go_sem, reduceIte, Nat.reduceEqDiff, List.map]; exact VSubs.refl _) hmd (by simp [upd]) (by simp) ?_
        refine WpItems.eval (by simp only [go_sem, reduceIte, Nat.reduceEqDiff, Nat.reduceAdd, bx, encO, encR]; exact rfl) ?_
        refine WpItems.nil ⟨by trivial, ?_⟩
        refine Wp.ret ⟨trivial, _, rfl, ?_⟩
        simp only [go_sem, reduceIte, Nat.reduceEqDiff, Nat.reduceAdd, bx, unT, unTs]
        exact VSub.refl _
end Go.Proofs.YtkcgpcbpieofnaaGreatDoor.Reads
end
section
set_option linter.unusedSimpArgs false
set_option linter.unusedVariables false
set_option maxRecDepth 10000
namespace Go.Proofs.YtkcgpcbpieofnaaGreatDoor.Reads
open Go Go.Av Go.Proofs Go.Proofs.YtkcgpcbpieofnaaGreatDoor.C Go.Proofs.YtkcgpcbpieofnaaGreatDoor.Batch
structure SS where
  x : Sp
  laid : Bool
  out : List Sp
def stepS (s : SS) (y : Sp) : SS :=
  if apartB y s.x = true then ⟨s.x, s.laid, s.out ++ [y]⟩
  else if apartB s.x y = false then ⟨joinB s.x y, s.laid, s.out⟩
  else if s.laid = false then ⟨s.x, true, s.out ++ [s.x] ++ [y]⟩ else ⟨s.x, true, s.out ++ [y]⟩
def spanGo (l : List Sp) (x : Sp) : SS := l.foldl stepS ⟨x, false, []⟩
def spanL (l : List Sp) (x : Sp) : List Sp := if (spanGo l x).laid = true then (spanGo l x).out else (spanGo l x).out ++ [(spanGo l x).x]
def spanB (k : List Bs) (l : List Sp) (x : Sp) : List Bs × List Sp × Int := if checkB k l then madeB k (if hasB x = true then spanL l x else l) else ([], [], 4)
theorem sub2 {g : Nat → Option Av.Obj} {A B : Av.Obj} (h1 : g 1 = some A) (h2 : g 2 = some B) : OLe g (upd (upd none' 1 (some A)) 2 (some B)) := OLe.put (OLe.at h1) h2 (OSub.refl _)
abbrev res0 : Av.Obj := .cells [.sl 1 [] (.exact 0), .sl 2 [] (.exact 0)]
def hS (x : Sp) (tk n m : Nat) : H := ⟨upd (upd none' 1 (some res0)) 2 (some (.cells [.str x.f, .str x.t])), n, [tk], m⟩
theorem rooms32 {a : Nat} (h : a ≤ 128) : ((a + 1) * 32 ≤ 140737488355328 ∧ a + 1 < 4611686018427387904) ∧ (a + 1 + 1) * 32 ≤ 140737488355328 ∧ a + 1 + 1 < 4611686018427387904 := by omega
set_option maxHeartbeats 1000000 in
theorem span_p (k : List Bs) (l : List Sp) (x : Sp) : PCalls Tryz.prog 121 [encR k l, .str x.f, .str x.t] (encO (spanB k l x)) := by
  refine f121.pcallsF (by simp) (by simp [allPure, encR_pure, isPure]) (encO_pure _) ?_
  unfold c121
  have hck := check_p k l
  refine Wp.seqReg (by simp only [go_sem, reduceIte, Nat.reduceEqDiff, Nat.reduceAdd, bx, encR]; exact rfl) (by trivial) ?_
  refine Wp.frz (fun j => j == 0) [(1, .str x.f), (2, .str x.t), (3, .ref [.sl 1 (strs k) .any, .sl 2 (sps l) .any]), (6, .ptr 1 0)] ⟨upd none' 1 (some res0), 2, [], 0⟩ ?_ ?_ (by simp) (by simp [go_sem]) (Nat.le_refl _) ?_
  · simp only [AllSub, go_sem, reduceIte, Nat.reduceEqDiff, unT, and_true, beq_self_eq_true, Nat.reduceBEq, Bool.false_eq_true]
    and_intros <;> exact VSub.refl _
  · intro j o h
    show ∃ o', _ ∧ OSub o' o
    refine ⟨o, ?_, OSub.refl o⟩
    simp only [upd, none'] at h
    split at h
    · rename_i e; subst e; cases h; simp [H.drop, upd]
    · cases h
  refine Wp.straight ?_
  cases hc : checkB k l with
  | false =>
    rw [hc] at hck
    simp only [Bool.false_eq_true, if_false] at hck
    have d1 : decide ((4 : Int) = 0) = false := rfl
    repeat (first
      | ((first | apply Wp.seqItems | apply Wp.items | ((first
          | (refine WpItems.pcall ?_ ?_ (hck) ?_; (· simp only [go_sem, reduceIte, Nat.reduceEqDiff, Nat.reduceAdd, bx]); (· simp only [go_sem, reduceIte, Nat.reduceEqDiff, Nat.reduceAdd, bx, List.map]; first | exact VSubs.refl _ | (repeat (first | exact VSubs.nil | refine VSubs.cons (by first | exact VSub.refl _ | assumption | exact VSub.cap | exact VSub.any _) ?_))))); apply WpItems.eval)); (· simp only [go_sem, reduceIte, Nat.reduceEqDiff, Nat.reduceAdd, bx, ax, if_true, if_false, Nat.reduceMul, Nat.reduceLeDiff, d1]; exact rfl))
      | (refine WpItems.nil ⟨?_, ?_⟩; (· first | trivial | simp [pairsQ, pairsOk, apart, ent0]))
      | (apply Wp.cond_lit; (· simp only [go_sem, reduceIte, Nat.reduceEqDiff, Nat.reduceAdd, bx, ax, if_true, if_false, Nat.reduceMul, Nat.reduceLeDiff, d1]; exact rfl); (· rfl))
      | refine Wp.skip ?_
      | refine Wp.label ?_
      | refine Wp.block ?_
      | refine Wp.exit ?_
      | refine Wp.seq ?_)
    refine Wp.ret ⟨trivial, _, rfl, ?_⟩
    simp only [go_sem, reduceIte, Nat.reduceEqDiff, Nat.reduceAdd, bx, unT, unTs]
    simp only [spanB, hc, Bool.false_eq_true, if_false]
    exact nil_sub 4
  | true =>
    rw [hc] at hck
    simp only [if_true] at hck
    have d1 : decide ((0 : Int) = 0) = true := rfl
    obtain ⟨b1, b2, b3, b4⟩ := check_ok hc
    cases hB : hasB x with
    | false =>
      rw [show spanB k l x = madeB k l by simp [spanB, hc, hB]]
      repeat (first
        | ((first | apply Wp.seqItems | apply Wp.items | ((first
            | (refine WpItems.pcall ?_ ?_ (hck) ?_; (· simp only [go_sem, reduceIte, Nat.reduceEqDiff, Nat.reduceAdd, bx]); (· simp only [go_sem, reduceIte, Nat.reduceEqDiff, Nat.reduceAdd, bx, List.map]; first | exact VSubs.refl _ | (repeat (first | exact VSubs.nil | refine VSubs.cons (by first | exact VSub.refl _ | assumption | exact VSub.cap | exact VSub.any _) ?_))))
            | (refine WpItems.pcall ?_ ?_ (cloneS_p l (by omega)) ?_; (· simp only [go_sem, reduceIte, Nat.reduceEqDiff, Nat.reduceAdd, bx]); (· simp only [go_sem, reduceIte, Nat.reduceEqDiff, Nat.reduceAdd, bx, List.map]; first | exact VSubs.refl _ | (repeat (first | exact VSubs.nil | refine VSubs.cons (by first | exact VSub.refl _ | assumption | exact VSub.cap | exact VSub.any _) ?_))))
            | (refine WpItems.pcall ?_ ?_ (has_p x) ?_; (· simp only [go_sem, reduceIte, Nat.reduceEqDiff, Nat.reduceAdd, bx]); (· simp only [go_sem, reduceIte, Nat.reduceEqDiff, Nat.reduceAdd, bx, List.map]; first | exact VSubs.refl _ | (repeat (first | exact VSubs.nil | refine VSubs.cons (by first | exact VSub.refl _ | assumption | exact VSub.cap | exact VSub.any _) ?_))))); apply WpItems.eval)); (· simp only [go_sem, reduceIte, Nat.reduceEqDiff, Nat.reduceAdd, bx, ax, if_true, if_false, Nat.reduceMul, Nat.reduceLeDiff, d1, hB, encSp]; exact rfl))
        | (refine WpItems.nil ⟨?_, ?_⟩; (· first | trivial | simp [pairsQ, pairsOk, apart, ent0]))
        | (apply Wp.cond_lit; (· simp only [go_sem, reduceIte, Nat.reduceEqDiff, Nat.reduceAdd, bx, ax, if_true, if_false, Nat.reduceMul, Nat.reduceLeDiff, d1, hB, encSp]; exact rfl); (· rfl))
        | refine Wp.skip ?_
        | refine Wp.label ?_
        | refine Wp.block ?_
        | refine Wp.exit ?_
        | refine Wp.seq ?_)
      by_cases hk0 : k = []
      · subst hk0
        refine WpItems.pcall (by simp only [go_sem]) (by simp only [go_sem, reduceIte, Nat.reduceEqDiff, List.map]; exact VSubs.refl _) (cloneE_gen (sz := 1) (bytes := 16) f160) ?_
        refine WpItems.eval (by simp only [go_sem, reduceIte, Nat.reduceEqDiff, Nat.reduceAdd, bx]; exact rfl) ?_
        refine WpItems.pcall (by simp only [go_sem, reduceIte, Nat.reduceEqDiff, Nat.reduceAdd, bx]) (by simp only [go_sem, reduceIte, Nat.reduceEqDiff, Nat.reduceAdd, bx, List.map]; exact VSubs.refl _) (made0_p l (by omega)) ?_
        refine WpItems.eval (by simp only [go_sem, reduceIte, Nat.reduceEqDiff, Nat.reduceAdd, bx, encO, encR]; exact rfl) ?_
        refine WpItems.nil ⟨by trivial, ?_⟩
        refine Wp.ret ⟨trivial, _, rfl, ?_⟩
        simp only [go_sem, reduceIte, Nat.reduceEqDiff, Nat.reduceAdd, bx, unT, unTs]
        exact VSub.refl _
      · refine WpItems.acall (by simp only [go_sem]) (by simp only [go_sem, reduceIte, Nat.reduceEqDiff, List.map]; exact VSubs.refl _) (cloneK_p k hk0 (by omega) _ _) (touch_new _ _) ?_
        refine WpItems.eval (by simp only [go_sem, reduceIte, Nat.reduceEqDiff, Nat.reduceAdd, bx]; exact rfl) ?_
        refine WpItems.dcall 3 (by simp only [go_sem]) (by simp only [go_sem, reduceIte, Nat.reduceEqDiff, List.map]; exact VSubs.refl _) (made_p k (by omega) l (by omega)) (by simp [upd]) (by simp) ?_
        refine WpItems.eval (by simp only [go_sem, reduceIte, Nat.reduceEqDiff, Nat.reduceAdd, bx, encO, encR]; exact rfl) ?_
        refine WpItems.nil ⟨by trivial, ?_⟩
        refine Wp.ret ⟨trivial, _, rfl, ?_⟩
        simp only [go_sem, reduceIte, Nat.reduceEqDiff, Nat.reduceAdd, bx, unT, unTs]
        exact VSub.refl _
    | true =>
      rw [show spanB k l x = madeB k (spanL l x) by simp [spanB, hc, hB]]
      repeat (first
        | ((first | apply Wp.seqItems | apply Wp.items | ((first
            | (refine WpItems.pcall ?_ ?_ (hck) ?_; (· simp only [go_sem, reduceIte, Nat.reduceEqDiff, Nat.reduceAdd, bx]); (· simp only [go_sem, reduceIte, Nat.reduceEqDiff, Nat.reduceAdd, bx, List.map]; first | exact VSubs.refl _ | (repeat (first | exact VSubs.nil | refine VSubs.cons (by first | exact VSub.refl _ | assumption | exact VSub.cap | exact VSub.any _) ?_))))
            | (refine WpItems.pcall ?_ ?_ (cloneS_p l (by omega)) ?_; (· simp only [go_sem, reduceIte, Nat.reduceEqDiff, Nat.reduceAdd, bx]); (· simp only [go_sem, reduceIte, Nat.reduceEqDiff, Nat.reduceAdd, bx, List.map]; first | exact VSubs.refl _ | (repeat (first | exact VSubs.nil | refine VSubs.cons (by first | exact VSub.refl _ | assumption | exact VSub.cap | exact VSub.any _) ?_))))
            | (refine WpItems.pcall ?_ ?_ (has_p x) ?_; (· simp only [go_sem, reduceIte, Nat.reduceEqDiff, Nat.reduceAdd, bx]); (· simp only [go_sem, reduceIte, Nat.reduceEqDiff, Nat.reduceAdd, bx, List.map]; first | exact VSubs.refl _ | (repeat (first | exact VSubs.nil | refine VSubs.cons (by first | exact VSub.refl _ | assumption | exact VSub.cap | exact VSub.any _) ?_))))); apply WpItems.eval)); (· simp only [go_sem, reduceIte, Nat.reduceEqDiff, Nat.reduceAdd, bx, ax, if_true, if_false, Nat.reduceMul, Nat.reduceLeDiff, d1, hB, encSp, sps_length]; exact rfl))
        | (refine WpItems.nil ⟨?_, ?_⟩; (· first | trivial | simp [pairsQ, pairsOk, apart, ent0]))
        | (apply Wp.cond_lit; (· simp only [go_sem, reduceIte, Nat.reduceEqDiff, Nat.reduceAdd, bx, ax, if_true, if_false, Nat.reduceMul, Nat.reduceLeDiff, d1, hB, encSp, sps_length]; exact rfl); (· rfl))
        | refine Wp.skip ?_
        | refine Wp.label ?_
        | refine Wp.block ?_
        | refine Wp.exit ?_
        | refine Wp.seq ?_)
      refine Wp.le (StLe.trans (StLe.tok _ _) (StLe.of (f' := upd (upd none' 1 (some res0)) 2 (some (.cells [.str x.f, .str x.t]))) (n' := 3) (m' := 1) (k' := [0]) (fun i => VSub.refl _) (sub2 (by simp [upd]) (by simp [upd])) (by simp) (by simp) (by simp))) ?_
      refine Wp.loopH [3, 6, 9, 37, 38] (by simp only [go_sem, reduceIte, Nat.reduceEqDiff, List.map, sps_length]; exact rfl) (fun b : Nat × SS × Nat × Nat × Nat => [(11, .sl 2 (sps b.2.1.out) (.own b.2.2.1)), (12, .bool b.2.1.laid), (39, .int .i64 b.1)]) (fun b => hS b.2.1.x b.2.2.1 b.2.2.2.1 b.2.2.2.2)
        (fun b => b.1 ≤ l.length ∧ 3 ≤ b.2.2.2.1 ∧ b.2.1 = (l.take b.1).foldl stepS ⟨x, false, []⟩ ∧ b.2.1.out.length ≤ 2 * b.1) (fun b => l.length - b.1) (0, ⟨x, false, []⟩, 0, 3, 1) ⟨by simp, by simp, rfl, by simp⟩ rfl ?_ ?_
      · simp only [AllSub, go_sem, reduceIte, Nat.reduceEqDiff, Nat.reduceAdd, bx]; and_intros <;> first | exact trivial | exact VSub.refl _ | exact VSub.any _ | exact VSub.own_of rfl | (refine VSub.int ?_; omega)
      rintro ⟨j, s, tk, n, m⟩ ⟨h1, h2, h3, h4⟩
      simp only at h1 h2 h3 h4
      have n1 : ¬ (n = 1) := by omega
      have n1' : ¬ (1 = n) := by omega
      have n2 : ¬ (n = 2) := by omega
      have n2' : ¬ (2 = n) := by omega
      by_cases hj : j < l.length
      · have g1 : decide ((j : Int) < (l.length : Int)) = true := decide_eq_true (by omega)
        have q1 : (0 : Int) ≤ (j : Int) := by omega
        have q2 : (j : Int) < (l.length : Int) := by omega
        have e1 : IntKind.i64.wrap ((j : Int) + 1) = ((j + 1 : Nat) : Int) := by rw [IntWalk.i64_in _ (by omega)]; omega
        have hst : (l.take (j + 1)).foldl stepS ⟨x, false, []⟩ = stepS s (l.getD j default) := by
          rw [List.take_succ_eq_append_getElem hj, List.foldl_append, ← h3, getD_el hj]; rfl
        obtain ⟨⟨r0, r0'⟩, r1, r1'⟩ := rooms32 (a := s.out.length) (by omega)
        generalize hy : l.getD j default = y at hst
        unfold hS
        cases ha : apartB y s.x with
        | true =>
          have hs : stepS s y = ⟨s.x, s.laid, s.out ++ [y]⟩ := by simp [stepS, ha]
          repeat (first
            | ((first | apply Wp.seqItems | apply Wp.items | ((first
                | (refine WpItems.pcall ?_ ?_ (apart_p y s.x) ?_; (· simp only [go_sem, reduceIte, Nat.reduceEqDiff, Nat.reduceAdd, bx]); (· simp only [go_sem, reduceIte, Nat.reduceEqDiff, Nat.reduceAdd, bx, List.map]; first | exact VSubs.refl _ | (repeat (first | exact VSubs.nil | refine VSubs.cons (by first | exact VSub.refl _ | assumption | exact VSub.cap | exact VSub.any _) ?_))))); apply WpItems.eval)); (· simp only [go_sem, reduceIte, Nat.reduceEqDiff, Nat.reduceAdd, bx, ax, if_true, if_false, Nat.reduceMul, Nat.reduceLeDiff, g1, q1, q2, e1, n1, n1', n2, n2', sps_length, Int.toNat_natCast, sps_getD _ _ _ hj, hy, encSp, ha, r0, r0']; exact rfl))
            | (refine WpItems.nil ⟨?_, ?_⟩; (· first | trivial | simp [pairsQ, pairsOk, apart, ent0]))
            | (apply Wp.cond_lit; (· simp only [go_sem, reduceIte, Nat.reduceEqDiff, Nat.reduceAdd, bx, ax, if_true, if_false, Nat.reduceMul, Nat.reduceLeDiff, g1, q1, q2, e1, n1, n1', n2, n2', sps_length, Int.toNat_natCast, sps_getD _ _ _ hj, hy, encSp, ha, r0, r0']; exact rfl); (· rfl))
            | refine Wp.skip ?_
            | refine Wp.label ?_
            | refine Wp.block ?_
            | refine Wp.exit ?_
            | refine Wp.seq ?_)
          refine ⟨(j + 1, ⟨s.x, s.laid, s.out ++ [y]⟩, m, n + 1, m + 1), ⟨hj, by simp only; omega, by simp only; rw [hst, hs], by simp only [List.length_append, List.length_singleton]; clear r0 r1; omega⟩, by simp only; omega, ?_⟩
          refine StLe.tmN (Nat.le_refl _) (sub2 (by simp [upd, n1']) (by simp [upd, n2'])) ?_
          simp only [AllSub, go_sem, reduceIte, Nat.reduceEqDiff, Nat.reduceAdd, bx]; and_intros <;> first | exact trivial | exact VSub.refl _ | exact VSub.any _ | exact VSub.of_eq (by simp [sps, encSp]) | (refine VSub.int ?_; omega)
        | false =>
          cases hb : apartB s.x y with
          | false =>
            have hs : stepS s y = ⟨joinB s.x y, s.laid, s.out⟩ := by simp [stepS, ha, hb]
            repeat (first
              | ((first | apply Wp.seqItems | apply Wp.items | ((first
                  | (refine WpItems.pcall ?_ ?_ (apart_p y s.x) ?_; (· simp only [go_sem, reduceIte, Nat.reduceEqDiff, Nat.reduceAdd, bx]); (· simp only [go_sem, reduceIte, Nat.reduceEqDiff, Nat.reduceAdd, bx, List.map]; first | exact VSubs.refl _ | (repeat (first | exact VSubs.nil | refine VSubs.cons (by first | exact VSub.refl _ | assumption | exact VSub.cap | exact VSub.any _) ?_))))
                  | (refine WpItems.pcall ?_ ?_ (apart_p s.x y) ?_; (· simp only [go_sem, reduceIte, Nat.reduceEqDiff, Nat.reduceAdd, bx]); (· simp only [go_sem, reduceIte, Nat.reduceEqDiff, Nat.reduceAdd, bx, List.map]; first | exact VSubs.refl _ | (repeat (first | exact VSubs.nil | refine VSubs.cons (by first | exact VSub.refl _ | assumption | exact VSub.cap | exact VSub.any _) ?_))))
                  | (refine WpItems.pcall ?_ ?_ (joined_p s.x y) ?_; (· simp only [go_sem, reduceIte, Nat.reduceEqDiff, Nat.reduceAdd, bx]); (· simp only [go_sem, reduceIte, Nat.reduceEqDiff, Nat.reduceAdd, bx, List.map]; first | exact VSubs.refl _ | (repeat (first | exact VSubs.nil | refine VSubs.cons (by first | exact VSub.refl _ | assumption | exact VSub.cap | exact VSub.any _) ?_))))); apply WpItems.eval)); (· simp only [go_sem, reduceIte, Nat.reduceEqDiff, Nat.reduceAdd, bx, ax, if_true, if_false, Nat.reduceMul, Nat.reduceLeDiff, g1, q1, q2, e1, n1, n1', n2, n2', sps_length, Int.toNat_natCast, sps_getD _ _ _ hj, hy, encSp, ha, hb]; exact rfl))
              | (refine WpItems.nil ⟨?_, ?_⟩; (· first | trivial | simp [pairsQ, pairsOk, apart, ent0]))
              | (apply Wp.cond_lit; (· simp only [go_sem, reduceIte, Nat.reduceEqDiff, Nat.reduceAdd, bx, ax, if_true, if_false, Nat.reduceMul, Nat.reduceLeDiff, g1, q1, q2, e1, n1, n1', n2, n2', sps_length, Int.toNat_natCast, sps_getD _ _ _ hj, hy, encSp, ha, hb]; exact rfl); (· rfl))
              | refine Wp.skip ?_
              | refine Wp.label ?_
              | refine Wp.block ?_
              | refine Wp.exit ?_
              | refine Wp.seq ?_)
            refine ⟨(j + 1, ⟨joinB s.x y, s.laid, s.out⟩, tk, n + 1, m), ⟨hj, by simp only; omega, by simp only; rw [hst, hs], by simp only; clear r0 r1; omega⟩, by simp only; omega, ?_⟩
            refine StLe.tmN (Nat.le_refl _) (sub2 (by simp [upd, n1']) (by simp [upd, n2'])) ?_
            simp only [AllSub, go_sem, reduceIte, Nat.reduceEqDiff, Nat.reduceAdd, bx]; and_intros <;> first | exact trivial | exact VSub.refl _ | exact VSub.any _ | (refine VSub.int ?_; omega)
          | true =>
            cases hl : s.laid with
            | true =>
              have hs : stepS s y = ⟨s.x, true, s.out ++ [y]⟩ := by simp [stepS, ha, hb, hl]
              repeat (first
                | ((first | apply Wp.seqItems | apply Wp.items | ((first
                    | (refine WpItems.pcall ?_ ?_ (apart_p y s.x) ?_; (· simp only [go_sem, reduceIte, Nat.reduceEqDiff, Nat.reduceAdd, bx]); (· simp only [go_sem, reduceIte, Nat.reduceEqDiff, Nat.reduceAdd, bx, List.map]; first | exact VSubs.refl _ | (repeat (first | exact VSubs.nil | refine VSubs.cons (by first | exact VSub.refl _ | assumption | exact VSub.cap | exact VSub.any _) ?_))))
                    | (refine WpItems.pcall ?_ ?_ (apart_p s.x y) ?_; (· simp only [go_sem, reduceIte, Nat.reduceEqDiff, Nat.reduceAdd, bx]); (· simp only [go_sem, reduceIte, Nat.reduceEqDiff, Nat.reduceAdd, bx, List.map]; first | exact VSubs.refl _ | (repeat (first | exact VSubs.nil | refine VSubs.cons (by first | exact VSub.refl _ | assumption | exact VSub.cap | exact VSub.any _) ?_))))); apply WpItems.eval)); (· simp only [go_sem, reduceIte, Nat.reduceEqDiff, Nat.reduceAdd, bx, ax, if_true, if_false, Nat.reduceMul, Nat.reduceLeDiff, g1, q1, q2, e1, n1, n1', n2, n2', sps_length, Int.toNat_natCast, sps_getD _ _ _ hj, hy, encSp, ha, hb, hl, r0, r0']; exact rfl))
                | (refine WpItems.nil ⟨?_, ?_⟩; (· first | trivial | simp [pairsQ, pairsOk, apart, ent0]))
                | (apply Wp.cond_lit; (· simp only [go_sem, reduceIte, Nat.reduceEqDiff, Nat.reduceAdd, bx, ax, if_true, if_false, Nat.reduceMul, Nat.reduceLeDiff, g1, q1, q2, e1, n1, n1', n2, n2', sps_length, Int.toNat_natCast, sps_getD _ _ _ hj, hy, encSp, ha, hb, hl, r0, r0']; exact rfl); (· rfl))
                | refine Wp.skip ?_
                | refine Wp.label ?_
                | refine Wp.block ?_
                | refine Wp.exit ?_
                | refine Wp.seq ?_)
              refine ⟨(j + 1, ⟨s.x, true, s.out ++ [y]⟩, m, n + 1, m + 1), ⟨hj, by simp only; omega, by simp only; rw [hst, hs], by simp only [List.length_append, List.length_singleton]; clear r0 r1; omega⟩, by simp only; omega, ?_⟩
              refine StLe.tmN (Nat.le_refl _) (sub2 (by simp [upd, n1']) (by simp [upd, n2'])) ?_
              simp only [AllSub, go_sem, reduceIte, Nat.reduceEqDiff, Nat.reduceAdd, bx]; and_intros <;> first | exact trivial | exact VSub.refl _ | exact VSub.any _ | exact VSub.of_eq (by simp [sps, encSp]) | (refine VSub.int ?_; omega)
            | false =>
              have hs : stepS s y = ⟨s.x, true, s.out ++ [s.x] ++ [y]⟩ := by simp [stepS, ha, hb, hl]
              repeat (first
                | ((first | apply Wp.seqItems | apply Wp.items | ((first
                    | (refine WpItems.pcall ?_ ?_ (apart_p y s.x) ?_; (· simp only [go_sem, reduceIte, Nat.reduceEqDiff, Nat.reduceAdd, bx]); (· simp only [go_sem, reduceIte, Nat.reduceEqDiff, Nat.reduceAdd, bx, List.map]; first | exact VSubs.refl _ | (repeat (first | exact VSubs.nil | refine VSubs.cons (by first | exact VSub.refl _ | assumption | exact VSub.cap | exact VSub.any _) ?_))))
                    | (refine WpItems.pcall ?_ ?_ (apart_p s.x y) ?_; (· simp only [go_sem, reduceIte, Nat.reduceEqDiff, Nat.reduceAdd, bx]); (· simp only [go_sem, reduceIte, Nat.reduceEqDiff, Nat.reduceAdd, bx, List.map]; first | exact VSubs.refl _ | (repeat (first | exact VSubs.nil | refine VSubs.cons (by first | exact VSub.refl _ | assumption | exact VSub.cap | exact VSub.any _) ?_))))); apply WpItems.eval)); (· simp only [go_sem, reduceIte, Nat.reduceEqDiff, Nat.reduceAdd, bx, ax, if_true, if_false, Nat.reduceMul, Nat.reduceLeDiff, g1, q1, q2, e1, n1, n1', n2, n2', sps_length, Int.toNat_natCast, sps_getD _ _ _ hj, hy, encSp, ha, hb, hl, r0, r0', r1, r1']; exact rfl))
                | (refine WpItems.nil ⟨?_, ?_⟩; (· first | trivial | simp [pairsQ, pairsOk, apart, ent0]))
                | (apply Wp.cond_lit; (· simp only [go_sem, reduceIte, Nat.reduceEqDiff, Nat.reduceAdd, bx, ax, if_true, if_false, Nat.reduceMul, Nat.reduceLeDiff, g1, q1, q2, e1, n1, n1', n2, n2', sps_length, Int.toNat_natCast, sps_getD _ _ _ hj, hy, encSp, ha, hb, hl, r0, r0', r1, r1']; exact rfl); (· rfl))
                | refine Wp.skip ?_
                | refine Wp.label ?_
                | refine Wp.block ?_
                | refine Wp.exit ?_
                | refine Wp.seq ?_)
              refine ⟨(j + 1, ⟨s.x, true, s.out ++ [s.x] ++ [y]⟩, m + 1, n + 1, m + 1 + 1), ⟨hj, by simp only; omega, by simp only; rw [hst, hs], by simp only [List.length_append, List.length_singleton]; clear r0 r1; omega⟩, by simp only; omega, ?_⟩
              refine StLe.tmN (Nat.le_refl _) (sub2 (by simp [upd, n1']) (by simp [upd, n2'])) ?_
              simp only [AllSub, go_sem, reduceIte, Nat.reduceEqDiff, Nat.reduceAdd, bx]; and_intros <;> first | exact trivial | exact VSub.refl _ | exact VSub.any _ | exact VSub.of_eq (by simp [sps, encSp]) | (refine VSub.int ?_; omega)
      · obtain rfl : j = l.length := by omega
        have g1 : decide ((l.length : Int) < (l.length : Int)) = false := decide_eq_false (by omega)
        have hgo : spanGo l x = s := by rw [h3, List.take_length]; rfl
        obtain ⟨⟨r0, r0'⟩, -⟩ := rooms32 (a := s.out.length) (by omega)
        have hk9 : k.length ≤ 1000000 := by clear r0; omega
        have hl9 : (spanL l x).length ≤ 1000 := by
          unfold spanL
          rw [hgo]
          split
          · clear r0; omega
          · simp only [List.length_append, List.length_singleton]; clear r0; omega
        have hk8 : k.length ≤ 1152921504606846976 := Nat.le_trans hk9 (by decide)
        have hl8 : (spanL l x).length ≤ 4611686018427387904 := Nat.le_trans hl9 (by decide)
        unfold hS
        cases hl : s.laid with
        | true =>
          have hsp : spanL l x = s.out := by simp [spanL, hgo, hl]
          repeat (first
            | ((first | apply Wp.seqItems | apply Wp.items); (· simp only [go_sem, reduceIte, Nat.reduceEqDiff, Nat.reduceAdd, bx, ax, if_true, if_false, Nat.reduceMul, Nat.reduceLeDiff, g1, hl]; exact rfl))
            | (refine WpItems.nil ⟨?_, ?_⟩; (· first | trivial | simp [pairsQ, pairsOk, apart, ent0]))
            | (apply Wp.cond_lit; (· simp only [go_sem, reduceIte, Nat.reduceEqDiff, Nat.reduceAdd, bx, ax, if_true, if_false, Nat.reduceMul, Nat.reduceLeDiff, g1, hl]; exact rfl); (· rfl))
            | refine Wp.skip ?_
            | refine Wp.label ?_
            | refine Wp.block ?_
            | refine Wp.exit ?_
            | refine Wp.seq ?_)
          by_cases hk0 : k = []
          · subst hk0
            refine WpItems.pcall (by simp only [go_sem]) (by simp only [go_sem, reduceIte, Nat.reduceEqDiff, List.map]; exact VSubs.refl _) (cloneE_gen (sz := 1) (bytes := 16) f160) ?_
            refine WpItems.eval (by simp only [go_sem, reduceIte, Nat.reduceEqDiff, Nat.reduceAdd, bx]; exact rfl) ?_
            rw [hsp] at hl8 ⊢
            refine WpItems.pcall (by simp only [go_sem, reduceIte, Nat.reduceEqDiff, Nat.reduceAdd, bx]) (by simp only [go_sem, reduceIte, Nat.reduceEqDiff, Nat.reduceAdd, bx, List.map]; exact VSubs.cons (VSub.refl _) (VSubs.cons VSub.cap VSubs.nil)) (made0_p s.out hl8) ?_
            refine WpItems.eval (by simp only [go_sem, reduceIte, Nat.reduceEqDiff, Nat.reduceAdd, bx, encO, encR, n1', n1]; exact rfl) ?_
            refine WpItems.nil ⟨by trivial, ?_⟩
            refine Wp.ret ⟨trivial, _, rfl, ?_⟩
            simp only [go_sem, reduceIte, Nat.reduceEqDiff, Nat.reduceAdd, bx, unT, unTs, n1', n1]
            exact VSub.refl _
          · refine WpItems.acall (by simp only [go_sem]) (by simp only [go_sem, reduceIte, Nat.reduceEqDiff, List.map]; exact VSubs.refl _) (cloneK_p k hk0 hk9 _ _) (touch_new _ _) ?_
            refine WpItems.eval (by simp only [go_sem, reduceIte, Nat.reduceEqDiff, Nat.reduceAdd, bx]; exact rfl) ?_
            rw [hsp] at hl8 ⊢
            refine WpItems.dcall n (by simp only [go_sem]) (by simp only [go_sem, reduceIte, Nat.reduceEqDiff, List.map]; exact VSubs.cons (VSub.refl _) (VSubs.cons VSub.cap VSubs.nil)) (made_p k hk8 s.out hl8) (by simp [upd]) (by simp) ?_
            refine WpItems.eval (by simp only [go_sem, reduceIte, Nat.reduceEqDiff, Nat.reduceAdd, bx, encO, encR, n1', n1]; exact rfl) ?_
            refine WpItems.nil ⟨by trivial, ?_⟩
            refine Wp.ret ⟨trivial, _, rfl, ?_⟩
            simp only [go_sem, reduceIte, Nat.reduceEqDiff, Nat.reduceAdd, bx, unT, unTs, n1', n1]
            exact VSub.refl _
        | false =>
          have hsp : spanL l x = s.out ++ [s.x] := by simp [spanL, hgo, hl]
          have hcap : VSub (.sl 2 (sps s.out ++ [.agg [.str s.x.f, .str s.x.t]]) (.own m)) (.sl 2 (sps (s.out ++ [s.x])) .any) := (VSub.of_eq (y := .sl 2 (sps (s.out ++ [s.x])) (.own m)) (by simp [sps, encSp])).trans VSub.cap
          repeat (first
            | ((first | apply Wp.seqItems | apply Wp.items); (· simp only [go_sem, reduceIte, Nat.reduceEqDiff, Nat.reduceAdd, bx, ax, if_true, if_false, Nat.reduceMul, Nat.reduceLeDiff, g1, hl, sps_length, encSp, r0, r0']; exact rfl))
            | (refine WpItems.nil ⟨?_, ?_⟩; (· first | trivial | simp [pairsQ, pairsOk, apart, ent0]))
            | (apply Wp.cond_lit; (· simp only [go_sem, reduceIte, Nat.reduceEqDiff, Nat.reduceAdd, bx, ax, if_true, if_false, Nat.reduceMul, Nat.reduceLeDiff, g1, hl, sps_length, encSp, r0, r0']; exact rfl); (· rfl))
            | refine Wp.skip ?_
            | refine Wp.label ?_
            | refine Wp.block ?_
            | refine Wp.exit ?_
            | refine Wp.seq ?_)
          by_cases hk0 : k = []
          · subst hk0
            refine WpItems.pcall (by simp only [go_sem]) (by simp only [go_sem, reduceIte, Nat.reduceEqDiff, List.map]; exact VSubs.refl _) (cloneE_gen (sz := 1) (bytes := 16) f160) ?_
            refine WpItems.eval (by simp only [go_sem, reduceIte, Nat.reduceEqDiff, Nat.reduceAdd, bx]; exact rfl) ?_
            rw [hsp] at hl8 ⊢
            refine WpItems.pcall (by simp only [go_sem, reduceIte, Nat.reduceEqDiff, Nat.reduceAdd, bx]) (by simp only [go_sem, reduceIte, Nat.reduceEqDiff, Nat.reduceAdd, bx, List.map]; exact VSubs.cons (VSub.refl _) (VSubs.cons hcap VSubs.nil)) (made0_p (s.out ++ [s.x]) hl8) ?_
            refine WpItems.eval (by simp only [go_sem, reduceIte, Nat.reduceEqDiff, Nat.reduceAdd, bx, encO, encR, n1', n1]; exact rfl) ?_
            refine WpItems.nil ⟨by trivial, ?_⟩
            refine Wp.ret ⟨trivial, _, rfl, ?_⟩
            simp only [go_sem, reduceIte, Nat.reduceEqDiff, Nat.reduceAdd, bx, unT, unTs, n1', n1]
            exact VSub.refl _
          · refine WpItems.acall (by simp only [go_sem]) (by simp only [go_sem, reduceIte, Nat.reduceEqDiff, List.map]; exact VSubs.refl _) (cloneK_p k hk0 hk9 _ _) (touch_new _ _) ?_
            refine WpItems.eval (by simp only [go_sem, reduceIte, Nat.reduceEqDiff, Nat.reduceAdd, bx]; exact rfl) ?_
            rw [hsp] at hl8 ⊢
            refine WpItems.dcall n (by simp only [go_sem]) (by simp only [go_sem, reduceIte, Nat.reduceEqDiff, List.map]; exact VSubs.cons (VSub.refl _) (VSubs.cons hcap VSubs.nil)) (made_p k hk8 (s.out ++ [s.x]) hl8) (by simp [upd]) (by simp) ?_
            refine WpItems.eval (by simp only [go_sem, reduceIte, Nat.reduceEqDiff, Nat.reduceAdd, bx, encO, encR, n1', n1]; exact rfl) ?_
            refine WpItems.nil ⟨by trivial, ?_⟩
            refine Wp.ret ⟨trivial, _, rfl, ?_⟩
            simp only [go_sem, reduceIte, Nat.reduceEqDiff, Nat.reduceAdd, bx, unT, unTs, n1', n1]
            exact VSub.refl _
end Go.Proofs.YtkcgpcbpieofnaaGreatDoor.Reads
end
section
set_option linter.unusedSimpArgs false
set_option linter.unusedVariables false
set_option maxRecDepth 100000
namespace Go.Proofs.YtkcgpcbpieofnaaGreatDoor.Desk
open Go Go.Av Go.Proofs Go.Proofs.YtkcgpcbpieofnaaGreatDoor.C Go.Proofs.YtkcgpcbpieofnaaGreatDoor.Batch Go.Proofs.YtkcgpcbpieofnaaGreatDoor.Reads
def unStrs : List AV → Option (List Bs)
  | [] => some []
  | .str s :: l => match unStrs l with
    | some r => some (s :: r)
    | none => none
  | _ => none
def unSps : List AV → Option (List Sp)
  | [] => some []
  | .agg [.str a, .str b] :: l => match unSps l with
    | some r => some (⟨a, b⟩ :: r)
    | none => none
  | _ => none
theorem unStrs_ok : ∀ {l : List AV} {r : List Bs}, unStrs l = some r → l = strs r
  | [], r, h => by simp [unStrs] at h; subst h; rfl
  | x :: l, r, h => by
    cases x <;> simp only [unStrs] at h <;> try (cases h; done)
    split at h
    · rename_i r' h'
      cases h
      rw [unStrs_ok h']; rfl
    · cases h
theorem unSps_ok : ∀ {l : List AV} {r : List Sp}, unSps l = some r → l = sps r
  | [], r, h => by simp [unSps] at h; subst h; rfl
  | x :: l, r, h => by
    unfold unSps at h
    split at h
    · rename_i e; cases e
    · rename_i a b l' e
      cases e
      split at h
      · rename_i r' h'
        cases h
        rw [unSps_ok h']; rfl
      · cases h
    · cases h
def decR : AV → Option (List Bs × List Sp)
  | .agg [.sl s1 xs _, .sl s2 ys _] => match unStrs xs, unSps ys with
    | some k, some l => match (Nat.beq s1 1 || k.isEmpty) && (Nat.beq s2 2 || l.isEmpty) with
      | true => some (k, l)
      | false => none
    | _, _ => none
  | _ => none
theorem decR_ok {x : AV} {k : List Bs} {l : List Sp} (h : decR x = some (k, l)) : VSub x (encR k l) := by
  unfold decR at h
  split at h
  · split at h
    · rename_i s1 xs c1 s2 ys c2 _ _ k' l' h1 h2
      split at h
      · rename_i hc
        cases h
        rw [unStrs_ok h1, unSps_ok h2]
        simp only [Bool.and_eq_true, Bool.or_eq_true] at hc
        have e1 : VSub (.sl s1 (strs k) c1) (.sl 1 (strs k) .any) := by
          rcases hc.1 with e | e
          · rw [Nat.eq_of_beq_eq_true e]; exact VSub.cap
          · have : k = [] := List.isEmpty_iff.1 e
            subst this; exact VSub.nil
        have e2 : VSub (.sl s2 (sps l) c2) (.sl 2 (sps l) .any) := by
          rcases hc.2 with e | e
          · rw [Nat.eq_of_beq_eq_true e]; exact VSub.cap
          · have : l = [] := List.isEmpty_iff.1 e
            subst this; exact VSub.nil
        exact VSub.agg (VSubs.cons e1 (VSubs.cons e2 VSubs.nil))
      · cases h
    · cases h
  · cases h
def readsPP (f : Nat) (args : List AV) : Option AV :=
  match Nat.beq f 169 with
  | true => match args with
    | [r, .str key] => match decR r with
      | some (k, l) => some (encO (keyB k l key))
      | none => none
    | _ => none
  | false => match Nat.beq f 121 with
    | true => match args with
      | [r, .str a, .str b] => match decR r with
        | some (k, l) => some (encO (spanB k l ⟨a, b⟩))
        | none => none
      | _ => none
    | false => none
theorem named {f : Nat} {fn : Func} (h : Tryz.prog.funcs[f]? = some fn) (hb : fn.body.isSome = true) (hn : fn.name ≠ "runtime.NumGoroutine") : ∃ fn, Tryz.prog.funcs[f]? = some fn ∧ fn.body.isSome = true ∧ fn.name ≠ "runtime.NumGoroutine" := ⟨fn, h, hb, hn⟩
theorem readsPP_ok {f : Nat} {args : List AV} {r : AV} (h : readsPP f args = some r) : (∃ vals, VSubs args vals ∧ PCalls Tryz.prog f vals r) ∧ ∃ fn, Tryz.prog.funcs[f]? = some fn ∧ fn.body.isSome = true ∧ fn.name ≠ "runtime.NumGoroutine" := by
  unfold readsPP at h
  split at h
  · rename_i e
    have e := Nat.eq_of_beq_eq_true e
    subst e
    refine ⟨?_, named Tryz.func169 (of_decide_eq_true (by kernel_rfl)) (of_decide_eq_true (by kernel_rfl))⟩
    split at h
    · split at h
      · rename_i hd
        cases h
        exact ⟨_, VSubs.cons (decR_ok hd) (VSubs.refl _), key_p _ _ _⟩
      · cases h
    · cases h
  · split at h
    · rename_i e
      have e := Nat.eq_of_beq_eq_true e
      subst e
      refine ⟨?_, named Tryz.func121 (of_decide_eq_true (by kernel_rfl)) (of_decide_eq_true (by kernel_rfl))⟩
      split at h
      · split at h
        · rename_i hd
          cases h
          exact ⟨_, VSubs.cons (decR_ok hd) (VSubs.refl _), span_p _ _ ⟨_, _⟩⟩
        · cases h
      · cases h
    · cases h
def rowH (id id2 : Nat) (l : List Bs) (x : Bs) (n m : Nat) : H := .only (upd (upd none' id (some (.cells (strs l)))) id2 (some (.cells [.str x]))) [] n m
def rowE (id2 : Nat) (x : Bs) (n m : Nat) : H := .only (upd none' id2 (some (.cells [.str x]))) [] n m
noncomputable def HZ.turnZ (h : HZ) (id : Nat) (o : Av.Obj) : HZ := ⟨(h.o.set 6 id none).set 6 h.n (some o), h.n + 1, h.toks, h.m⟩
theorem HZ.turnZ_at (h : HZ) (id : Nat) (o : Av.Obj) (j : Nat) : (HZ.turnZ h id o).at j = if j = h.n then some o else if j = id then none else h.at j := by
  have e1 := Av.HZ.at_set ⟨h.o.set 6 id none, h.n, h.toks, h.m⟩ h.n (some o) j
  have e2 := Av.HZ.at_set h id none j
  change (Av.HZ.set ⟨h.o.set 6 id none, h.n, h.toks, h.m⟩ h.n (some o)).at j = _
  rw [e1]
  change (if j = h.n then some o else (Av.HZ.set h id none).at j) = _
  rw [e2]
noncomputable def insPrim (f : Nat) : PrimsZ := fun g args h => match Nat.beq g f with
  | false => none
  | true => match args with
    | [.sl s [] (.exact 0), .int .i64 i, .tsl s2 id2 0 1 _] => match h.at id2 with
      | some (.cells [.str x]) => match Nat.beq s 1 && Nat.beq s2 1 && decide (i = 0) with
        | true => some (.tsl 1 h.n 0 1 none, HZ.turnZ h id2 (.cells (strs [x])), ⟨[], [id2] ++ (List.range 1).map (h.n + ·), []⟩)
        | false => none
      | _ => none
    | [.tsl s id 0 len _, .int .i64 i, .tsl s2 id2 0 1 _] => match h.at id, h.at id2 with
      | some (.cells cs), some (.cells [.str x]) => match unStrs cs with
        | some l => match Nat.beq s 1 && Nat.beq s2 1 && Nat.beq l.length len && decide (0 ≤ i) && Nat.ble i.toNat l.length && Nat.blt 0 l.length && Nat.blt l.length 1099511627776 && !Nat.beq id id2 with
          | true => some (.tsl 1 h.n 0 (l.length + 1) none, HZ.turnZ h id (.cells (strs (l.take i.toNat ++ x :: l.drop i.toNat))), ⟨[], [id, id2] ++ (List.range 1).map (h.n + ·), []⟩)
          | false => none
        | none => none
      | _, _ => none
    | _ => none
theorem rowE_sg {σ : Sg} {id2 : Nat} {x : Bs} {n m : Nat} : (rowE id2 x n m).sg σ = rowE id2 x n m := H.ext (fun j => by
  simp only [H.sg, rowE, H.only, upd, none']; split <;> simp [sgO]) rfl rfl rfl
theorem rowE_turn_sg {σ : Sg} {id2 : Nat} {x : Bs} {n m : Nat} {cs : List AV} : ((rowE id2 x n m).turn id2 (.cells cs)).sg σ = (rowE id2 x n m).turn id2 (.cells cs) := H.ext (fun j => by
  simp only [H.sg, H.turn, rowE, H.only, upd, none']; (repeat' split) <;> simp [sgO]) rfl rfl rfl
theorem rowH_sg {σ : Sg} {id id2 : Nat} {l : List Bs} {x : Bs} {n m : Nat} : (rowH id id2 l x n m).sg σ = rowH id id2 l x n m := H.ext (fun j => by
  simp only [H.sg, rowH, H.only, upd, none']; (repeat' split) <;> simp [sgO]) rfl rfl rfl
theorem rowH_turn_sg {σ : Sg} {id id2 : Nat} {l : List Bs} {x : Bs} {n m : Nat} {cs : List AV} : ((rowH id id2 l x n m).turn id (.cells cs)).sg σ = (rowH id id2 l x n m).turn id (.cells cs) := H.ext (fun j => by
  simp only [H.sg, H.turn, rowH, H.only, upd, none']; (repeat' split) <;> simp [sgO]) rfl rfl rfl
theorem tsl_any {sz id off len : Nat} {c : Option Nat} : VSub (.tsl sz id off len c) (.tsl sz id off len none) := by
  intro G w v hv
  simp only [VRel] at hv ⊢
  obtain ⟨h1, ⟨C, c0, T, fr, h2, h3, -, h4⟩ | ⟨h2, h3, -⟩⟩ := hv
  · exact ⟨h1, .inl ⟨C, c0, T, fr, h2, h3, by simp, h4⟩⟩
  · exact ⟨h1, .inr ⟨h2, h3, by simp⟩⟩
theorem insPrim_ok : PrimsOkZ Tryz.prog (insPrim 183) := by
  intro σ g args h r h' en hx
  have hf := named Tryz.func183 (of_decide_eq_true (by kernel_rfl)) (of_decide_eq_true (by kernel_rfl))
  unfold insPrim at hx
  split at hx
  · cases hx
  · rename_i e
    have e := Nat.eq_of_beq_eq_true e
    subst e
    split at hx
    · rename_i s i s2 id2 cp2
      split at hx
      · rename_i x ho
        split at hx
        · rename_i hc
          simp only [Bool.and_eq_true, decide_eq_true_eq] at hc
          obtain ⟨⟨c1, c2⟩, c3⟩ := hc
          have c1 := Nat.eq_of_beq_eq_true c1
          have c2 := Nat.eq_of_beq_eq_true c2
          subst c1 c2 c3
          cases hx
          have hs1 : ∀ j o, (rowE id2 x h.n h.m).objs j = some o → h.at j = some o := fun j o hj => by
            simp only [rowE, H.only, upd, none'] at hj
            split at hj
            · rename_i e; subst e; rw [ho]; exact hj
            · cases hj
          have hi1 : ∀ id, ((rowE id2 x h.n h.m).objs id).isSome → id ∈ [id2] := fun id hx => by
            simp only [rowE, H.only, upd, none'] at hx
            split at hx
            · rename_i e; subst e; simp
            · simp at hx
          have tc := touch_genY σ h.hp (rowE id2 x h.n h.m) ((rowE id2 x h.n h.m).turn id2 (.cells (strs [x]))) (ids := [id2]) ⟨hs1, fun t ht => by simp [rowE, H.only] at ht⟩ rfl rfl hi1 (by simp [rowE, H.turn, H.only, Av.HZ.hp]) (by simp [rowE, H.turn, H.only, Av.HZ.hp])
          rw [rowE_sg, rowE_turn_sg] at tc
          have ez : (HZ.turnZ h id2 (.cells (strs [x]))).hp = h.hp.patch (rowE id2 x h.n h.m) ((rowE id2 x h.n h.m).turn id2 (.cells (strs [x]))) := by
            refine H.ext (fun j => ?_) rfl (by simp [H.patch, rowE, H.turn, H.only, Av.HZ.hp, HZ.turnZ]; exact filter_tt.symm) rfl
            change (HZ.turnZ h id2 (.cells (strs [x]))).at j = _
            rw [HZ.turnZ_at]
            simp only [H.patch, rowE, H.turn, H.only, upd, none']
            by_cases e1 : j = h.n
            · simp [e1]
            · by_cases e2 : j = id2
              · simp [e1, e2]
              · rw [if_neg e1, if_neg e2, if_neg (by simp [e2]; omega)]; rfl
          have ac := insert_e x (id2 := id2) (h := rowE id2 x h.n h.m) (by simp [rowE, H.only, upd]) rfl
          refine ⟨⟨_, _, ?_, fun G w vs hv R F => ac G w vs (VSubs.cons (VSub.refl _) (VSubs.cons (VSub.refl _) (VSubs.cons tsl_any VSubs.nil)) G w vs hv) R F⟩, hf⟩
          rw [ez]; simpa [rowE, H.turn, H.only, Av.HZ.hp] using tc
        · cases hx
      · cases hx
    · rename_i s id len cp i s2 id2 cp2
      split at hx
      · rename_i cs x ho1 ho2
        split at hx
        · rename_i l hl
          split at hx
          · rename_i hc
            simp only [Bool.and_eq_true, decide_eq_true_eq, Bool.not_eq_true'] at hc
            obtain ⟨⟨⟨⟨⟨⟨⟨c1, c2⟩, c3⟩, c4⟩, c5⟩, c6⟩, c7⟩, c8⟩ := hc
            have c1 := Nat.eq_of_beq_eq_true c1
            have c2 := Nat.eq_of_beq_eq_true c2
            have c3 := Nat.eq_of_beq_eq_true c3
            have c5 := Nat.le_of_ble_eq_true c5
            have c6 := Nat.le_of_ble_eq_true c6
            have c7 := Nat.le_of_ble_eq_true c7
            have c8 : id ≠ id2 := fun e => by rw [e] at c8; simp at c8
            subst c1 c2 c3
            have hcs := unStrs_ok hl
            subst hcs
            cases hx
            have hs1 : ∀ j o, (rowH id id2 l x h.n h.m).objs j = some o → h.at j = some o := fun j o hj => by
              simp only [rowH, H.only, upd, none'] at hj
              split at hj
              · rename_i e; subst e; rw [ho2]; exact hj
              · split at hj
                · rename_i e; subst e; rw [ho1]; exact hj
                · cases hj
            have hi1 : ∀ j, ((rowH id id2 l x h.n h.m).objs j).isSome → j ∈ [id, id2] := fun j hx => by
              simp only [rowH, H.only, upd, none'] at hx
              split at hx
              · rename_i e; subst e; simp
              · split at hx
                · rename_i e; subst e; simp
                · simp at hx
            have tc := touch_genY σ h.hp (rowH id id2 l x h.n h.m) ((rowH id id2 l x h.n h.m).turn id (.cells (strs (l.take i.toNat ++ x :: l.drop i.toNat)))) (ids := [id, id2]) ⟨hs1, fun t ht => by simp [rowH, H.only] at ht⟩ rfl rfl hi1 (by simp [rowH, H.turn, H.only, Av.HZ.hp]) (by simp [rowH, H.turn, H.only, Av.HZ.hp])
            rw [rowH_sg, rowH_turn_sg] at tc
            have ez : (HZ.turnZ h id (.cells (strs (l.take i.toNat ++ x :: l.drop i.toNat)))).hp = h.hp.patch (rowH id id2 l x h.n h.m) ((rowH id id2 l x h.n h.m).turn id (.cells (strs (l.take i.toNat ++ x :: l.drop i.toNat)))) := by
              refine H.ext (fun j => ?_) rfl (by simp [H.patch, rowH, H.turn, H.only, Av.HZ.hp, HZ.turnZ]; exact filter_tt.symm) rfl
              change (HZ.turnZ h id (.cells (strs (l.take i.toNat ++ x :: l.drop i.toNat)))).at j = _
              rw [HZ.turnZ_at]
              simp only [H.patch, rowH, H.turn, H.only, upd, none']
              by_cases e1 : j = h.n
              · simp [e1]
              · by_cases e2 : j = id
                · subst e2; simp [e1]; intro hh; split at hh <;> cases hh
                · by_cases e3 : j = id2
                  · subst e3; simp [e1, e2, ho2]
                  · rw [if_neg e1, if_neg e2, if_neg (by simp [e2, e3]; omega)]; rfl
            have hi : ((i.toNat : Nat) : Int) = i := Int.toNat_of_nonneg c4
            have ac := insert_t l i.toNat x c5 c7 c6 c8 (h := rowH id id2 l x h.n h.m) (by simp [rowH, H.only, upd, c8]) (by simp [rowH, H.only, upd]) rfl
            rw [hi] at ac
            refine ⟨⟨_, _, ?_, fun G w vs hv R F => ac G w vs (VSubs.cons tsl_any (VSubs.cons (VSub.refl _) (VSubs.cons tsl_any VSubs.nil)) G w vs hv) R F⟩, hf⟩
            rw [ez]; simpa [rowH, H.turn, H.only, Av.HZ.hp] using tc
          · cases hx
        · cases hx
      · cases hx
    · cases hx
end Go.Proofs.YtkcgpcbpieofnaaGreatDoor.Desk
end
section
set_option linter.unusedVariables false
set_option linter.unusedSimpArgs false
namespace Go.Fl
open Ieee
def fl (s : Bool) (n : Nat) : Nat := double.nearest s n 0
theorem log2_bounds {n : Nat} (h : 0 < n) : 2 ^ n.log2 ≤ n ∧ n < 2 ^ (n.log2 + 1) :=
  ⟨Nat.log2_self_le (by omega), Nat.lt_log2_self⟩
theorem log2_mul_pow {n k : Nat} (h : 0 < n) : (n * 2 ^ k).log2 = n.log2 + k := by
  obtain ⟨h1, h2⟩ := log2_bounds h
  have hp : 0 < 2 ^ k := Nat.two_pow_pos _
  have hm : n * 2 ^ k ≠ 0 := Nat.ne_of_gt (Nat.mul_pos h hp)
  refine (Nat.log2_eq_iff hm).2 ⟨?_, ?_⟩
  · rw [Nat.pow_add]; exact Nat.mul_le_mul_right _ h1
  · rw [Nat.add_right_comm, Nat.pow_add]
    exact Nat.mul_lt_mul_of_lt_of_le h2 (Nat.le_refl _) hp
theorem log2_lt53 {n : Nat} (h : 0 < n) (h2 : n < 2 ^ 53) : n.log2 ≤ 52 := by
  have := (log2_bounds h).1
  rcases Nat.lt_or_ge n.log2 53 with h3 | h3
  · omega
  · have := Nat.pow_le_pow_right (n := 2) (by omega) h3
    omega
theorem cut_exact (way : Toward) (neg : Bool) (n k : Nat) : way.cut neg (n * 2 ^ k) k = n := by
  have key : (1 <<< min k ((n * 2 ^ k).log2 + 2)) = if n = 0 then 2 ^ min k 2 else 2 ^ k := by
    rw [Nat.shiftLeft_eq, Nat.one_mul]
    by_cases h : n = 0
    · subst h; simp
    · rw [if_neg h, log2_mul_pow (by omega), Nat.min_eq_left (by omega)]
  unfold Toward.cut
  simp only [key]
  by_cases h : n = 0
  · subst h
    have hp : 0 < 2 ^ min k 2 := Nat.two_pow_pos _
    simp only [if_true, Nat.zero_mul, Nat.zero_div, Nat.zero_mod, Nat.mul_zero, Nat.zero_add]
    cases way <;> simp <;> omega
  · have hp : 0 < 2 ^ k := Nat.two_pow_pos _
    simp only [if_neg h, Nat.mul_div_cancel _ hp, Nat.mul_mod_left, Nat.mul_zero]
    cases way <;> simp <;> omega
theorem nearest_scale {n : Nat} (s : Bool) (h : 0 < n) (h2 : n < 2 ^ 53) (k : Nat) : double.nearest s (n * 2 ^ k) (-(k : Int)) = double.word s ((n.log2 + 1022) * 2 ^ 52 + n * 2 ^ (52 - n.log2)) := by
  have he := log2_lt53 h h2
  obtain ⟨b1, b2⟩ := log2_bounds h
  have hp : 0 < 2 ^ k := Nat.two_pow_pos _
  have hm : n * 2 ^ k ≠ 0 := Nat.ne_of_gt (Nat.mul_pos h hp)
  have hl := log2_mul_pow (k := k) h
  have hlast : max (-(k : Int) + ((n * 2 ^ k).log2 : Nat) - (double.fractionBits : Int)) double.leastPlace = (n.log2 : Int) - 52 := by
    have e1 : double.leastPlace = -1074 := by decide
    have e2 : double.fractionBits = 52 := rfl
    rw [hl, e1, e2]
    omega
  have hcut : Toward.even.cut s ((n * 2 ^ k) <<< (-(k : Int) - ((n.log2 : Int) - 52)).toNat) (((n.log2 : Int) - 52) - -(k : Int)).toNat = n * 2 ^ (52 - n.log2) := by
    rcases Nat.lt_or_ge (n.log2 + k) 52 with h3 | h3
    · have e1 : (-(k : Int) - ((n.log2 : Int) - 52)).toNat = 52 - n.log2 - k := by omega
      have e2 : (((n.log2 : Int) - 52) - -(k : Int)).toNat = 0 := by omega
      rw [e1, e2, Nat.shiftLeft_eq, Nat.mul_assoc, ← Nat.pow_add, show k + (52 - n.log2 - k) = 52 - n.log2 by omega]
      have := cut_exact .even s (n * 2 ^ (52 - n.log2)) 0
      simpa using this
    · have e1 : (-(k : Int) - ((n.log2 : Int) - 52)).toNat = 0 := by omega
      have e2 : (((n.log2 : Int) - 52) - -(k : Int)).toNat = n.log2 + k - 52 := by omega
      rw [e1, e2, Nat.shiftLeft_eq, Nat.pow_zero, Nat.mul_one]
      have := cut_exact .even s (n * 2 ^ (52 - n.log2)) (n.log2 + k - 52)
      rw [Nat.mul_assoc, ← Nat.pow_add, show 52 - n.log2 + (n.log2 + k - 52) = k by omega] at this
      exact this
  have hb : n * 2 ^ (52 - n.log2) < 2 ^ 53 := by
    calc n * 2 ^ (52 - n.log2) < 2 ^ (n.log2 + 1) * 2 ^ (52 - n.log2) := Nat.mul_lt_mul_of_lt_of_le b2 (Nat.le_refl _) (Nat.two_pow_pos _)
      _ = 2 ^ 53 := by rw [← Nat.pow_add, show n.log2 + 1 + (52 - n.log2) = 53 by omega]
  unfold Format.nearest
  rw [if_neg hm]
  dsimp only
  rw [hlast, hcut]
  have e1 : (((n.log2 : Int) - 52) - double.leastPlace).toNat = n.log2 + 1022 := by
    rw [show double.leastPlace = -1074 by decide]; omega
  rw [e1, show double.binade = 2 ^ 52 from rfl]
  rw [Nat.min_eq_left]
  rw [show double.infRung = 2047 * 2 ^ 52 by decide]
  omega
theorem fl_bits {n : Nat} (s : Bool) (h : 0 < n) (h2 : n < 2 ^ 53) : fl s n = double.word s ((n.log2 + 1022) * 2 ^ 52 + n * 2 ^ (52 - n.log2)) := by
  have := nearest_scale s h h2 0
  simpa [fl] using this
theorem fl_scale {n : Nat} (s : Bool) (h2 : n < 2 ^ 53) (k : Nat) : double.nearest s (n * 2 ^ k) (-(k : Int)) = fl s n := by
  rcases Nat.eq_zero_or_pos n with h | h
  · subst h; simp [fl, Format.nearest]
  · rw [nearest_scale s h h2, fl_bits s h h2]
theorem mant {n : Nat} (h : 0 < n) (h2 : n < 2 ^ 53) : 2 ^ 52 ≤ n * 2 ^ (52 - n.log2) ∧ n * 2 ^ (52 - n.log2) < 2 ^ 53 := by
  have he := log2_lt53 h h2
  obtain ⟨b1, b2⟩ := log2_bounds h
  constructor
  · calc 2 ^ 52 = 2 ^ n.log2 * 2 ^ (52 - n.log2) := by rw [← Nat.pow_add, show n.log2 + (52 - n.log2) = 52 by omega]
      _ ≤ _ := Nat.mul_le_mul_right _ b1
  · calc n * 2 ^ (52 - n.log2) < 2 ^ (n.log2 + 1) * 2 ^ (52 - n.log2) := Nat.mul_lt_mul_of_lt_of_le b2 (Nat.le_refl _) (Nat.two_pow_pos _)
      _ = 2 ^ 53 := by rw [← Nat.pow_add, show n.log2 + 1 + (52 - n.log2) = 53 by omega]
theorem read_word {r : Nat} (s : Bool) (hr : r < double.signWeight) : double.read (double.word s r) = (if r < double.binade then .number s r double.leastPlace
  else if r < double.infRung then .number s (double.binade + r % double.binade) (double.leastPlace + (r / double.binade - 1 : Nat))
  else if r = double.infRung then .infinity s else .nan s (r - double.infRung)) := by
  have hw : double.signWeight = 2 ^ 63 := rfl
  have e1 : double.word s r / double.signWeight % 2 = if s then 1 else 0 := by
    unfold Format.word
    rw [hw] at hr ⊢
    cases s
    · simp only [Bool.false_eq_true, if_false]; omega
    · simp only [if_true]; omega
  have e2 : double.word s r % double.signWeight = r := by
    unfold Format.word
    rw [hw] at hr ⊢
    cases s
    · simp only [Bool.false_eq_true, if_false]; omega
    · simp only [if_true]; omega
  unfold Format.read
  simp only [e1, e2]
  cases s <;> simp
theorem read_exp {e m : Nat} (s : Bool) (he : e < 2046) (h1 : 2 ^ 52 ≤ m) (h2 : m < 2 ^ 53) : double.read (double.word s (e * 2 ^ 52 + m)) = .number s m ((e : Int) - 1074) := by
  have hr : e * 2 ^ 52 + m < double.infRung := by
    rw [show double.infRung = 2047 * 2 ^ 52 by decide]; omega
  rw [read_word s (Nat.lt_trans hr (Format.infRung_lt _))]
  have hb : double.binade = 2 ^ 52 := rfl
  rw [if_neg (by rw [hb]; omega), if_pos hr, hb]
  have e1 : (e * 2 ^ 52 + m) % 2 ^ 52 = m - 2 ^ 52 := by omega
  have e2 : (e * 2 ^ 52 + m) / 2 ^ 52 = e + 1 := by omega
  rw [e1, e2, show double.leastPlace = -1074 by decide]
  have e3 : 2 ^ 52 + (m - 2 ^ 52) = m := by omega
  have e4 : (-1074 : Int) + ((e + 1 - 1 : Nat) : Int) = (e : Int) - 1074 := by omega
  rw [e3, e4]
theorem read_fl {n : Nat} (s : Bool) (h2 : n < 2 ^ 53) : ∃ k : Nat, double.read (fl s n) = .number s (n * 2 ^ k) (-(k : Int)) := by
  rcases Nat.eq_zero_or_pos n with h | h
  · subst h
    obtain ⟨k, hk⟩ : ∃ k : Nat, k = 1074 := ⟨_, rfl⟩
    refine ⟨k, ?_⟩
    have : fl s 0 = double.word s 0 := by simp [fl, Format.nearest]
    rw [this, read_word s (by decide), if_pos (by decide)]
    rw [show double.leastPlace = -1074 by decide, Nat.zero_mul, hk]; rfl
  · have he := log2_lt53 h h2
    obtain ⟨m1, m2⟩ := mant h h2
    refine ⟨52 - n.log2, ?_⟩
    rw [fl_bits s h h2, read_exp s (by omega) m1 m2]
    have e4 : ((n.log2 + 1022 : Nat) : Int) - 1074 = -((52 - n.log2 : Nat) : Int) := by omega
    rw [e4]
def sg (s : Bool) (n : Nat) : Int := if s then -(n : Int) else n
theorem signed_eq (s : Bool) (n k K : Nat) (h : k ≤ K) : signed s (n * 2 ^ k) (-(k : Int) - -(K : Int)).toNat = sg s n * 2 ^ K := by
  have e : (-(k : Int) - -(K : Int)).toNat = K - k := by omega
  have e2 : (n * 2 ^ k) <<< (K - k) = n * 2 ^ K := by
    rw [Nat.shiftLeft_eq, Nat.mul_assoc, ← Nat.pow_add, show k + (K - k) = K by omega]
  unfold signed sg
  rw [e, e2]
  cases s <;> simp [Int.neg_mul]
def sumS (s t : Bool) (T : Int) : Bool := if T = 0 then s && t else decide (T < 0)
theorem pow_pos' (K : Nat) : (0 : Int) < 2 ^ K := by
  have : (0 : Nat) < 2 ^ K := Nat.two_pow_pos _
  exact_mod_cast this
theorem sum_fl {m n : Nat} (s t : Bool) (hm : m < 2 ^ 53) (hn : n < 2 ^ 53) (hT : (sg s m + sg t n).natAbs < 2 ^ 53) :
    ((double.read (fl s m)).sum (double.read (fl t n))).map double.write = some (fl (sumS s t (sg s m + sg t n)) (sg s m + sg t n).natAbs) := by
  obtain ⟨k1, e1⟩ := read_fl s hm
  obtain ⟨k2, e2⟩ := read_fl t hn
  rw [e1, e2]
  have hbase : min (-(k1 : Int)) (-(k2 : Int)) = -((max k1 k2 : Nat) : Int) := by omega
  simp only [Datum.sum, hbase, signed_eq s m k1 (max k1 k2) (by omega), signed_eq t n k2 (max k1 k2) (by omega), ← Int.add_mul]
  generalize max k1 k2 = K
  generalize hTd : sg s m + sg t n = T at hT
  have hp := pow_pos' K
  have h0 : T * 2 ^ K = 0 ↔ T = 0 := by
    constructor
    · intro h
      rcases Int.mul_eq_zero.1 h with h | h
      · exact h
      · omega
    · intro h; rw [h]; simp
  have hneg : T * 2 ^ K < 0 ↔ T < 0 := by
    constructor
    · intro h
      by_cases h1 : T < 0
      · exact h1
      · have := Int.mul_nonneg (show 0 ≤ T by omega) (Int.le_of_lt hp); omega
    · intro h; exact Int.mul_neg_of_neg_of_pos h hp
  have habs : (T * 2 ^ K).natAbs = T.natAbs * 2 ^ K := by rw [Int.natAbs_mul]; congr 1
  simp only [Option.map_some, Format.write, habs, Option.some.injEq, h0, hneg]
  rw [← fl_scale _ hT K]
  rfl
theorem add_fl {m n : Nat} (s t : Bool) (hm : m < 2 ^ 53) (hn : n < 2 ^ 53) (hT : (sg s m + sg t n).natAbs < 2 ^ 53) : double.add (fl s m) (fl t n) = some (fl (sumS s t (sg s m + sg t n)) (sg s m + sg t n).natAbs) :=
  sum_fl s t hm hn hT
theorem opp_fl {n : Nat} (s : Bool) (h : n < 2 ^ 53) : (double.read (fl s n)).opposite = double.read (fl (!s) n) := by
  rcases Nat.eq_zero_or_pos n with h0 | h0
  · subst h0
    have : ∀ s, fl s 0 = double.word s 0 := fun s => by simp [fl, Format.nearest]
    rw [this, this, read_word s (by decide), read_word (!s) (by decide), if_pos (by decide), if_pos (by decide)]
    rfl
  · have he := log2_lt53 h0 h
    obtain ⟨m1, m2⟩ := mant h0 h
    rw [fl_bits s h0 h, fl_bits (!s) h0 h, read_exp s (by omega) m1 m2, read_exp (!s) (by omega) m1 m2]
    rfl
theorem sg_not (s : Bool) (n : Nat) : sg (!s) n = - sg s n := by cases s <;> simp [sg]
theorem sub_fl {m n : Nat} (s t : Bool) (hm : m < 2 ^ 53) (hn : n < 2 ^ 53) (hT : (sg s m - sg t n).natAbs < 2 ^ 53) : double.sub (fl s m) (fl t n) = some (fl (sumS s (!t) (sg s m - sg t n)) (sg s m - sg t n).natAbs) := by
  unfold Format.sub
  rw [opp_fl t hn]
  have e : sg s m + sg (!t) n = sg s m - sg t n := by rw [sg_not]; omega
  have := sum_fl s (!t) hm hn (by rw [e]; exact hT)
  rw [e] at this
  exact this
theorem mul_fl {m n : Nat} (s t : Bool) (hm : m < 2 ^ 53) (hn : n < 2 ^ 53) (hT : m * n < 2 ^ 53) : double.mul (fl s m) (fl t n) = some (fl (s ^^ t) (m * n)) := by
  obtain ⟨k1, e1⟩ := read_fl s hm
  obtain ⟨k2, e2⟩ := read_fl t hn
  unfold Format.mul
  rw [e1, e2]
  simp only [Datum.product, Option.map_some, Format.write, Option.some.injEq]
  have e3 : m * 2 ^ k1 * (n * 2 ^ k2) = m * n * 2 ^ (k1 + k2) := by rw [Nat.pow_add]; ac_rfl
  have e4 : -(k1 : Int) + -(k2 : Int) = -((k1 + k2 : Nat) : Int) := by omega
  rw [e3, e4]
  exact fl_scale _ hT _
theorem order_fl {m n : Nat} (s t : Bool) (hm : m < 2 ^ 53) (hn : n < 2 ^ 53) : double.order (fl s m) (fl t n) = some (compare (sg s m) (sg t n)) := by
  obtain ⟨k1, e1⟩ := read_fl s hm
  obtain ⟨k2, e2⟩ := read_fl t hn
  unfold Format.order
  rw [e1, e2]
  have hbase : min (-(k1 : Int)) (-(k2 : Int)) = -((max k1 k2 : Nat) : Int) := by omega
  simp only [Datum.order, hbase, signed_eq s m k1 (max k1 k2) (by omega), signed_eq t n k2 (max k1 k2) (by omega), Option.some.injEq]
  have hp := pow_pos' (max k1 k2)
  generalize max k1 k2 = K at hp
  generalize sg s m = x
  generalize sg t n = y
  rcases Int.lt_trichotomy x y with h | h | h
  · have h2 : x * 2 ^ K < y * 2 ^ K := Int.mul_lt_mul_of_pos_right h hp
    simp only [compare, compareOfLessAndEq, if_pos h, if_pos h2]
  · subst h; simp [compare, compareOfLessAndEq]
  · have h2 : y * 2 ^ K < x * 2 ^ K := Int.mul_lt_mul_of_pos_right h hp
    simp only [compare, compareOfLessAndEq, if_neg (show ¬ x < y by omega), if_neg (show ¬ x = y by omega), if_neg (show ¬ x * 2 ^ K < y * 2 ^ K by omega), if_neg (show ¬ x * 2 ^ K = y * 2 ^ K by omega)]
theorem toInt_fl {n : Nat} (s : Bool) (h : n < 2 ^ 53) : (double.read (fl s n)).toInt .zero = some (sg s n) := by
  obtain ⟨k, e⟩ := read_fl s h
  rw [e]
  have e1 : (-(k : Int)).toNat = 0 := by omega
  have e2 : (- -(k : Int)).toNat = k := by omega
  simp only [Datum.toInt, Datum.integral, e1, e2, Nat.shiftLeft_zero, cut_exact, signed, sg]
end Go.Fl
end
section
set_option linter.unusedVariables false
set_option linter.unusedSimpArgs false
namespace Go.Fl
open Ieee
theorem and_split {i a b x y : Nat} (ha : a < 2 ^ i) (hb : b < 2 ^ i) : (2 ^ i * x + a) &&& (2 ^ i * y + b) = 2 ^ i * (x &&& y) + (a &&& b) := by
  refine Nat.eq_of_testBit_eq fun j => ?_
  have hab : a &&& b < 2 ^ i := Nat.lt_of_le_of_lt Nat.and_le_left ha
  rw [Nat.testBit_and, Nat.testBit_two_pow_mul_add _ ha, Nat.testBit_two_pow_mul_add _ hb, Nat.testBit_two_pow_mul_add _ hab]
  split <;> simp [Nat.testBit_and]
theorem or_split {i a b x y : Nat} (ha : a < 2 ^ i) (hb : b < 2 ^ i) : (2 ^ i * x + a) ||| (2 ^ i * y + b) = 2 ^ i * (x ||| y) + (a ||| b) := by
  refine Nat.eq_of_testBit_eq fun j => ?_
  have hab : a ||| b < 2 ^ i := Nat.or_lt_two_pow ha hb
  rw [Nat.testBit_or, Nat.testBit_two_pow_mul_add _ ha, Nat.testBit_two_pow_mul_add _ hb, Nat.testBit_two_pow_mul_add _ hab]
  split <;> simp [Nat.testBit_or]
theorem clear_exp {f lo : Nat} (hf : f < 2 ^ 11) (hl : lo < 2 ^ 52) : (2 ^ 52 * f + lo) &&& 9227875636482146303 = lo := by
  have e : 9227875636482146303 = 2 ^ 63 * 1 + (2 ^ 52 * 0 + (2 ^ 52 - 1)) := by decide
  have h1 : 2 ^ 52 * f + lo < 2 ^ 63 := by omega
  have h0 : 2 ^ 52 * f + lo = 2 ^ 63 * 0 + (2 ^ 52 * f + lo) := by omega
  rw [e, h0, and_split h1 (by decide), and_split hl (by decide), Nat.and_two_pow_sub_one_eq_mod, Nat.mod_eq_of_lt hl]
  simp
theorem set_exp {k lo : Nat} (hl : lo < 2 ^ 52) : lo ||| (2 ^ 52 * k) = 2 ^ 52 * k + lo := by
  have h0 : lo = 2 ^ 52 * 0 + lo := by omega
  have h1 : 2 ^ 52 * k = 2 ^ 52 * k + 0 := by omega
  rw [h0, h1, or_split hl (by decide)]
  simp
theorem clear_sign {r : Nat} (h : r < 2 ^ 63) (s : Bool) : (double.word s r) &&& 9223372036854775807 = r := by
  have e : 9223372036854775807 = 2 ^ 63 - 1 := by decide
  rw [e, Nat.and_two_pow_sub_one_eq_mod]
  unfold Format.word
  have hw : double.signWeight = 2 ^ 63 := rfl
  rw [hw]
  cases s
  · simp only [Bool.false_eq_true, if_false]; omega
  · simp only [if_true]; omega
def ex (n : Nat) : Nat := n.log2 + 1023
def lo (n : Nat) : Nat := n * 2 ^ (52 - n.log2) - 2 ^ 52
theorem ex_lt {n : Nat} (h : 0 < n) (h2 : n < 2 ^ 53) : ex n < 2 ^ 11 := by
  have := log2_lt53 h h2; unfold ex; omega
theorem lo_lt {n : Nat} (h : 0 < n) (h2 : n < 2 ^ 53) : lo n < 2 ^ 52 := by
  have := mant h h2; unfold lo; omega
theorem fl_ex {n : Nat} (h : 0 < n) (h2 : n < 2 ^ 53) : fl false n = 2 ^ 52 * ex n + lo n := by
  have := mant h h2
  rw [fl_bits false h h2]
  unfold ex lo Format.word
  simp only [Bool.false_eq_true, if_false]
  omega
theorem fl_zero (s : Bool) : fl s 0 = double.word s 0 := by simp [fl, Format.nearest]
theorem fl_word {n : Nat} (s : Bool) (h2 : n < 2 ^ 53) : ∃ r, r < 2047 * 2 ^ 52 ∧ ∀ s, fl s n = double.word s r := by
  rcases Nat.eq_zero_or_pos n with h | h
  · subst h; exact ⟨0, by decide, fun s => fl_zero s⟩
  · have he := log2_lt53 h h2
    have := mant h h2
    refine ⟨_, ?_, fun s => fl_bits s h h2⟩
    omega
theorem abs_fl {n : Nat} (s : Bool) (h2 : n < 2 ^ 53) : fl s n &&& 9223372036854775807 = fl false n := by
  obtain ⟨r, hr, e⟩ := fl_word s h2
  rw [e, e, clear_sign (by omega)]
  rfl
theorem fl_lt {n : Nat} (s : Bool) (h2 : n < 2 ^ 53) : fl s n < 2 ^ 64 := by
  obtain ⟨r, hr, e⟩ := fl_word s h2
  have hw : double.signWeight = 2 ^ 63 := rfl
  rw [e]
  unfold Format.word
  rw [hw]
  split <;> omega
def fr (n : Nat) : Nat := 2 ^ 52 * 1022 + lo n
theorem read_fr {n : Nat} (h : 0 < n) (h2 : n < 2 ^ 53) : double.read (fr n) = .number false (n * 2 ^ (52 - n.log2)) (-53) := by
  obtain ⟨m1, m2⟩ := mant h h2
  have e : fr n = double.word false (1021 * 2 ^ 52 + n * 2 ^ (52 - n.log2)) := by
    unfold fr lo Format.word
    simp only [Bool.false_eq_true, if_false]
    omega
  rw [e, read_exp false (by omega) m1 m2]
  rfl
theorem order_fr {m n : Nat} (hm : 0 < m) (hm2 : m < 2 ^ 53) (hn : 0 < n) (hn2 : n < 2 ^ 53) : double.order (fr m) (fr n) = some (compare (m * 2 ^ (52 - m.log2)) (n * 2 ^ (52 - n.log2))) := by
  unfold Format.order
  rw [read_fr hm hm2, read_fr hn hn2]
  have e : (-53 - min (-53 : Int) (-53)).toNat = 0 := by decide
  simp only [Datum.order, e, signed, Bool.false_eq_true, if_false, Nat.shiftLeft_zero, Option.some.injEq]
  simp only [compare, compareOfLessAndEq]
  generalize m * 2 ^ (52 - m.log2) = x
  generalize n * 2 ^ (52 - n.log2) = y
  by_cases h1 : x < y
  · rw [if_pos h1, if_pos (by omega)]
  · rw [if_neg h1, if_neg (show ¬ (x : Int) < (y : Int) by omega)]
    by_cases h2 : x = y
    · rw [if_pos h2, if_pos (by omega)]
    · rw [if_neg h2, if_neg (by omega)]
theorem log2_mono {m n : Nat} (h : 0 < m) (hmn : m ≤ n) : m.log2 ≤ n.log2 := by
  have h1 := (log2_bounds h).1
  have h2 := (log2_bounds (Nat.lt_of_lt_of_le h hmn)).2
  rcases Nat.lt_or_ge n.log2 m.log2 with h3 | h3
  · have := Nat.pow_le_pow_right (n := 2) (by omega) (show n.log2 + 1 ≤ m.log2 by omega)
    omega
  · exact h3
def lift (p r : Nat) : Nat := r.log2 - p.log2 - (if r * 2 ^ (52 - r.log2) < p * 2 ^ (52 - p.log2) then 1 else 0)
theorem lift_int {p r : Nat} (hp : 0 < p) (hr : p ≤ r) (h2 : r < 2 ^ 53) : ((lift p r : Nat) : Int) = (r.log2 : Int) - (p.log2 : Int) - (if r * 2 ^ (52 - r.log2) < p * 2 ^ (52 - p.log2) then 1 else 0) := by
  have hl := log2_mono hp hr
  unfold lift
  split
  · rename_i h
    have : p.log2 ≠ r.log2 := by
      intro e
      rw [e] at h
      have := Nat.lt_of_mul_lt_mul_right h
      omega
    omega
  · omega
theorem lift_le {p r : Nat} (hp : 0 < p) (hr : p ≤ r) (h2 : r < 2 ^ 53) : p * 2 ^ lift p r ≤ r := by
  have hl := log2_mono hp hr
  have hr0 : 0 < r := by omega
  have h52 := log2_lt53 hr0 h2
  obtain ⟨a1, a2⟩ := log2_bounds hp
  obtain ⟨b1, b2⟩ := log2_bounds hr0
  have hi := lift_int hp hr h2
  by_cases h : r * 2 ^ (52 - r.log2) < p * 2 ^ (52 - p.log2)
  · rw [if_pos h] at hi
    have e : p.log2 + 1 + lift p r = r.log2 := by omega
    calc p * 2 ^ lift p r ≤ 2 ^ (p.log2 + 1) * 2 ^ lift p r := Nat.mul_le_mul_right _ (by omega)
      _ = 2 ^ r.log2 := by rw [← Nat.pow_add, e]
      _ ≤ r := b1
  · rw [if_neg h] at hi
    have e : r.log2 = p.log2 + lift p r := by omega
    have h3 : p * 2 ^ (52 - p.log2) ≤ r * 2 ^ (52 - r.log2) := by omega
    have e2 : 52 - p.log2 = lift p r + (52 - r.log2) := by omega
    rw [e2, Nat.pow_add, ← Nat.mul_assoc] at h3
    exact Nat.le_of_mul_le_mul_right h3 (Nat.two_pow_pos _)
theorem fl_lift {p d : Nat} (hp : 0 < p) (h2 : p * 2 ^ d < 2 ^ 53) : fl false (p * 2 ^ d) = 2 ^ 52 * (ex p + d) + lo p := by
  have hp2 : p < 2 ^ 53 := Nat.lt_of_le_of_lt (Nat.le_mul_of_pos_right _ (Nat.two_pow_pos _)) h2
  have h0 : 0 < p * 2 ^ d := Nat.mul_pos hp (Nat.two_pow_pos _)
  rw [fl_ex h0 h2]
  have hl := log2_mul_pow (k := d) hp
  have h52 := log2_lt53 h0 h2
  have e1 : ex (p * 2 ^ d) = ex p + d := by unfold ex; omega
  have e2 : lo (p * 2 ^ d) = lo p := by
    unfold lo
    rw [hl, Nat.mul_assoc, ← Nat.pow_add, show d + (52 - (p.log2 + d)) = 52 - p.log2 by omega]
  rw [e1, e2]
theorem rem_round {p r d : Nat} (h : p * 2 ^ d ≤ r) : (r - p * 2 ^ d) % p = r % p := by
  have : r = (r - p * 2 ^ d) + p * 2 ^ d := by omega
  conv => rhs; rw [this]
  rw [Nat.add_mul_mod_self_left]
end Go.Fl
end
section
set_option linter.unusedVariables false
set_option linter.unusedSimpArgs false
namespace Go.Fl
open Ieee Go.Av
abbrev F (s : Bool) (n : Nat) : AV := .sc (.float .f64 (fl s n))
theorem fl00 : fl false 0 = 0 := by rw [fl_zero]; rfl
theorem wrap_u64 (n : Nat) (h : n < 2 ^ 64) : IntKind.u64.wrap (n : Int) = (n : Int) := by
  exact IntWalk.u64_in _ ⟨by omega, by omega⟩
theorem bv_nat (a : Nat) (h : a < 2 ^ 64) : (BitVec.ofInt 64 (a : Int)).toNat = a := by
  rw [BitVec.ofInt_natCast, BitVec.toNat_ofNat, Nat.mod_eq_of_lt h]
theorem w_and (a b : Nat) (ha : a < 2 ^ 64) (hb : b < 2 ^ 64) : IntKind.u64.wrap ((BitVec.ofInt 64 (a : Int) &&& BitVec.ofInt 64 (b : Int)).toNat : Int) = ((a &&& b : Nat) : Int) := by
  rw [BitVec.toNat_and, bv_nat a ha, bv_nat b hb]
  exact wrap_u64 _ (Nat.lt_of_le_of_lt Nat.and_le_left ha)
theorem w_or (a b : Nat) (ha : a < 2 ^ 64) (hb : b < 2 ^ 64) : IntKind.u64.wrap ((BitVec.ofInt 64 (a : Int) ||| BitVec.ofInt 64 (b : Int)).toNat : Int) = ((a ||| b : Nat) : Int) := by
  rw [BitVec.toNat_or, bv_nat a ha, bv_nat b hb]
  exact wrap_u64 _ (Nat.or_lt_two_pow ha hb)
theorem w_not (a b c : Nat) (ha : a < 2 ^ 64) (hc : (~~~(BitVec.ofInt 64 (b : Int))).toNat = c) : IntKind.u64.wrap ((BitVec.ofInt 64 (a : Int) &&& ~~~(BitVec.ofInt 64 (b : Int))).toNat : Int) = ((a &&& c : Nat) : Int) := by
  rw [BitVec.toNat_and, bv_nat a ha, hc]
  exact wrap_u64 _ (Nat.lt_of_le_of_lt Nat.and_le_left ha)
theorem w_abs {n : Nat} (s : Bool) (h : n < 2 ^ 53) : IntKind.u64.wrap ((BitVec.ofInt 64 (fl s n : Int) &&& ~~~(BitVec.ofInt 64 9223372036854775808)).toNat : Int) = (fl false n : Int) := by
  have := w_not (fl s n) 9223372036854775808 9223372036854775807 (fl_lt s h) (by decide)
  rw [abs_fl s h] at this
  exact this
theorem w_clear {f l : Nat} (hf : f < 2 ^ 11) (hl : l < 2 ^ 52) : IntKind.u64.wrap ((BitVec.ofInt 64 ((2 ^ 52 * f + l : Nat) : Int) &&& ~~~(BitVec.ofInt 64 9218868437227405312)).toNat : Int) = (l : Int) := by
  have := w_not (2 ^ 52 * f + l) 9218868437227405312 9227875636482146303 (by omega) (by decide)
  rw [clear_exp hf hl] at this
  exact this
theorem m_abs {n : Nat} (s : Bool) (h : n < 2 ^ 53) : notI .u64 (fl s n : Int) 9223372036854775808 = (fl false n : Int) := w_abs s h
theorem m_clear {f l : Nat} (hf : f < 2 ^ 11) (hl : l < 2 ^ 52) : notI .u64 ((2 ^ 52 * f + l : Nat) : Int) 9218868437227405312 = (l : Int) := w_clear hf hl
theorem m_exp {f : Nat} (hf : f < 2 ^ 11) : andI .u64 (f : Int) 2047 = (f : Int) := by
  have := w_and f 2047 (by omega) (by decide)
  have e3 : f &&& 2047 = f := by
    have e : (2047 : Nat) = 2 ^ 11 - 1 := by decide
    rw [e, Nat.and_two_pow_sub_one_eq_mod, Nat.mod_eq_of_lt hf]
  rw [e3] at this
  exact this
theorem m_half {l : Nat} (hl : l < 2 ^ 52) : orI .u64 (l : Int) 4602678819172646912 = ((2 ^ 52 * 1022 + l : Nat) : Int) := by
  have := w_or l 4602678819172646912 (by omega) (by decide)
  have e : (4602678819172646912 : Nat) = 2 ^ 52 * 1022 := by decide
  rw [e, set_exp hl] at this
  exact this
theorem ord_fl {m n : Nat} (s t : Bool) (hm : m < 2 ^ 53) (hn : n < 2 ^ 53) : FloatKind.f64.format.order (fl s m) (fl t n) = some (compare (sg s m) (sg t n)) := order_fl s t hm hn
theorem ord_self {n : Nat} (s : Bool) (h : n < 2 ^ 53) : FloatKind.f64.format.order (fl s n) (fl s n) = some .eq := by
  rw [ord_fl s s h h]; simp [compare, compareOfLessAndEq]
theorem ord_zero {n : Nat} (s : Bool) (h : n < 2 ^ 53) : FloatKind.f64.format.order (fl s n) 0 = some (compare (sg s n) 0) := by
  have := ord_fl s false h (show 0 < 2 ^ 53 by decide)
  rw [fl00] at this
  simpa [sg] using this
theorem sg_false (n : Nat) : sg false n = (n : Int) := rfl
theorem sg_true (n : Nat) : sg true n = -(n : Int) := rfl
theorem ord_max {n : Nat} (h : n < 2 ^ 53) : FloatKind.f64.format.order (fl false n) 9218868437227405311 = some .lt := by
  obtain ⟨k, e⟩ := read_fl false h
  have e2 : double.read 9218868437227405311 = .number false 9007199254740991 971 := by decide
  change ((double.read (fl false n)).order (double.read 9218868437227405311)) = _
  rw [e, e2]
  have hb : min (-(k : Int)) 971 = -(k : Int) := by omega
  have e3 : (-(k : Int) - -(k : Int)).toNat = 0 := by omega
  have e4 : ((971 : Int) - -(k : Int)).toNat = 971 + k := by omega
  simp only [Datum.order, hb, e3, e4, signed, Bool.false_eq_true, if_false, Nat.shiftLeft_zero, Option.some.injEq, Nat.shiftLeft_eq, Nat.pow_zero, Nat.mul_one]
  have hlt : n * 2 ^ k < 9007199254740991 * 2 ^ (971 + k) := by
    calc n * 2 ^ k < 2 ^ 53 * 2 ^ k := Nat.mul_lt_mul_of_lt_of_le h (Nat.le_refl _) (Nat.two_pow_pos _)
      _ ≤ 9007199254740991 * (2 * 2 ^ k) := by generalize 2 ^ k = z; omega
      _ ≤ 9007199254740991 * 2 ^ (971 + k) := Nat.mul_le_mul_left _ (by rw [← Nat.pow_succ']; exact Nat.pow_le_pow_right (by omega) (by omega))
  have : (compare ((n * 2 ^ k : Nat) : Int) ((9007199254740991 * 2 ^ (971 + k) : Nat) : Int)) = .lt := by
    generalize n * 2 ^ k = x at hlt
    generalize 9007199254740991 * 2 ^ (971 + k) = y at hlt
    simp only [compare, compareOfLessAndEq, if_pos (show (x : Int) < (y : Int) by omega)]
  exact this
theorem ord_least {n : Nat} (h0 : 0 < n) (h : n < 2 ^ 53) : FloatKind.f64.format.order (fl false n) 4503599627370496 = some .gt := by
  have he := log2_lt53 h0 h
  obtain ⟨m1, m2⟩ := mant h0 h
  have e : double.read (fl false n) = .number false (n * 2 ^ (52 - n.log2)) ((n.log2 : Int) - 52) := by
    rw [fl_bits false h0 h, read_exp false (by omega) m1 m2]
    have : ((n.log2 + 1022 : Nat) : Int) - 1074 = (n.log2 : Int) - 52 := by omega
    rw [this]
  have e2 : double.read 4503599627370496 = .number false 4503599627370496 (-1074) := by decide
  change ((double.read (fl false n)).order (double.read 4503599627370496)) = _
  rw [e, e2]
  have hb : min ((n.log2 : Int) - 52) (-1074) = -1074 := by omega
  have e3 : ((n.log2 : Int) - 52 - -1074).toNat = n.log2 + 1022 := by omega
  have e4 : ((-1074 : Int) - -1074).toNat = 0 := by decide
  simp only [Datum.order, hb, e3, e4, signed, Bool.false_eq_true, if_false, Nat.shiftLeft_zero, Option.some.injEq, Nat.shiftLeft_eq]
  generalize hm : n * 2 ^ (52 - n.log2) = m at m1 m2
  have hlt : 4503599627370496 < m * 2 ^ (n.log2 + 1022) := by
    calc 4503599627370496 < 2 ^ 52 * 2 := by decide
      _ ≤ m * 2 ^ (n.log2 + 1022) := Nat.mul_le_mul m1 (by
          calc 2 = 2 ^ 1 := rfl
            _ ≤ _ := Nat.pow_le_pow_right (by omega) (by omega))
  generalize m * 2 ^ (n.log2 + 1022) = x at hlt
  have h1 : ¬ ((x : Int) < ((4503599627370496 : Nat) : Int)) := by omega
  have h2 : ¬ ((x : Int) = ((4503599627370496 : Nat) : Int)) := by omega
  simp only [compare, compareOfLessAndEq, if_neg h1, if_neg h2]
theorem ord_fr {m n : Nat} (hm : 0 < m) (hm2 : m < 2 ^ 53) (hn : 0 < n) (hn2 : n < 2 ^ 53) : FloatKind.f64.format.order (fr m) (fr n) = some (compare (m * 2 ^ (52 - m.log2)) (n * 2 ^ (52 - n.log2))) := order_fr hm hm2 hn hn2
theorem fb_add {m n : Nat} (s t : Bool) (hm : m < 2 ^ 53) (hn : n < 2 ^ 53) (hT : (sg s m + sg t n).natAbs < 2 ^ 53) : floatBits .add .f64 (fl s m) (fl t n) = some (fl (sumS s t (sg s m + sg t n)) (sg s m + sg t n).natAbs) := add_fl s t hm hn hT
theorem fb_sub {m n : Nat} (s t : Bool) (hm : m < 2 ^ 53) (hn : n < 2 ^ 53) (hT : (sg s m - sg t n).natAbs < 2 ^ 53) : floatBits .sub .f64 (fl s m) (fl t n) = some (fl (sumS s (!t) (sg s m - sg t n)) (sg s m - sg t n).natAbs) := sub_fl s t hm hn hT
theorem fb_mul {m n : Nat} (s t : Bool) (hm : m < 2 ^ 53) (hn : n < 2 ^ 53) (hT : m * n < 2 ^ 53) : floatBits .mul .f64 (fl s m) (fl t n) = some (fl (s ^^ t) (m * n)) := mul_fl s t hm hn hT
theorem fb_nat {m n : Nat} (hn : n ≤ m) (hm : m < 2 ^ 53) : floatBits .sub .f64 (fl false m) (fl false n) = some (fl false (m - n)) := by
  have e : sg false m - sg false n = ((m - n : Nat) : Int) := by simp only [sg_false]; omega
  have := fb_sub (m := m) (n := n) false false hm (by omega) (by rw [e]; simp; omega)
  rw [e] at this
  rw [this, Int.natAbs_natCast]
  have : sumS false (!false) ((m - n : Nat) : Int) = false := by
    unfold sumS
    split
    · rfl
    · simp
  rw [this]
theorem xor_split {i a b x y : Nat} (ha : a < 2 ^ i) (hb : b < 2 ^ i) : (2 ^ i * x + a) ^^^ (2 ^ i * y + b) = 2 ^ i * (x ^^^ y) + (a ^^^ b) := by
  refine Nat.eq_of_testBit_eq fun j => ?_
  have hab : a ^^^ b < 2 ^ i := Nat.xor_lt_two_pow ha hb
  rw [Nat.testBit_xor, Nat.testBit_two_pow_mul_add _ ha, Nat.testBit_two_pow_mul_add _ hb, Nat.testBit_two_pow_mul_add _ hab]
  split <;> simp [Nat.testBit_xor]
theorem neg_fl {n : Nat} (s : Bool) (h : n < 2 ^ 53) : Op.negFloat .f64 (fl s n) = fl (!s) n := by
  obtain ⟨r, hr, e⟩ := fl_word s h
  rw [e, e]
  have hw : double.signWeight = 2 ^ 63 := rfl
  have hr' : r < 2 ^ 63 := by omega
  have key : ∀ x : Nat, (2 ^ 63 * x + r) ^^^ (2 ^ 63 * 1 + 0) = 2 ^ 63 * (x ^^^ 1) + r := fun x => by
    rw [xor_split hr' (by decide)]; simp
  change (double.word s r) ^^^ 2 ^ 63 = double.word (!s) r
  unfold Format.word
  rw [hw]
  cases s
  · have := key 0
    simp only [Nat.mul_zero, Nat.zero_add, Nat.mul_one, Nat.add_zero, Nat.zero_xor] at this
    simpa using this
  · have := key 1
    simp only [Nat.mul_one, Nat.add_zero, Nat.xor_self, Nat.mul_zero, Nat.zero_add] at this
    simpa using this
theorem toInt_nat {n : Nat} (h : n < 2 ^ 53) : floatToIntVal .f64 (fl false n) .i64 = some (n : Int) := by
  unfold floatToIntVal
  have : (FloatKind.f64.decode (fl false n)).toInt .zero = some (sg false n) := toInt_fl false h
  rw [this, sg_false]
  have h1 : IntKind.i64.min = -9223372036854775808 := by decide
  have h2 : IntKind.i64.max = 9223372036854775807 := by decide
  simp only
  rw [if_pos (by rw [h1, h2]; omega)]
theorem ofInt_nat (n : Nat) : floatOfInt .f64 (n : Int) = fl false n := by
  unfold floatOfInt FloatKind.nearest fl
  have h1 : decide ((n : Int) < 0) = false := by simp
  rw [h1, Int.natAbs_natCast]; rfl
theorem m_exp' {f : Nat} (hf : f < 2 ^ 11) : andI .i64 (f : Int) 2047 = (f : Int) := by
  have e3 : f &&& 2047 = f := by
    have e : (2047 : Nat) = 2 ^ 11 - 1 := by decide
    rw [e, Nat.and_two_pow_sub_one_eq_mod, Nat.mod_eq_of_lt hf]
  have e1 : (BitVec.ofInt 64 (f : Int) &&& BitVec.ofInt 64 2047).toNat = f := by
    rw [BitVec.toNat_and, bv_nat f (by omega), show (BitVec.ofInt 64 2047).toNat = 2047 by decide, e3]
  have := congrArg (fun x : Nat => IntKind.i64.wrap (x : Int)) e1
  refine Eq.trans this ?_
  exact IntWalk.i64_in _ (by omega)
theorem m_set {k l : Nat} (hk : k < 2 ^ 11) (hl : l < 2 ^ 52) : orI .u64 (l : Int) ((2 ^ 52 * k : Nat) : Int) = ((2 ^ 52 * k + l : Nat) : Int) := by
  have := w_or l (2 ^ 52 * k) (by omega) (by omega)
  rw [set_exp hl] at this
  exact this
theorem m_shl {k : Nat} (hk : k < 2 ^ 11) : IntKind.u64.wrap ((k : Int) * 2 ^ (min (52 : Int).toNat 64)) = ((2 ^ 52 * k : Nat) : Int) := by
  have e3 : (2 : Int) ^ (min (52 : Int).toNat 64) = 4503599627370496 := by decide
  have e4 : (2 : Nat) ^ 52 = 4503599627370496 := by decide
  rw [e3, e4]
  rw [IntWalk.u64_in _ (by omega)]; omega
theorem m_shr {f l : Nat} (hl : l < 2 ^ 52) : ((2 ^ 52 * f + l : Nat) : Int).fdiv (2 ^ (min (52 : Int).toNat 64)) = (f : Int) := by
  have e3 : (2 : Int) ^ (min (52 : Int).toNat 64) = 4503599627370496 := by decide
  have e4 : (2 : Nat) ^ 52 = 4503599627370496 := by decide
  rw [e4] at hl ⊢
  rw [e3, Int.fdiv_eq_ediv_of_nonneg _ (by decide)]
  omega
theorem fl_one : fl false 1 = 4607182418800017408 := by
  rw [fl_bits false (by decide) (by decide)]; decide
theorem mul_one' {n : Nat} (h : n < 2 ^ 53) : floatBits .mul .f64 4607182418800017408 (fl false n) = some (fl false n) := by
  have := fb_mul (m := 1) (n := n) false false (by decide) h (by omega)
  rw [fl_one, Nat.one_mul] at this
  exact this
end Go.Fl
end
section
set_option linter.unusedSimpArgs false
set_option linter.unusedVariables false
set_option maxRecDepth 10000
namespace Go.Proofs.YtkcgpcbpieofnaaGreatDoor.Fl
open Go Go.Av Go.Proofs Go.Proofs.YtkcgpcbpieofnaaGreatDoor.C Go.Fl
theorem abs_p (s : Bool) {n : Nat} (h : n < 2 ^ 53) : PCalls Tryz.prog 239 [F s n] (F false n) := by
  refine f239.pcalls0 (by simp) rfl rfl ?_
  unfold c239
  have w1 := m_abs s h
  repeat (first
    | ((first | apply Wp.seqItemsR | apply Wp.itemsR); (· simp only [go_sem, reduceIte, Nat.reduceEqDiff, Nat.reduceAdd, bx, ax, if_true, if_false, Nat.reduceMul, Nat.reduceLeDiff, w1, Int.toNat_natCast]; exact rfl))
    | (refine WpItems.nil ⟨?_, ?_⟩; (· first | trivial | simp [pairsQ, pairsOk, apart, ent0]))
    | (apply Wp.cond_lit; (· simp only [go_sem, reduceIte, Nat.reduceEqDiff, Nat.reduceAdd, bx, ax, if_true, if_false, Nat.reduceMul, Nat.reduceLeDiff, w1, Int.toNat_natCast]; exact rfl); (· rfl))
    | refine Wp.skip ?_
    | refine Wp.label ?_
    | refine Wp.block ?_
    | refine Wp.exit ?_
    | refine Wp.seq ?_)
  refine Wp.ret ⟨trivial, _, rfl, ?_⟩
  simp only [go_sem, reduceIte, Nat.reduceEqDiff, Nat.reduceAdd, bx]
  exact VSub.refl _
theorem nan_p (s : Bool) {n : Nat} (h : n < 2 ^ 53) : PCalls Tryz.prog 237 [F s n] (.bool false) := by
  refine f237.pcalls0 (by simp) rfl rfl ?_
  unfold c237
  have w1 := ord_self s h
  repeat (first
    | ((first | apply Wp.seqItemsR | apply Wp.itemsR); (· simp only [go_sem, reduceIte, Nat.reduceEqDiff, Nat.reduceAdd, bx, ax, if_true, if_false, Nat.reduceMul, Nat.reduceLeDiff, w1, bne_self_eq_false]; exact rfl))
    | (refine WpItems.nil ⟨?_, ?_⟩; (· first | trivial | simp [pairsQ, pairsOk, apart, ent0]))
    | (apply Wp.cond_lit; (· simp only [go_sem, reduceIte, Nat.reduceEqDiff, Nat.reduceAdd, bx, ax, if_true, if_false, Nat.reduceMul, Nat.reduceLeDiff, w1, bne_self_eq_false]; exact rfl); (· rfl))
    | refine Wp.skip ?_
    | refine Wp.label ?_
    | refine Wp.block ?_
    | refine Wp.exit ?_
    | refine Wp.seq ?_)
  refine Wp.ret ⟨trivial, _, rfl, ?_⟩
  simp only [go_sem, reduceIte, Nat.reduceEqDiff, Nat.reduceAdd, bx]
  exact VSub.refl _
theorem inf_p (s : Bool) {n : Nat} (h : n < 2 ^ 53) : PCalls Tryz.prog 236 [F s n, .int .i64 0] (.bool false) := by
  refine f236.pcalls0 (by simp) rfl rfl ?_
  unfold c236
  have w1 : (FloatKind.f64.format.order (fl false n) 9218868437227405311 == some Ordering.gt) = false := by rw [ord_max h]; rfl
  repeat (first
    | ((first | apply Wp.seqItemsR | apply Wp.itemsR | ((first
        | (refine WpItems.pcall ?_ ?_ (abs_p s h) ?_; (· simp only [go_sem, reduceIte, Nat.reduceEqDiff, Nat.reduceAdd, bx]); (· simp only [go_sem, reduceIte, Nat.reduceEqDiff, Nat.reduceAdd, bx, List.map]; first | exact VSubs.refl _ | (repeat (first | exact VSubs.nil | refine VSubs.cons (by first | exact VSub.refl _ | assumption | exact VSub.cap | exact VSub.any _) ?_))))); apply WpItems.evR)); (· simp only [go_sem, reduceIte, Nat.reduceEqDiff, Nat.reduceAdd, bx, ax, if_true, if_false, Nat.reduceMul, Nat.reduceLeDiff, w1, decide_true]; exact rfl))
    | (refine WpItems.nil ⟨?_, ?_⟩; (· first | trivial | simp [pairsQ, pairsOk, apart, ent0]))
    | (apply Wp.cond_lit; (· simp only [go_sem, reduceIte, Nat.reduceEqDiff, Nat.reduceAdd, bx, ax, if_true, if_false, Nat.reduceMul, Nat.reduceLeDiff, w1, decide_true]; exact rfl); (· rfl))
    | refine Wp.skip ?_
    | refine Wp.label ?_
    | refine Wp.block ?_
    | refine Wp.exit ?_
    | refine Wp.seq ?_)
  refine Wp.ret ⟨trivial, _, rfl, ?_⟩
  simp only [go_sem, reduceIte, Nat.reduceEqDiff, Nat.reduceAdd, bx]
  exact VSub.refl _
theorem norm_p {n : Nat} (h0 : 0 < n) (h : n < 2 ^ 53) : PCalls Tryz.prog 259 [F false n] (.tup [F false n, .int .i64 0]) := by
  refine f259.pcalls0 (by simp) rfl rfl ?_
  unfold c259
  have w1 : (FloatKind.f64.format.order (fl false n) 4503599627370496 == some Ordering.lt) = false := by rw [ord_least h0 h]; rfl
  repeat (first
    | ((first | apply Wp.seqItemsR | apply Wp.itemsR | ((first
        | (refine WpItems.pcall ?_ ?_ (abs_p false h) ?_; (· simp only [go_sem, reduceIte, Nat.reduceEqDiff, Nat.reduceAdd, bx]); (· simp only [go_sem, reduceIte, Nat.reduceEqDiff, Nat.reduceAdd, bx, List.map]; first | exact VSubs.refl _ | (repeat (first | exact VSubs.nil | refine VSubs.cons (by first | exact VSub.refl _ | assumption | exact VSub.cap | exact VSub.any _) ?_))))); apply WpItems.evR)); (· simp only [go_sem, reduceIte, Nat.reduceEqDiff, Nat.reduceAdd, bx, ax, if_true, if_false, Nat.reduceMul, Nat.reduceLeDiff, w1]; exact rfl))
    | (refine WpItems.nil ⟨?_, ?_⟩; (· first | trivial | simp [pairsQ, pairsOk, apart, ent0]))
    | (apply Wp.cond_lit; (· simp only [go_sem, reduceIte, Nat.reduceEqDiff, Nat.reduceAdd, bx, ax, if_true, if_false, Nat.reduceMul, Nat.reduceLeDiff, w1]; exact rfl); (· rfl))
    | refine Wp.skip ?_
    | refine Wp.label ?_
    | refine Wp.block ?_
    | refine Wp.exit ?_
    | refine Wp.seq ?_)
  refine Wp.ret ⟨trivial, _, rfl, ?_⟩
  simp only [go_sem, reduceIte, Nat.reduceEqDiff, Nat.reduceAdd, bx]
  exact VSub.refl _
theorem ex_pos {n : Nat} (h0 : 0 < n) (h : n < 2 ^ 53) : 1023 ≤ ex n ∧ ex n ≤ 1075 := by
  have := log2_lt53 h0 h; unfold ex; omega
theorem frexp_p {n : Nat} (h0 : 0 < n) (h : n < 2 ^ 53) : PCalls Tryz.prog 251 [F false n] (.tup [.sc (.float .f64 (fr n)), .int .i64 ((n.log2 : Int) + 1)]) := by
  refine f251.pcalls0 (by simp) rfl rfl ?_
  unfold c251
  have hl := log2_lt53 h0 h
  obtain ⟨e1, e2⟩ := ex_pos h0 h
  have hlo := lo_lt h0 h
  have hx := ex_lt h0 h
  have w0 : (FloatKind.f64.format.order (fl false n) 0 == some Ordering.eq) = false := by
    rw [ord_zero false h, sg_false]
    have : compare (n : Int) 0 = .gt := by simp only [compare, compareOfLessAndEq, if_neg (show ¬ (n : Int) < 0 by omega), if_neg (show ¬ (n : Int) = 0 by omega)]
    rw [this]; rfl
  have wb := fl_ex h0 h
  have w1 := m_shr (f := ex n) hlo
  rw [← wb] at w1
  have w2 := m_exp hx
  have w3 : IntKind.i64.wrap ((ex n : Nat) : Int) = ((ex n : Nat) : Int) := IntWalk.i64_in _ (by omega)
  have w4 : IntKind.i64.wrap (((ex n : Nat) : Int) - 1023) = (n.log2 : Int) := by rw [IntWalk.i64_in _ (by omega)]; unfold ex; omega
  have w5 : IntKind.i64.wrap ((n.log2 : Int) + 1) = (n.log2 : Int) + 1 := IntWalk.i64_in _ (by omega)
  have w6 : IntKind.i64.wrap (0 + ((n.log2 : Int) + 1)) = (n.log2 : Int) + 1 := by rw [IntWalk.i64_in _ (by omega)]; omega
  have w7 := m_clear hx hlo
  rw [← wb] at w7
  have w8 := m_half hlo
  rw [← fr.eq_1] at w8
  repeat (first
    | ((first | apply Wp.seqItemsR | apply Wp.itemsR | ((first
        | (refine WpItems.pcall ?_ ?_ (inf_p false h) ?_; (· simp only [go_sem, reduceIte, Nat.reduceEqDiff, Nat.reduceAdd, bx]); (· simp only [go_sem, reduceIte, Nat.reduceEqDiff, Nat.reduceAdd, bx, List.map]; first | exact VSubs.refl _ | (repeat (first | exact VSubs.nil | refine VSubs.cons (by first | exact VSub.refl _ | assumption | exact VSub.cap | exact VSub.any _) ?_))))
        | (refine WpItems.pcall ?_ ?_ (nan_p false h) ?_; (· simp only [go_sem, reduceIte, Nat.reduceEqDiff, Nat.reduceAdd, bx]); (· simp only [go_sem, reduceIte, Nat.reduceEqDiff, Nat.reduceAdd, bx, List.map]; first | exact VSubs.refl _ | (repeat (first | exact VSubs.nil | refine VSubs.cons (by first | exact VSub.refl _ | assumption | exact VSub.cap | exact VSub.any _) ?_))))
        | (refine WpItems.pcall ?_ ?_ (norm_p h0 h) ?_; (· simp only [go_sem, reduceIte, Nat.reduceEqDiff, Nat.reduceAdd, bx]); (· simp only [go_sem, reduceIte, Nat.reduceEqDiff, Nat.reduceAdd, bx, List.map]; first | exact VSubs.refl _ | (repeat (first | exact VSubs.nil | refine VSubs.cons (by first | exact VSub.refl _ | assumption | exact VSub.cap | exact VSub.any _) ?_))))); apply WpItems.evR)); (· simp only [go_sem, reduceIte, Nat.reduceEqDiff, Nat.reduceAdd, bx, ax, if_true, if_false, Nat.reduceMul, Nat.reduceLeDiff, w0, w1, w2, w3, w4, w5, w6, w7, w8, Int.toNat_natCast]; exact rfl))
    | (refine WpItems.nil ⟨?_, ?_⟩; (· first | trivial | simp [pairsQ, pairsOk, apart, ent0]))
    | (apply Wp.cond_lit; (· simp only [go_sem, reduceIte, Nat.reduceEqDiff, Nat.reduceAdd, bx, ax, if_true, if_false, Nat.reduceMul, Nat.reduceLeDiff, w0, w1, w2, w3, w4, w5, w6, w7, w8, Int.toNat_natCast]; exact rfl); (· rfl))
    | refine Wp.skip ?_
    | refine Wp.label ?_
    | refine Wp.block ?_
    | refine Wp.exit ?_
    | refine Wp.seq ?_)
  refine Wp.ret ⟨trivial, _, rfl, ?_⟩
  simp only [go_sem, reduceIte, Nat.reduceEqDiff, Nat.reduceAdd, bx]
  exact VSub.refl _
theorem Frexp_p {n : Nat} (h0 : 0 < n) (h : n < 2 ^ 53) : PCalls Tryz.prog 240 [F false n] (.tup [.sc (.float .f64 (fr n)), .int .i64 ((n.log2 : Int) + 1)]) := by
  refine f240.pcalls0 (by simp) rfl rfl ?_
  unfold c240
  repeat (first
    | ((first | apply Wp.seqItemsR | apply Wp.itemsR | ((first
        | (refine WpItems.pcall ?_ ?_ (frexp_p h0 h) ?_; (· simp only [go_sem, reduceIte, Nat.reduceEqDiff, Nat.reduceAdd, bx]); (· simp only [go_sem, reduceIte, Nat.reduceEqDiff, Nat.reduceAdd, bx, List.map]; first | exact VSubs.refl _ | (repeat (first | exact VSubs.nil | refine VSubs.cons (by first | exact VSub.refl _ | assumption | exact VSub.cap | exact VSub.any _) ?_))))); apply WpItems.evR)); (· simp only [go_sem, reduceIte, Nat.reduceEqDiff, Nat.reduceAdd, bx, ax, if_true, if_false, Nat.reduceMul, Nat.reduceLeDiff]; exact rfl))
    | (refine WpItems.nil ⟨?_, ?_⟩; (· first | trivial | simp [pairsQ, pairsOk, apart, ent0]))
    | (apply Wp.cond_lit; (· simp only [go_sem, reduceIte, Nat.reduceEqDiff, Nat.reduceAdd, bx, ax, if_true, if_false, Nat.reduceMul, Nat.reduceLeDiff]; exact rfl); (· rfl))
    | refine Wp.skip ?_
    | refine Wp.label ?_
    | refine Wp.block ?_
    | refine Wp.exit ?_
    | refine Wp.seq ?_)
  refine Wp.ret ⟨trivial, _, rfl, ?_⟩
  simp only [go_sem, reduceIte, Nat.reduceEqDiff, Nat.reduceAdd, bx]
  exact VSub.refl _
theorem ldexp_p {p d : Nat} (h0 : 0 < p) (h : p * 2 ^ d < 2 ^ 53) : PCalls Tryz.prog 253 [F false p, .int .i64 (d : Int)] (F false (p * 2 ^ d)) := by
  have hp : p < 2 ^ 53 := Nat.lt_of_le_of_lt (Nat.le_mul_of_pos_right _ (Nat.two_pow_pos _)) h
  have hq0 : 0 < p * 2 ^ d := Nat.mul_pos h0 (Nat.two_pow_pos _)
  have hl := log2_lt53 hq0 h
  rw [log2_mul_pow h0] at hl
  obtain ⟨e1, e2⟩ := ex_pos h0 hp
  have hlo := lo_lt h0 hp
  have hx := ex_lt h0 hp
  have hex : ex p = p.log2 + 1023 := rfl
  refine f253.pcalls0 (by simp) rfl rfl ?_
  unfold c253
  have w0 : (FloatKind.f64.format.order (fl false p) 0 == some Ordering.eq) = false := by
    rw [ord_zero false hp, sg_false]
    have : compare (p : Int) 0 = .gt := by simp only [compare, compareOfLessAndEq, if_neg (show ¬ (p : Int) < 0 by omega), if_neg (show ¬ (p : Int) = 0 by omega)]
    rw [this]; rfl
  have wb := fl_ex h0 hp
  have w1 := m_shr (f := ex p) hlo
  rw [← wb] at w1
  have w2 := m_exp' hx
  have w3 : IntKind.i64.wrap ((ex p : Nat) : Int) = ((ex p : Nat) : Int) := IntWalk.i64_in _ (by omega)
  have w4 : IntKind.i64.wrap (((ex p : Nat) : Int) - 1023) = (p.log2 : Int) := by rw [IntWalk.i64_in _ (by omega)]; omega
  have w5 : IntKind.i64.wrap ((d : Int) + 0) = (d : Int) := by rw [IntWalk.i64_in _ (by omega)]; omega
  have w6 : IntKind.i64.wrap ((d : Int) + (p.log2 : Int)) = ((p.log2 + d : Nat) : Int) := by rw [IntWalk.i64_in _ (by omega)]; omega
  have d1 := decide_eq_false (show ¬ ((p.log2 + d : Nat) : Int) < -1075 by omega)
  have d2 := decide_eq_false (show ¬ (1023 : Int) < ((p.log2 + d : Nat) : Int) by omega)
  have d3 := decide_eq_false (show ¬ ((p.log2 + d : Nat) : Int) < -1022 by omega)
  have w7 := m_clear hx hlo
  rw [← wb] at w7
  have w8 : IntKind.i64.wrap (((p.log2 + d : Nat) : Int) + 1023) = ((ex p + d : Nat) : Int) := by rw [IntWalk.i64_in _ (by omega)]; omega
  have w9 : IntKind.u64.wrap ((ex p + d : Nat) : Int) = ((ex p + d : Nat) : Int) := IntWalk.u64_in _ (by omega)
  have hxd : ex p + d < 2 ^ 11 := by omega
  have wa := m_shl hxd
  have wc := m_set hxd hlo
  rw [← fl_lift h0 h] at wc
  have wd := mul_one' h
  have c1 := inf_p false hp
  have c2 := nan_p false hp
  have c3 := norm_p h0 hp
  clear wb hex hlo hx hxd h0 h hp hq0 hl e1 e2
  simp only [F] at c1 c2 c3 ⊢
  generalize fl false (p * 2 ^ d) = z at wc wd ⊢
  generalize fl false p = y at w0 w1 w7 c1 c2 c3 ⊢
  generalize lo p = l at w7 wc
  generalize 2 ^ 52 * (ex p + d) = sh at wa wc
  generalize ex p + d = ed at w8 w9 wa
  generalize ex p = ep at w1 w2 w3 w4
  generalize p.log2 + d = pd at w6 w8 d1 d2 d3
  generalize p.log2 = pl at w4 w6
  repeat (first
    | ((first | apply Wp.seqItemsR | apply Wp.itemsR | ((first
        | (refine WpItems.pcall ?_ ?_ (c1) ?_; (· simp only [go_sem, reduceIte, Nat.reduceEqDiff, Nat.reduceAdd, bx]); (· simp only [go_sem, reduceIte, Nat.reduceEqDiff, Nat.reduceAdd, bx, List.map]; first | exact VSubs.refl _ | (repeat (first | exact VSubs.nil | refine VSubs.cons (by first | exact VSub.refl _ | assumption | exact VSub.cap | exact VSub.any _) ?_))))
        | (refine WpItems.pcall ?_ ?_ (c2) ?_; (· simp only [go_sem, reduceIte, Nat.reduceEqDiff, Nat.reduceAdd, bx]); (· simp only [go_sem, reduceIte, Nat.reduceEqDiff, Nat.reduceAdd, bx, List.map]; first | exact VSubs.refl _ | (repeat (first | exact VSubs.nil | refine VSubs.cons (by first | exact VSub.refl _ | assumption | exact VSub.cap | exact VSub.any _) ?_))))
        | (refine WpItems.pcall ?_ ?_ (c3) ?_; (· simp only [go_sem, reduceIte, Nat.reduceEqDiff, Nat.reduceAdd, bx]); (· simp only [go_sem, reduceIte, Nat.reduceEqDiff, Nat.reduceAdd, bx, List.map]; first | exact VSubs.refl _ | (repeat (first | exact VSubs.nil | refine VSubs.cons (by first | exact VSub.refl _ | assumption | exact VSub.cap | exact VSub.any _) ?_))))); apply WpItems.evR)); (· simp only [go_sem, reduceIte, Nat.reduceEqDiff, Nat.reduceAdd, bx, ax, if_true, if_false, Nat.reduceMul, Nat.reduceLeDiff, w0, w1, w2, w3, w4, w5, w6, w7, w8, w9, wa, wc, d1, d2, d3, Int.toNat_natCast, Option.map_some]; exact rfl))
    | (refine WpItems.nil ⟨?_, ?_⟩; (· first | trivial | simp [pairsQ, pairsOk, apart, ent0]))
    | (apply Wp.cond_lit; (· simp only [go_sem, reduceIte, Nat.reduceEqDiff, Nat.reduceAdd, bx, ax, if_true, if_false, Nat.reduceMul, Nat.reduceLeDiff, w0, w1, w2, w3, w4, w5, w6, w7, w8, w9, wa, wc, d1, d2, d3, Int.toNat_natCast, Option.map_some]; exact rfl); (· rfl))
    | refine Wp.skip ?_
    | refine Wp.label ?_
    | refine Wp.block ?_
    | refine Wp.exit ?_
    | refine Wp.seq ?_)
  refine Wp.le (s' := ⟨tm [(6, .int .u64 (z : Int)), (7, .sc (.float .f64 4607182418800017408))], H0 0 0⟩) ?_ ?_
  · refine StLe.of (tm_le ?_) (fun j o h => ⟨o, h, OSub.refl _⟩) (fun _ h => h) (Nat.le_refl _) (Nat.le_refl _)
    simp only [AllSub, go_sem, reduceIte, Nat.reduceEqDiff, Nat.reduceAdd, bx]; and_intros <;> first | exact trivial | exact VSub.refl _ | exact VSub.any _ | (refine VSub.int ?_; omega)
  clear w0 w1 w2 w3 w4 w5 w6 w7 w8 w9 wa wc d1 d2 d3 c1 c2 c3
  repeat (first
    | ((first | apply Wp.seqItemsR | apply Wp.itemsR); (· simp only [go_sem, reduceIte, Nat.reduceEqDiff, Nat.reduceAdd, bx, ax, if_true, if_false, Nat.reduceMul, Nat.reduceLeDiff, wd, Int.toNat_natCast, Option.map_some]; exact rfl))
    | (refine WpItems.nil ⟨?_, ?_⟩; (· first | trivial | simp [pairsQ, pairsOk, apart, ent0]))
    | (apply Wp.cond_lit; (· simp only [go_sem, reduceIte, Nat.reduceEqDiff, Nat.reduceAdd, bx, ax, if_true, if_false, Nat.reduceMul, Nat.reduceLeDiff, wd, Int.toNat_natCast, Option.map_some]; exact rfl); (· rfl))
    | refine Wp.skip ?_
    | refine Wp.label ?_
    | refine Wp.block ?_
    | refine Wp.exit ?_
    | refine Wp.seq ?_)
  refine Wp.ret ⟨trivial, _, rfl, ?_⟩
  simp only [go_sem, reduceIte, Nat.reduceEqDiff, Nat.reduceAdd, bx]
  exact VSub.refl _
theorem Ldexp_p {p d : Nat} (h0 : 0 < p) (h : p * 2 ^ d < 2 ^ 53) : PCalls Tryz.prog 241 [F false p, .int .i64 (d : Int)] (F false (p * 2 ^ d)) := by
  refine f241.pcalls0 (by simp) rfl rfl ?_
  unfold c241
  repeat (first
    | ((first | apply Wp.seqItemsR | apply Wp.itemsR | ((first
        | (refine WpItems.pcall ?_ ?_ (ldexp_p h0 h) ?_; (· simp only [go_sem, reduceIte, Nat.reduceEqDiff, Nat.reduceAdd, bx]); (· simp only [go_sem, reduceIte, Nat.reduceEqDiff, Nat.reduceAdd, bx, List.map]; first | exact VSubs.refl _ | (repeat (first | exact VSubs.nil | refine VSubs.cons (by first | exact VSub.refl _ | assumption | exact VSub.cap | exact VSub.any _) ?_))))); apply WpItems.evR)); (· simp only [go_sem, reduceIte, Nat.reduceEqDiff, Nat.reduceAdd, bx, ax, if_true, if_false, Nat.reduceMul, Nat.reduceLeDiff]; exact rfl))
    | (refine WpItems.nil ⟨?_, ?_⟩; (· first | trivial | simp [pairsQ, pairsOk, apart, ent0]))
    | (apply Wp.cond_lit; (· simp only [go_sem, reduceIte, Nat.reduceEqDiff, Nat.reduceAdd, bx, ax, if_true, if_false, Nat.reduceMul, Nat.reduceLeDiff]; exact rfl); (· rfl))
    | refine Wp.skip ?_
    | refine Wp.label ?_
    | refine Wp.block ?_
    | refine Wp.exit ?_
    | refine Wp.seq ?_)
  refine Wp.ret ⟨trivial, _, rfl, ?_⟩
  simp only [go_sem, reduceIte, Nat.reduceEqDiff, Nat.reduceAdd, bx]
  exact VSub.refl _
theorem cmp_gt {a b : Int} (h : b < a) : compare a b = .gt := by
  simp only [compare, compareOfLessAndEq, if_neg (show ¬ a < b by omega), if_neg (show ¬ a = b by omega)]
theorem cmp_lt {a b : Int} (h : a < b) : compare a b = .lt := by
  simp only [compare, compareOfLessAndEq, if_pos h]
theorem cmp_eq (a : Int) : compare a a = .eq := by simp [compare, compareOfLessAndEq]
theorem ge_yes {m p : Nat} (hm : m < 2 ^ 53) (hp : p < 2 ^ 53) (h : p ≤ m) : (FloatKind.f64.format.order (fl false m) (fl false p) == some .gt || FloatKind.f64.format.order (fl false m) (fl false p) == some .eq) = true := by
  rw [ord_fl false false hm hp, sg_false, sg_false]
  rcases Nat.lt_or_eq_of_le h with h | h
  · rw [cmp_gt (by omega)]; rfl
  · subst h; rw [cmp_eq]; rfl
theorem ge_no {m p : Nat} (hm : m < 2 ^ 53) (hp : p < 2 ^ 53) (h : m < p) : (FloatKind.f64.format.order (fl false m) (fl false p) == some .gt || FloatKind.f64.format.order (fl false m) (fl false p) == some .eq) = false := by
  rw [ord_fl false false hm hp, sg_false, sg_false, cmp_lt (by omega)]; rfl
theorem lt0_no {n : Nat} (h : n < 2 ^ 53) : (FloatKind.f64.format.order (fl false n) 0 == some .lt) = false := by
  rw [ord_zero false h, sg_false]
  rcases Nat.eq_zero_or_pos n with h0 | h0
  · subst h0; rfl
  · rw [cmp_gt (by omega)]; rfl
theorem lt0_yes {n : Nat} (h0 : 0 < n) (h : n < 2 ^ 53) : (FloatKind.f64.format.order (fl true n) 0 == some .lt) = true := by
  rw [ord_zero true h, sg_true, cmp_lt (by omega)]; rfl
theorem lt0_nil : (FloatKind.f64.format.order (fl true 0) 0 == some .lt) = false := by
  rw [ord_zero true (by decide), sg_true]; rfl
theorem eq0_no {n : Nat} (h0 : 0 < n) (h : n < 2 ^ 53) : (FloatKind.f64.format.order (fl false n) 0 == some .eq) = false := by
  rw [ord_zero false h, sg_false, cmp_gt (by omega)]; rfl
theorem fr_lt_yes {m n : Nat} (hm : 0 < m) (hm2 : m < 2 ^ 53) (hn : 0 < n) (hn2 : n < 2 ^ 53) (h : m * 2 ^ (52 - m.log2) < n * 2 ^ (52 - n.log2)) : (FloatKind.f64.format.order (fr m) (fr n) == some .lt) = true := by
  rw [ord_fr hm hm2 hn hn2]
  simp only [compare, compareOfLessAndEq, if_pos h]; rfl
theorem fr_lt_no {m n : Nat} (hm : 0 < m) (hm2 : m < 2 ^ 53) (hn : 0 < n) (hn2 : n < 2 ^ 53) (h : ¬ m * 2 ^ (52 - m.log2) < n * 2 ^ (52 - n.log2)) : (FloatKind.f64.format.order (fr m) (fr n) == some .lt) = false := by
  rw [ord_fr hm hm2 hn hn2]
  simp only [compare, compareOfLessAndEq, if_neg h]
  split <;> rfl
set_option maxHeartbeats 1000000 in
theorem mod_p {p n : Nat} (s : Bool) (h0 : 0 < p) (hp : p < 2 ^ 53) (h : n < 2 ^ 53) (hs : s = true → 0 < n) : PCalls Tryz.prog 221 [F s n, F false p] (F s (n % p)) := by
  refine f221.pcalls0 (by simp) rfl rfl ?_
  unfold c221
  have g0 := eq0_no h0 hp
  have hmod : n % p < 2 ^ 53 := Nat.lt_of_le_of_lt (Nat.mod_le _ _) h
  have g1 : (FloatKind.f64.format.order (fl s n) 0 == some .lt) = s := by
    cases s with
    | false => exact lt0_no h
    | true => exact lt0_yes (hs rfl) h
  cases s with
  | false =>
    repeat (first
      | ((first | apply Wp.seqItemsR | apply Wp.itemsR | ((first
          | (refine WpItems.pcall ?_ ?_ (inf_p false h) ?_; (· simp only [go_sem, reduceIte, Nat.reduceEqDiff, Nat.reduceAdd, bx]); (· simp only [go_sem, reduceIte, Nat.reduceEqDiff, Nat.reduceAdd, bx, List.map]; first | exact VSubs.refl _ | (repeat (first | exact VSubs.nil | refine VSubs.cons (by first | exact VSub.refl _ | assumption | exact VSub.cap | exact VSub.any _) ?_))))
          | (refine WpItems.pcall ?_ ?_ (nan_p false h) ?_; (· simp only [go_sem, reduceIte, Nat.reduceEqDiff, Nat.reduceAdd, bx]); (· simp only [go_sem, reduceIte, Nat.reduceEqDiff, Nat.reduceAdd, bx, List.map]; first | exact VSubs.refl _ | (repeat (first | exact VSubs.nil | refine VSubs.cons (by first | exact VSub.refl _ | assumption | exact VSub.cap | exact VSub.any _) ?_))))
          | (refine WpItems.pcall ?_ ?_ (nan_p false hp) ?_; (· simp only [go_sem, reduceIte, Nat.reduceEqDiff, Nat.reduceAdd, bx]); (· simp only [go_sem, reduceIte, Nat.reduceEqDiff, Nat.reduceAdd, bx, List.map]; first | exact VSubs.refl _ | (repeat (first | exact VSubs.nil | refine VSubs.cons (by first | exact VSub.refl _ | assumption | exact VSub.cap | exact VSub.any _) ?_))))
          | (refine WpItems.pcall ?_ ?_ (abs_p false hp) ?_; (· simp only [go_sem, reduceIte, Nat.reduceEqDiff, Nat.reduceAdd, bx]); (· simp only [go_sem, reduceIte, Nat.reduceEqDiff, Nat.reduceAdd, bx, List.map]; first | exact VSubs.refl _ | (repeat (first | exact VSubs.nil | refine VSubs.cons (by first | exact VSub.refl _ | assumption | exact VSub.cap | exact VSub.any _) ?_))))
          | (refine WpItems.pcall ?_ ?_ (Frexp_p h0 hp) ?_; (· simp only [go_sem, reduceIte, Nat.reduceEqDiff, Nat.reduceAdd, bx]); (· simp only [go_sem, reduceIte, Nat.reduceEqDiff, Nat.reduceAdd, bx, List.map]; first | exact VSubs.refl _ | (repeat (first | exact VSubs.nil | refine VSubs.cons (by first | exact VSub.refl _ | assumption | exact VSub.cap | exact VSub.any _) ?_))))); apply WpItems.evR)); (· simp only [go_sem, reduceIte, Nat.reduceEqDiff, Nat.reduceAdd, bx, ax, if_true, if_false, Nat.reduceMul, Nat.reduceLeDiff, g0, g1]; exact rfl))
      | (refine WpItems.nil ⟨?_, ?_⟩; (· first | trivial | simp [pairsQ, pairsOk, apart, ent0]))
      | (apply Wp.cond_lit; (· simp only [go_sem, reduceIte, Nat.reduceEqDiff, Nat.reduceAdd, bx, ax, if_true, if_false, Nat.reduceMul, Nat.reduceLeDiff, g0, g1]; exact rfl); (· rfl))
      | refine Wp.skip ?_
      | refine Wp.label ?_
      | refine Wp.block ?_
      | refine Wp.exit ?_
      | refine Wp.seq ?_)
    refine Wp.loopK [0, 1, 5, 6] (by simp only [go_sem, reduceIte, Nat.reduceEqDiff, Nat.reduceAdd, bx, List.map]; exact rfl) (fun m : Nat => [(7, F false m)]) (fun m => m ≤ n ∧ m % p = n % p) (fun m => m) n ⟨Nat.le_refl _, rfl⟩ ?_ ?_
    · simp only [AllSub, go_sem, reduceIte, Nat.reduceEqDiff, Nat.reduceAdd, bx]; and_intros <;> first | exact trivial | exact VSub.refl _ | exact VSub.any _ | (refine VSub.int ?_; omega)
    rintro m ⟨hm1, hm2⟩
    have hm : m < 2 ^ 53 := by omega
    by_cases hc : p ≤ m
    · have g2 := ge_yes hm hp hc
      have hm0 : 0 < m := by omega
      have hl := lift_le h0 hc hm
      have hi := lift_int h0 hc hm
      have hq : p * 2 ^ lift p m < 2 ^ 53 := by omega
      have hb := log2_lt53 hm0 hm
      have hbp := log2_lt53 h0 hp
      have hpos : 0 < p * 2 ^ lift p m := Nat.mul_pos h0 (Nat.two_pow_pos _)
      have hsub := fb_nat hl hm
      by_cases hlt : m * 2 ^ (52 - m.log2) < p * 2 ^ (52 - p.log2)
      · have g3 := fr_lt_yes hm0 hm h0 hp hlt
        rw [if_pos hlt] at hi
        have w1 : IntKind.i64.wrap ((m.log2 : Int) + 1 - 1) = (m.log2 : Int) := by rw [IntWalk.i64_in _ (by omega)]; omega
        have w2 : IntKind.i64.wrap ((m.log2 : Int) - ((p.log2 : Int) + 1)) = ((lift p m : Nat) : Int) := by rw [IntWalk.i64_in _ (by omega)]; omega
        repeat (first
          | ((first | apply Wp.seqItemsR | apply Wp.itemsR | ((first
              | (refine WpItems.pcall ?_ ?_ (Frexp_p hm0 hm) ?_; (· simp only [go_sem, reduceIte, Nat.reduceEqDiff, Nat.reduceAdd, bx]); (· simp only [go_sem, reduceIte, Nat.reduceEqDiff, Nat.reduceAdd, bx, List.map]; first | exact VSubs.refl _ | (repeat (first | exact VSubs.nil | refine VSubs.cons (by first | exact VSub.refl _ | assumption | exact VSub.cap | exact VSub.any _) ?_))))
              | (refine WpItems.pcall ?_ ?_ (Ldexp_p h0 hq) ?_; (· simp only [go_sem, reduceIte, Nat.reduceEqDiff, Nat.reduceAdd, bx]); (· simp only [go_sem, reduceIte, Nat.reduceEqDiff, Nat.reduceAdd, bx, List.map]; first | exact VSubs.refl _ | (repeat (first | exact VSubs.nil | refine VSubs.cons (by first | exact VSub.refl _ | assumption | exact VSub.cap | exact VSub.any _) ?_))))); apply WpItems.evR)); (· simp only [go_sem, reduceIte, Nat.reduceEqDiff, Nat.reduceAdd, bx, ax, if_true, if_false, Nat.reduceMul, Nat.reduceLeDiff, g2, g3, w1, w2, hsub, Option.map_some]; exact rfl))
          | (refine WpItems.nil ⟨?_, ?_⟩; (· first | trivial | simp [pairsQ, pairsOk, apart, ent0]))
          | (apply Wp.cond_lit; (· simp only [go_sem, reduceIte, Nat.reduceEqDiff, Nat.reduceAdd, bx, ax, if_true, if_false, Nat.reduceMul, Nat.reduceLeDiff, g2, g3, w1, w2, hsub, Option.map_some]; exact rfl); (· rfl))
          | refine Wp.skip ?_
          | refine Wp.label ?_
          | refine Wp.block ?_
          | refine Wp.exit ?_
          | refine Wp.seq ?_)
        refine ⟨m - p * 2 ^ lift p m, ⟨by omega, by rw [rem_round hl]; exact hm2⟩, by omega, ?_⟩
        refine StLe.tm (by simp only [AllSub, go_sem, reduceIte, Nat.reduceEqDiff, Nat.reduceAdd, bx]; and_intros <;> first | exact trivial | exact VSub.refl _ | exact VSub.any _ | (refine VSub.int ?_; omega))
      · have g3 := fr_lt_no hm0 hm h0 hp hlt
        rw [if_neg hlt] at hi
        have w2 : IntKind.i64.wrap ((m.log2 : Int) + 1 - ((p.log2 : Int) + 1)) = ((lift p m : Nat) : Int) := by rw [IntWalk.i64_in _ (by omega)]; omega
        repeat (first
          | ((first | apply Wp.seqItemsR | apply Wp.itemsR | ((first
              | (refine WpItems.pcall ?_ ?_ (Frexp_p hm0 hm) ?_; (· simp only [go_sem, reduceIte, Nat.reduceEqDiff, Nat.reduceAdd, bx]); (· simp only [go_sem, reduceIte, Nat.reduceEqDiff, Nat.reduceAdd, bx, List.map]; first | exact VSubs.refl _ | (repeat (first | exact VSubs.nil | refine VSubs.cons (by first | exact VSub.refl _ | assumption | exact VSub.cap | exact VSub.any _) ?_))))
              | (refine WpItems.pcall ?_ ?_ (Ldexp_p h0 hq) ?_; (· simp only [go_sem, reduceIte, Nat.reduceEqDiff, Nat.reduceAdd, bx]); (· simp only [go_sem, reduceIte, Nat.reduceEqDiff, Nat.reduceAdd, bx, List.map]; first | exact VSubs.refl _ | (repeat (first | exact VSubs.nil | refine VSubs.cons (by first | exact VSub.refl _ | assumption | exact VSub.cap | exact VSub.any _) ?_))))); apply WpItems.evR)); (· simp only [go_sem, reduceIte, Nat.reduceEqDiff, Nat.reduceAdd, bx, ax, if_true, if_false, Nat.reduceMul, Nat.reduceLeDiff, g2, g3, w2, hsub, Option.map_some]; exact rfl))
          | (refine WpItems.nil ⟨?_, ?_⟩; (· first | trivial | simp [pairsQ, pairsOk, apart, ent0]))
          | (apply Wp.cond_lit; (· simp only [go_sem, reduceIte, Nat.reduceEqDiff, Nat.reduceAdd, bx, ax, if_true, if_false, Nat.reduceMul, Nat.reduceLeDiff, g2, g3, w2, hsub, Option.map_some]; exact rfl); (· rfl))
          | refine Wp.skip ?_
          | refine Wp.label ?_
          | refine Wp.block ?_
          | refine Wp.exit ?_
          | refine Wp.seq ?_)
        refine ⟨m - p * 2 ^ lift p m, ⟨by omega, by rw [rem_round hl]; exact hm2⟩, by omega, ?_⟩
        refine StLe.tm (by simp only [AllSub, go_sem, reduceIte, Nat.reduceEqDiff, Nat.reduceAdd, bx]; and_intros <;> first | exact trivial | exact VSub.refl _ | exact VSub.any _ | (refine VSub.int ?_; omega))
    · have g2 := ge_no hm hp (by omega)
      have e : m = n % p := by rw [← hm2, Nat.mod_eq_of_lt (by omega)]
      repeat (first
        | ((first | apply Wp.seqItemsR | apply Wp.itemsR); (· simp only [go_sem, reduceIte, Nat.reduceEqDiff, Nat.reduceAdd, bx, ax, if_true, if_false, Nat.reduceMul, Nat.reduceLeDiff, g2, g1]; exact rfl))
        | (refine WpItems.nil ⟨?_, ?_⟩; (· first | trivial | simp [pairsQ, pairsOk, apart, ent0]))
        | (apply Wp.cond_lit; (· simp only [go_sem, reduceIte, Nat.reduceEqDiff, Nat.reduceAdd, bx, ax, if_true, if_false, Nat.reduceMul, Nat.reduceLeDiff, g2, g1]; exact rfl); (· rfl))
        | refine Wp.skip ?_
        | refine Wp.label ?_
        | refine Wp.block ?_
        | refine Wp.exit ?_
        | refine Wp.seq ?_)
      refine Wp.ret ⟨trivial, _, rfl, ?_⟩
      simp only [go_sem, reduceIte, Nat.reduceEqDiff, Nat.reduceAdd, bx]
      rw [e]; exact VSub.refl _
  | true =>
    have n1 : Op.negFloat .f64 (fl true n) = fl false n := neg_fl true h
    have n2 : Op.negFloat .f64 (fl false (n % p)) = fl true (n % p) := neg_fl false hmod
    repeat (first
      | ((first | apply Wp.seqItemsR | apply Wp.itemsR | ((first
          | (refine WpItems.pcall ?_ ?_ (inf_p true h) ?_; (· simp only [go_sem, reduceIte, Nat.reduceEqDiff, Nat.reduceAdd, bx]); (· simp only [go_sem, reduceIte, Nat.reduceEqDiff, Nat.reduceAdd, bx, List.map]; first | exact VSubs.refl _ | (repeat (first | exact VSubs.nil | refine VSubs.cons (by first | exact VSub.refl _ | assumption | exact VSub.cap | exact VSub.any _) ?_))))
          | (refine WpItems.pcall ?_ ?_ (nan_p true h) ?_; (· simp only [go_sem, reduceIte, Nat.reduceEqDiff, Nat.reduceAdd, bx]); (· simp only [go_sem, reduceIte, Nat.reduceEqDiff, Nat.reduceAdd, bx, List.map]; first | exact VSubs.refl _ | (repeat (first | exact VSubs.nil | refine VSubs.cons (by first | exact VSub.refl _ | assumption | exact VSub.cap | exact VSub.any _) ?_))))
          | (refine WpItems.pcall ?_ ?_ (nan_p false hp) ?_; (· simp only [go_sem, reduceIte, Nat.reduceEqDiff, Nat.reduceAdd, bx]); (· simp only [go_sem, reduceIte, Nat.reduceEqDiff, Nat.reduceAdd, bx, List.map]; first | exact VSubs.refl _ | (repeat (first | exact VSubs.nil | refine VSubs.cons (by first | exact VSub.refl _ | assumption | exact VSub.cap | exact VSub.any _) ?_))))
          | (refine WpItems.pcall ?_ ?_ (abs_p false hp) ?_; (· simp only [go_sem, reduceIte, Nat.reduceEqDiff, Nat.reduceAdd, bx]); (· simp only [go_sem, reduceIte, Nat.reduceEqDiff, Nat.reduceAdd, bx, List.map]; first | exact VSubs.refl _ | (repeat (first | exact VSubs.nil | refine VSubs.cons (by first | exact VSub.refl _ | assumption | exact VSub.cap | exact VSub.any _) ?_))))
          | (refine WpItems.pcall ?_ ?_ (Frexp_p h0 hp) ?_; (· simp only [go_sem, reduceIte, Nat.reduceEqDiff, Nat.reduceAdd, bx]); (· simp only [go_sem, reduceIte, Nat.reduceEqDiff, Nat.reduceAdd, bx, List.map]; first | exact VSubs.refl _ | (repeat (first | exact VSubs.nil | refine VSubs.cons (by first | exact VSub.refl _ | assumption | exact VSub.cap | exact VSub.any _) ?_))))); apply WpItems.evR)); (· simp only [go_sem, reduceIte, Nat.reduceEqDiff, Nat.reduceAdd, bx, ax, if_true, if_false, Nat.reduceMul, Nat.reduceLeDiff, g0, g1, n1]; exact rfl))
      | (refine WpItems.nil ⟨?_, ?_⟩; (· first | trivial | simp [pairsQ, pairsOk, apart, ent0]))
      | (apply Wp.cond_lit; (· simp only [go_sem, reduceIte, Nat.reduceEqDiff, Nat.reduceAdd, bx, ax, if_true, if_false, Nat.reduceMul, Nat.reduceLeDiff, g0, g1, n1]; exact rfl); (· rfl))
      | refine Wp.skip ?_
      | refine Wp.label ?_
      | refine Wp.block ?_
      | refine Wp.exit ?_
      | refine Wp.seq ?_)
    refine Wp.loopK [0, 1, 5, 6] (by simp only [go_sem, reduceIte, Nat.reduceEqDiff, Nat.reduceAdd, bx, List.map]; exact rfl) (fun m : Nat => [(7, F false m)]) (fun m => m ≤ n ∧ m % p = n % p) (fun m => m) n ⟨Nat.le_refl _, rfl⟩ ?_ ?_
    · simp only [AllSub, go_sem, reduceIte, Nat.reduceEqDiff, Nat.reduceAdd, bx]; and_intros <;> first | exact trivial | exact VSub.refl _ | exact VSub.any _ | (refine VSub.int ?_; omega)
    rintro m ⟨hm1, hm2⟩
    have hm : m < 2 ^ 53 := by omega
    by_cases hc : p ≤ m
    · have g2 := ge_yes hm hp hc
      have hm0 : 0 < m := by omega
      have hl := lift_le h0 hc hm
      have hi := lift_int h0 hc hm
      have hq : p * 2 ^ lift p m < 2 ^ 53 := by omega
      have hb := log2_lt53 hm0 hm
      have hbp := log2_lt53 h0 hp
      have hpos : 0 < p * 2 ^ lift p m := Nat.mul_pos h0 (Nat.two_pow_pos _)
      have hsub := fb_nat hl hm
      by_cases hlt : m * 2 ^ (52 - m.log2) < p * 2 ^ (52 - p.log2)
      · have g3 := fr_lt_yes hm0 hm h0 hp hlt
        rw [if_pos hlt] at hi
        have w1 : IntKind.i64.wrap ((m.log2 : Int) + 1 - 1) = (m.log2 : Int) := by rw [IntWalk.i64_in _ (by omega)]; omega
        have w2 : IntKind.i64.wrap ((m.log2 : Int) - ((p.log2 : Int) + 1)) = ((lift p m : Nat) : Int) := by rw [IntWalk.i64_in _ (by omega)]; omega
        repeat (first
          | ((first | apply Wp.seqItemsR | apply Wp.itemsR | ((first
              | (refine WpItems.pcall ?_ ?_ (Frexp_p hm0 hm) ?_; (· simp only [go_sem, reduceIte, Nat.reduceEqDiff, Nat.reduceAdd, bx]); (· simp only [go_sem, reduceIte, Nat.reduceEqDiff, Nat.reduceAdd, bx, List.map]; first | exact VSubs.refl _ | (repeat (first | exact VSubs.nil | refine VSubs.cons (by first | exact VSub.refl _ | assumption | exact VSub.cap | exact VSub.any _) ?_))))
              | (refine WpItems.pcall ?_ ?_ (Ldexp_p h0 hq) ?_; (· simp only [go_sem, reduceIte, Nat.reduceEqDiff, Nat.reduceAdd, bx]); (· simp only [go_sem, reduceIte, Nat.reduceEqDiff, Nat.reduceAdd, bx, List.map]; first | exact VSubs.refl _ | (repeat (first | exact VSubs.nil | refine VSubs.cons (by first | exact VSub.refl _ | assumption | exact VSub.cap | exact VSub.any _) ?_))))); apply WpItems.evR)); (· simp only [go_sem, reduceIte, Nat.reduceEqDiff, Nat.reduceAdd, bx, ax, if_true, if_false, Nat.reduceMul, Nat.reduceLeDiff, g2, g3, w1, w2, hsub, Option.map_some]; exact rfl))
          | (refine WpItems.nil ⟨?_, ?_⟩; (· first | trivial | simp [pairsQ, pairsOk, apart, ent0]))
          | (apply Wp.cond_lit; (· simp only [go_sem, reduceIte, Nat.reduceEqDiff, Nat.reduceAdd, bx, ax, if_true, if_false, Nat.reduceMul, Nat.reduceLeDiff, g2, g3, w1, w2, hsub, Option.map_some]; exact rfl); (· rfl))
          | refine Wp.skip ?_
          | refine Wp.label ?_
          | refine Wp.block ?_
          | refine Wp.exit ?_
          | refine Wp.seq ?_)
        refine ⟨m - p * 2 ^ lift p m, ⟨by omega, by rw [rem_round hl]; exact hm2⟩, by omega, ?_⟩
        refine StLe.tm (by simp only [AllSub, go_sem, reduceIte, Nat.reduceEqDiff, Nat.reduceAdd, bx]; and_intros <;> first | exact trivial | exact VSub.refl _ | exact VSub.any _ | (refine VSub.int ?_; omega))
      · have g3 := fr_lt_no hm0 hm h0 hp hlt
        rw [if_neg hlt] at hi
        have w2 : IntKind.i64.wrap ((m.log2 : Int) + 1 - ((p.log2 : Int) + 1)) = ((lift p m : Nat) : Int) := by rw [IntWalk.i64_in _ (by omega)]; omega
        repeat (first
          | ((first | apply Wp.seqItemsR | apply Wp.itemsR | ((first
              | (refine WpItems.pcall ?_ ?_ (Frexp_p hm0 hm) ?_; (· simp only [go_sem, reduceIte, Nat.reduceEqDiff, Nat.reduceAdd, bx]); (· simp only [go_sem, reduceIte, Nat.reduceEqDiff, Nat.reduceAdd, bx, List.map]; first | exact VSubs.refl _ | (repeat (first | exact VSubs.nil | refine VSubs.cons (by first | exact VSub.refl _ | assumption | exact VSub.cap | exact VSub.any _) ?_))))
              | (refine WpItems.pcall ?_ ?_ (Ldexp_p h0 hq) ?_; (· simp only [go_sem, reduceIte, Nat.reduceEqDiff, Nat.reduceAdd, bx]); (· simp only [go_sem, reduceIte, Nat.reduceEqDiff, Nat.reduceAdd, bx, List.map]; first | exact VSubs.refl _ | (repeat (first | exact VSubs.nil | refine VSubs.cons (by first | exact VSub.refl _ | assumption | exact VSub.cap | exact VSub.any _) ?_))))); apply WpItems.evR)); (· simp only [go_sem, reduceIte, Nat.reduceEqDiff, Nat.reduceAdd, bx, ax, if_true, if_false, Nat.reduceMul, Nat.reduceLeDiff, g2, g3, w2, hsub, Option.map_some]; exact rfl))
          | (refine WpItems.nil ⟨?_, ?_⟩; (· first | trivial | simp [pairsQ, pairsOk, apart, ent0]))
          | (apply Wp.cond_lit; (· simp only [go_sem, reduceIte, Nat.reduceEqDiff, Nat.reduceAdd, bx, ax, if_true, if_false, Nat.reduceMul, Nat.reduceLeDiff, g2, g3, w2, hsub, Option.map_some]; exact rfl); (· rfl))
          | refine Wp.skip ?_
          | refine Wp.label ?_
          | refine Wp.block ?_
          | refine Wp.exit ?_
          | refine Wp.seq ?_)
        refine ⟨m - p * 2 ^ lift p m, ⟨by omega, by rw [rem_round hl]; exact hm2⟩, by omega, ?_⟩
        refine StLe.tm (by simp only [AllSub, go_sem, reduceIte, Nat.reduceEqDiff, Nat.reduceAdd, bx]; and_intros <;> first | exact trivial | exact VSub.refl _ | exact VSub.any _ | (refine VSub.int ?_; omega))
    · have g2 := ge_no hm hp (by omega)
      have e : m = n % p := by rw [← hm2, Nat.mod_eq_of_lt (by omega)]
      subst e
      repeat (first
        | ((first | apply Wp.seqItemsR | apply Wp.itemsR); (· simp only [go_sem, reduceIte, Nat.reduceEqDiff, Nat.reduceAdd, bx, ax, if_true, if_false, Nat.reduceMul, Nat.reduceLeDiff, g2, g1, n2]; exact rfl))
        | (refine WpItems.nil ⟨?_, ?_⟩; (· first | trivial | simp [pairsQ, pairsOk, apart, ent0]))
        | (apply Wp.cond_lit; (· simp only [go_sem, reduceIte, Nat.reduceEqDiff, Nat.reduceAdd, bx, ax, if_true, if_false, Nat.reduceMul, Nat.reduceLeDiff, g2, g1, n2]; exact rfl); (· rfl))
        | refine Wp.skip ?_
        | refine Wp.label ?_
        | refine Wp.block ?_
        | refine Wp.exit ?_
        | refine Wp.seq ?_)
      refine Wp.ret ⟨trivial, _, rfl, ?_⟩
      simp only [go_sem, reduceIte, Nat.reduceEqDiff, Nat.reduceAdd, bx]
      exact VSub.refl _
theorem Mod_p {p n : Nat} (s : Bool) (h0 : 0 < p) (hp : p < 2 ^ 53) (h : n < 2 ^ 53) (hs : s = true → 0 < n) : PCalls Tryz.prog 190 [F s n, F false p] (F s (n % p)) := by
  refine f190.pcalls0 (by simp) rfl rfl ?_
  unfold c190
  repeat (first
    | ((first | apply Wp.seqItemsR | apply Wp.itemsR | ((first
        | (refine WpItems.pcall ?_ ?_ (mod_p s h0 hp h hs) ?_; (· simp only [go_sem, reduceIte, Nat.reduceEqDiff, Nat.reduceAdd, bx]); (· simp only [go_sem, reduceIte, Nat.reduceEqDiff, Nat.reduceAdd, bx, List.map]; first | exact VSubs.refl _ | (repeat (first | exact VSubs.nil | refine VSubs.cons (by first | exact VSub.refl _ | assumption | exact VSub.cap | exact VSub.any _) ?_))))); apply WpItems.evR)); (· simp only [go_sem, reduceIte, Nat.reduceEqDiff, Nat.reduceAdd, bx, ax, if_true, if_false, Nat.reduceMul, Nat.reduceLeDiff]; exact rfl))
    | (refine WpItems.nil ⟨?_, ?_⟩; (· first | trivial | simp [pairsQ, pairsOk, apart, ent0]))
    | (apply Wp.cond_lit; (· simp only [go_sem, reduceIte, Nat.reduceEqDiff, Nat.reduceAdd, bx, ax, if_true, if_false, Nat.reduceMul, Nat.reduceLeDiff]; exact rfl); (· rfl))
    | refine Wp.skip ?_
    | refine Wp.label ?_
    | refine Wp.block ?_
    | refine Wp.exit ?_
    | refine Wp.seq ?_)
  refine Wp.ret ⟨trivial, _, rfl, ?_⟩
  simp only [go_sem, reduceIte, Nat.reduceEqDiff, Nat.reduceAdd, bx]
  exact VSub.refl _
end Go.Proofs.YtkcgpcbpieofnaaGreatDoor.Fl
end
section
set_option linter.unusedSimpArgs false
set_option linter.unusedVariables false
set_option maxRecDepth 10000
namespace Go.Proofs.YtkcgpcbpieofnaaGreatDoor.Fl
open Go Go.Av Go.Proofs Go.Proofs.YtkcgpcbpieofnaaGreatDoor.C Go.Fl
theorem flP : fl false 1048573 = 4697254385577623552 := by rw [fl_bits false (by decide) (by decide)]; decide
theorem fl3 : fl false 3 = 4613937818241073152 := by rw [fl_bits false (by decide) (by decide)]; decide
theorem fl2 : fl false 2 = 4611686018427387904 := by rw [fl_bits false (by decide) (by decide)]; decide
theorem fl256 : fl false 256 = 4643211215818981376 := by rw [fl_bits false (by decide) (by decide)]; decide
def leftZ (s : Bool) (n : Nat) : Bool := s && decide (n % 1048573 = 0)
def leftN (s : Bool) (n : Nat) : Nat := if s then (if n % 1048573 = 0 then 0 else 1048573 - n % 1048573) else n % 1048573
theorem leftN_lt (s : Bool) (n : Nat) : leftN s n < 1048573 := by
  unfold leftN
  have := Nat.mod_lt n (show 0 < 1048573 by decide)
  split
  · split <;> omega
  · exact this
theorem left_p (s : Bool) {n : Nat} (h : n < 2 ^ 53) (hs : s = true → 0 < n) : PCalls Tryz.prog 146 [F s n] (F (leftZ s n) (leftN s n)) := by
  refine f146.pcalls0 (by simp) rfl rfl ?_
  unfold c146
  have hM := Mod_p (p := 1048573) s (by decide) (by decide) h hs
  have hr := Nat.mod_lt n (show 0 < 1048573 by decide)
  generalize hrd : n % 1048573 = r at hM hr
  have e1 : leftZ s n = (s && decide (r = 0)) := by unfold leftZ; rw [hrd]
  have e2 : leftN s n = if s then (if r = 0 then 0 else 1048573 - r) else r := by unfold leftN; rw [hrd]
  simp only [F, flP] at hM
  rw [e1, e2]
  cases s with
  | false =>
    have g := lt0_no (n := r) (by omega)
    repeat (first
      | ((first | apply Wp.seqItemsR | apply Wp.itemsR | ((first
          | (refine WpItems.pcall ?_ ?_ (hM) ?_; (· simp only [go_sem, reduceIte, Nat.reduceEqDiff, Nat.reduceAdd, bx]); (· simp only [go_sem, reduceIte, Nat.reduceEqDiff, Nat.reduceAdd, bx, List.map]; first | exact VSubs.refl _ | (repeat (first | exact VSubs.nil | refine VSubs.cons (by first | exact VSub.refl _ | assumption | exact VSub.cap | exact VSub.any _) ?_))))); apply WpItems.evR)); (· simp only [go_sem, reduceIte, Nat.reduceEqDiff, Nat.reduceAdd, bx, ax, if_true, if_false, Nat.reduceMul, Nat.reduceLeDiff, g]; exact rfl))
      | (refine WpItems.nil ⟨?_, ?_⟩; (· first | trivial | simp [pairsQ, pairsOk, apart, ent0]))
      | (apply Wp.cond_lit; (· simp only [go_sem, reduceIte, Nat.reduceEqDiff, Nat.reduceAdd, bx, ax, if_true, if_false, Nat.reduceMul, Nat.reduceLeDiff, g]; exact rfl); (· rfl))
      | refine Wp.skip ?_
      | refine Wp.label ?_
      | refine Wp.block ?_
      | refine Wp.exit ?_
      | refine Wp.seq ?_)
    refine Wp.ret ⟨trivial, _, rfl, ?_⟩
    simp only [go_sem, reduceIte, Nat.reduceEqDiff, Nat.reduceAdd, bx]
    simp only [Bool.false_and, Bool.false_eq_true, if_false]
    exact VSub.refl _
  | true =>
    by_cases h0 : r = 0
    · subst h0
      have g := lt0_nil
      repeat (first
        | ((first | apply Wp.seqItemsR | apply Wp.itemsR | ((first
            | (refine WpItems.pcall ?_ ?_ (hM) ?_; (· simp only [go_sem, reduceIte, Nat.reduceEqDiff, Nat.reduceAdd, bx]); (· simp only [go_sem, reduceIte, Nat.reduceEqDiff, Nat.reduceAdd, bx, List.map]; first | exact VSubs.refl _ | (repeat (first | exact VSubs.nil | refine VSubs.cons (by first | exact VSub.refl _ | assumption | exact VSub.cap | exact VSub.any _) ?_))))); apply WpItems.evR)); (· simp only [go_sem, reduceIte, Nat.reduceEqDiff, Nat.reduceAdd, bx, ax, if_true, if_false, Nat.reduceMul, Nat.reduceLeDiff, g]; exact rfl))
        | (refine WpItems.nil ⟨?_, ?_⟩; (· first | trivial | simp [pairsQ, pairsOk, apart, ent0]))
        | (apply Wp.cond_lit; (· simp only [go_sem, reduceIte, Nat.reduceEqDiff, Nat.reduceAdd, bx, ax, if_true, if_false, Nat.reduceMul, Nat.reduceLeDiff, g]; exact rfl); (· rfl))
        | refine Wp.skip ?_
        | refine Wp.label ?_
        | refine Wp.block ?_
        | refine Wp.exit ?_
        | refine Wp.seq ?_)
      refine Wp.ret ⟨trivial, _, rfl, ?_⟩
      simp only [go_sem, reduceIte, Nat.reduceEqDiff, Nat.reduceAdd, bx]
      simp only [decide_true, Bool.and_self, if_true]
      exact VSub.refl _
    · have g := lt0_yes (n := r) (by omega) (by omega)
      have e3 : sg true r + sg false 1048573 = ((1048573 - r : Nat) : Int) := by simp only [sg_true, sg_false]; omega
      have ha := fb_add (m := r) (n := 1048573) true false (by omega) (by decide) (by rw [e3]; simp; omega)
      rw [e3, flP, Int.natAbs_natCast] at ha
      have e4 : sumS true false ((1048573 - r : Nat) : Int) = false := by
        unfold sumS
        rw [if_neg (by omega)]
        exact decide_eq_false (by omega)
      rw [e4] at ha
      repeat (first
        | ((first | apply Wp.seqItemsR | apply Wp.itemsR | ((first
            | (refine WpItems.pcall ?_ ?_ (hM) ?_; (· simp only [go_sem, reduceIte, Nat.reduceEqDiff, Nat.reduceAdd, bx]); (· simp only [go_sem, reduceIte, Nat.reduceEqDiff, Nat.reduceAdd, bx, List.map]; first | exact VSubs.refl _ | (repeat (first | exact VSubs.nil | refine VSubs.cons (by first | exact VSub.refl _ | assumption | exact VSub.cap | exact VSub.any _) ?_))))); apply WpItems.evR)); (· simp only [go_sem, reduceIte, Nat.reduceEqDiff, Nat.reduceAdd, bx, ax, if_true, if_false, Nat.reduceMul, Nat.reduceLeDiff, g, ha, Option.map_some]; exact rfl))
        | (refine WpItems.nil ⟨?_, ?_⟩; (· first | trivial | simp [pairsQ, pairsOk, apart, ent0]))
        | (apply Wp.cond_lit; (· simp only [go_sem, reduceIte, Nat.reduceEqDiff, Nat.reduceAdd, bx, ax, if_true, if_false, Nat.reduceMul, Nat.reduceLeDiff, g, ha, Option.map_some]; exact rfl); (· rfl))
        | refine Wp.skip ?_
        | refine Wp.label ?_
        | refine Wp.block ?_
        | refine Wp.exit ?_
        | refine Wp.seq ?_)
      refine Wp.ret ⟨trivial, _, rfl, ?_⟩
      simp only [go_sem, reduceIte, Nat.reduceEqDiff, Nat.reduceAdd, bx]
      simp only [decide_eq_false h0, Bool.and_false, if_true, if_neg h0]
      exact VSub.refl _
abbrev Cx (s : Bool) (m : Nat) (t : Bool) (n : Nat) : AV := .sc (.complex .f64 (fl s m) (fl t n))
theorem small_p (s t : Bool) {m n : Nat} (hm : m < 2 ^ 53) (hn : n < 2 ^ 53) (hs : s = true → 0 < m) (ht : t = true → 0 < n) : PCalls Tryz.prog 109 [Cx s m t n] (Cx (leftZ s m) (leftN s m) (leftZ t n) (leftN t n)) := by
  refine f109.pcalls0 (by simp) rfl rfl ?_
  unfold c109
  repeat (first
    | ((first | apply Wp.seqItemsR | apply Wp.itemsR | ((first
        | (refine WpItems.pcall ?_ ?_ (left_p s hm hs) ?_; (· simp only [go_sem, reduceIte, Nat.reduceEqDiff, Nat.reduceAdd, bx]); (· simp only [go_sem, reduceIte, Nat.reduceEqDiff, Nat.reduceAdd, bx, List.map]; first | exact VSubs.refl _ | (repeat (first | exact VSubs.nil | refine VSubs.cons (by first | exact VSub.refl _ | assumption | exact VSub.cap | exact VSub.any _) ?_))))
        | (refine WpItems.pcall ?_ ?_ (left_p t hn ht) ?_; (· simp only [go_sem, reduceIte, Nat.reduceEqDiff, Nat.reduceAdd, bx]); (· simp only [go_sem, reduceIte, Nat.reduceEqDiff, Nat.reduceAdd, bx, List.map]; first | exact VSubs.refl _ | (repeat (first | exact VSubs.nil | refine VSubs.cons (by first | exact VSub.refl _ | assumption | exact VSub.cap | exact VSub.any _) ?_))))); apply WpItems.evR)); (· simp only [go_sem, reduceIte, Nat.reduceEqDiff, Nat.reduceAdd, bx, ax, if_true, if_false, Nat.reduceMul, Nat.reduceLeDiff]; exact rfl))
    | (refine WpItems.nil ⟨?_, ?_⟩; (· first | trivial | simp [pairsQ, pairsOk, apart, ent0]))
    | (apply Wp.cond_lit; (· simp only [go_sem, reduceIte, Nat.reduceEqDiff, Nat.reduceAdd, bx, ax, if_true, if_false, Nat.reduceMul, Nat.reduceLeDiff]; exact rfl); (· rfl))
    | refine Wp.skip ?_
    | refine Wp.label ?_
    | refine Wp.block ?_
    | refine Wp.exit ?_
    | refine Wp.seq ?_)
  refine Wp.ret ⟨trivial, _, rfl, ?_⟩
  simp only [go_sem, reduceIte, Nat.reduceEqDiff, Nat.reduceAdd, bx]
  exact VSub.refl _
def reS (a b : Nat) : Bool := decide ((3 * a : Int) - 2 * b < 0)
def reN (a b : Nat) : Nat := ((3 * a : Int) - 2 * b).natAbs
theorem times_p {a b : Nat} (ha : a < 1048573) (hb : b < 1048573) : PCalls Tryz.prog 108 [Cx false a false b, .sc (.complex .f64 4613937818241073152 4611686018427387904)] (Cx (leftZ (reS a b) (reN a b)) (leftN (reS a b) (reN a b)) false ((2 * a + 3 * b) % 1048573)) := by
  refine f108.pcalls0 (by simp) rfl rfl ?_
  unfold c108
  have m1 := fb_mul (m := a) (n := 3) false false (by omega) (by decide) (by omega)
  have m2 := fb_mul (m := b) (n := 2) false false (by omega) (by decide) (by omega)
  have m3 := fb_mul (m := a) (n := 2) false false (by omega) (by decide) (by omega)
  have m4 := fb_mul (m := b) (n := 3) false false (by omega) (by decide) (by omega)
  rw [fl3] at m1 m4
  rw [fl2] at m2 m3
  have e1 : sg false (a * 3) - sg false (b * 2) = (3 * a : Int) - 2 * b := by simp only [sg_false]; omega
  have d1 := fb_sub (m := a * 3) (n := b * 2) false false (by omega) (by omega) (by rw [e1]; omega)
  rw [e1] at d1
  have e2 : sumS false (!false) ((3 * a : Int) - 2 * b) = reS a b := by
    unfold sumS reS
    by_cases h : (3 * a : Int) - 2 * b = 0
    · rw [if_pos h, h]; rfl
    · rw [if_neg h]
  rw [e2] at d1
  have e3 : sg false (a * 2) + sg false (b * 3) = ((2 * a + 3 * b : Nat) : Int) := by simp only [sg_false]; omega
  have d2 := fb_add (m := a * 2) (n := b * 3) false false (by omega) (by omega) (by rw [e3]; simp; omega)
  have e4 : sumS false false ((2 * a + 3 * b : Nat) : Int) = false := by
    unfold sumS
    split
    · rfl
    · exact decide_eq_false (by omega)
  rw [e3, e4, Int.natAbs_natCast] at d2
  have hre : reN a b < 2 ^ 53 := by unfold reN; omega
  have hS : reS a b = true → 0 < reN a b := by
    intro h
    have := of_decide_eq_true h
    unfold reN
    omega
  have hsm := small_p (reS a b) false hre (show 2 * a + 3 * b < 2 ^ 53 by omega) hS (by simp)
  have z1 : leftZ false (2 * a + 3 * b) = false := rfl
  have z2 : leftN false (2 * a + 3 * b) = (2 * a + 3 * b) % 1048573 := rfl
  rw [z1, z2] at hsm
  simp only [Bool.false_bne, Bool.xor_false, Bool.false_xor] at m1 m2 m3 m4
  change floatBits .sub .f64 _ _ = some (fl (reS a b) (reN a b)) at d1
  clear hS hre e1 e2 e3 e4 z1 z2
  simp only [Cx] at hsm ⊢
  generalize fl (reS a b) (reN a b) = q1 at hsm d1
  generalize fl false (2 * a + 3 * b) = q2 at hsm d2
  generalize fl false (a * 3) = p1 at m1 d1
  generalize fl false (b * 2) = p2 at m2 d1
  generalize fl false (a * 2) = p3 at m3 d2
  generalize fl false (b * 3) = p4 at m4 d2
  generalize fl false a = xa at m1 m3 ⊢
  generalize fl false b = xb at m2 m4 ⊢
  repeat (first
    | ((first | apply Wp.seqItemsR | apply Wp.itemsR | ((first
        | (refine WpItems.pcall ?_ ?_ (hsm) ?_; (· simp only [go_sem, reduceIte, Nat.reduceEqDiff, Nat.reduceAdd, bx]); (· simp only [go_sem, reduceIte, Nat.reduceEqDiff, Nat.reduceAdd, bx, List.map]; first | exact VSubs.refl _ | (repeat (first | exact VSubs.nil | refine VSubs.cons (by first | exact VSub.refl _ | assumption | exact VSub.cap | exact VSub.any _) ?_))))); apply WpItems.evR)); (· simp only [go_sem, reduceIte, Nat.reduceEqDiff, Nat.reduceAdd, bx, ax, if_true, if_false, Nat.reduceMul, Nat.reduceLeDiff, m1, m2, m3, m4, d1, d2, Option.map_some]; exact rfl))
    | (refine WpItems.nil ⟨?_, ?_⟩; (· first | trivial | simp [pairsQ, pairsOk, apart, ent0]))
    | (apply Wp.cond_lit; (· simp only [go_sem, reduceIte, Nat.reduceEqDiff, Nat.reduceAdd, bx, ax, if_true, if_false, Nat.reduceMul, Nat.reduceLeDiff, m1, m2, m3, m4, d1, d2, Option.map_some]; exact rfl); (· rfl))
    | refine Wp.skip ?_
    | refine Wp.label ?_
    | refine Wp.block ?_
    | refine Wp.exit ?_
    | refine Wp.seq ?_)
  refine Wp.ret ⟨trivial, _, rfl, ?_⟩
  simp only [go_sem, reduceIte, Nat.reduceEqDiff, Nat.reduceAdd, bx]
  exact VSub.refl _
def tagStep (t : Nat × Nat) (c : Nat) : Nat × Nat := ((leftN (reS t.1 t.2) (reN t.1 t.2) + c + 1) % 1048573, ((2 * t.1 + 3 * t.2) % 1048573 + (256 - c)) % 1048573)
def tagN (l : List UInt8) : Nat × Nat := l.foldl (fun t c => tagStep t c.toNat) (0, 0)
theorem tag_lt (l : List UInt8) : (tagN l).1 < 1048573 ∧ (tagN l).2 < 1048573 := by
  have key : ∀ (l : List UInt8) (t : Nat × Nat), t.1 < 1048573 ∧ t.2 < 1048573 → (l.foldl (fun t c => tagStep t c.toNat) t).1 < 1048573 ∧ (l.foldl (fun t c => tagStep t c.toNat) t).2 < 1048573 := by
    intro l
    induction l with
    | nil => intro t h; exact h
    | cons c l ih => intro t h; exact ih _ ⟨Nat.mod_lt _ (by decide), Nat.mod_lt _ (by decide)⟩
  exact key l (0, 0) (by decide)
theorem tag_snoc (l : List UInt8) (j : Nat) (h : j < l.length) : tagN (l.take (j + 1)) = tagStep (tagN (l.take j)) (l.getD j default).toNat := by
  unfold tagN
  rw [take_snoc default h, List.foldl_append]; rfl
theorem told_p {a b : Nat} (ha : a < 1048573) (hb : b < 1048573) : PCalls Tryz.prog 110 [Cx false a false b] (.agg [.int .i64 a, .int .i64 b]) := by
  refine f110.pcalls0 (by simp) rfl rfl ?_
  unfold c110
  have t1 := toInt_nat (n := a) (by omega)
  have t2 := toInt_nat (n := b) (by omega)
  simp only [Cx]
  generalize fl false a = xa at t1 ⊢
  generalize fl false b = xb at t2 ⊢
  repeat (first
    | ((first | apply Wp.seqItemsR | apply Wp.itemsR); (· simp only [go_sem, reduceIte, Nat.reduceEqDiff, Nat.reduceAdd, bx, ax, if_true, if_false, Nat.reduceMul, Nat.reduceLeDiff, t1, t2, Option.map_some]; exact rfl))
    | (refine WpItems.nil ⟨?_, ?_⟩; (· first | trivial | simp [pairsQ, pairsOk, apart, ent0]))
    | (apply Wp.cond_lit; (· simp only [go_sem, reduceIte, Nat.reduceEqDiff, Nat.reduceAdd, bx, ax, if_true, if_false, Nat.reduceMul, Nat.reduceLeDiff, t1, t2, Option.map_some]; exact rfl); (· rfl))
    | refine Wp.skip ?_
    | refine Wp.label ?_
    | refine Wp.block ?_
    | refine Wp.exit ?_
    | refine Wp.seq ?_)
  refine Wp.ret ⟨trivial, _, rfl, ?_⟩
  simp only [go_sem, reduceIte, Nat.reduceEqDiff, Nat.reduceAdd, bx]
  exact VSub.refl _
theorem of_p (l : List UInt8) (hl : l.length ≤ 140737488351232) : PCalls Tryz.prog 49 [.sl 1 (bytesAV l) .any] (.agg [.int .i64 ((tagN l).1 : Nat), .int .i64 ((tagN l).2 : Nat)]) := by
  refine f49.pcalls0 (by simp) (by
    have : allPure (bytesAV l) = true := Av.allPure_map (fun a => rfl) l
    simp [allPure, isPure, capPure, this]) rfl ?_
  unfold c49
  have hil : (bytesAV l).length = l.length := by simp [bytesAV]
  have z0 : fl false 0 = 0 := fl00
  repeat (first
    | ((first | apply Wp.seqItemsR | apply Wp.itemsR); (· simp only [go_sem, reduceIte, Nat.reduceEqDiff, Nat.reduceAdd, bx, ax, if_true, if_false, Nat.reduceMul, Nat.reduceLeDiff, hil]; exact rfl))
    | (refine WpItems.nil ⟨?_, ?_⟩; (· first | trivial | simp [pairsQ, pairsOk, apart, ent0]))
    | (apply Wp.cond_lit; (· simp only [go_sem, reduceIte, Nat.reduceEqDiff, Nat.reduceAdd, bx, ax, if_true, if_false, Nat.reduceMul, Nat.reduceLeDiff, hil]; exact rfl); (· rfl))
    | refine Wp.skip ?_
    | refine Wp.label ?_
    | refine Wp.block ?_
    | refine Wp.exit ?_
    | refine Wp.seq ?_)
  refine Wp.loopK [2, 6, 7] (by simp only [go_sem, reduceIte, Nat.reduceEqDiff, Nat.reduceAdd, bx, List.map]; exact rfl) (fun j : Nat => [(3, Cx false (tagN (l.take j)).1 false (tagN (l.take j)).2), (8, .int .i64 (j : Nat))]) (fun j => j ≤ l.length) (fun j => l.length - j) 0 (Nat.zero_le _) ?_ ?_
  · simp only [AllSub, go_sem, reduceIte, Nat.reduceEqDiff, Nat.reduceAdd, bx, List.take_zero, tagN, List.foldl_nil, Int.ofNat_zero, z0]; and_intros <;> first | exact trivial | exact VSub.refl _ | exact VSub.any _ | (refine VSub.int ?_; omega)
  intro j hj
  by_cases hcj : j < l.length
  · have g1 : decide (((j : Nat) : Int) < ((l.length : Nat) : Int)) = true := decide_eq_true (by omega)
    have h2 : (0 : Int) ≤ ((j : Nat) : Int) := by omega
    have h3 : ((j : Nat) : Int) < ((l.length : Nat) : Int) := by omega
    have e1 : IntKind.i64.wrap (((j : Nat) : Int) + 1) = ((j + 1 : Nat) : Int) := by rw [IntWalk.i64_in _ (by omega)]; omega
    have hat : (bytesAV l).getD j .any = byte (l.getD j default) := enc_at byte l j .any hcj
    have hs := tag_snoc l j hcj
    obtain ⟨ha, hb⟩ := tag_lt (l.take j)
    generalize hx : l.getD j default = x at hat hs
    have hc : x.toNat < 256 := x.toNat_lt
    generalize tagN (l.take j) = t at hs ha hb
    obtain ⟨a, b⟩ := t
    simp only at ha hb
    have ht := times_p ha hb
    have i1 : floatOfInt .f64 ((x.toNat : Nat) : Int) = fl false x.toNat := ofInt_nat _
    have e1 : sg false x.toNat + sg false 1 = ((x.toNat + 1 : Nat) : Int) := by simp only [sg_false]; omega
    have a1 := fb_add (m := x.toNat) (n := 1) false false (by omega) (by decide) (by rw [e1]; simp; omega)
    have e2 : sumS false false ((x.toNat + 1 : Nat) : Int) = false := by
      unfold sumS
      split
      · rfl
      · exact decide_eq_false (by omega)
    rw [e1, e2, Int.natAbs_natCast, fl_one] at a1
    have a2 := fb_nat (m := 256) (n := x.toNat) (by omega) (by decide)
    rw [fl256] at a2
    have hL := leftN_lt (reS a b) (reN a b)
    have hZ : leftZ (reS a b) (reN a b) = true → leftN (reS a b) (reN a b) = 0 := by
      intro h
      unfold leftZ at h
      simp only [Bool.and_eq_true, decide_eq_true_eq] at h
      unfold leftN
      rw [h.1, h.2]; rfl
    have st : tagStep (a, b) x.toNat = ((leftN (reS a b) (reN a b) + x.toNat + 1) % 1048573, ((2 * a + 3 * b) % 1048573 + (256 - x.toNat)) % 1048573) := rfl
    rw [st] at hs
    generalize leftZ (reS a b) (reN a b) = z at ht hZ
    generalize leftN (reS a b) (reN a b) = p at ht hL hZ hs
    have hq := Nat.mod_lt (2 * a + 3 * b) (show 0 < 1048573 by decide)
    generalize (2 * a + 3 * b) % 1048573 = q at ht hq hs
    have e3 : sg z p + sg false (x.toNat + 1) = ((p + x.toNat + 1 : Nat) : Int) := by
      cases z with
      | false => simp only [sg_false]; omega
      | true => rw [hZ rfl]; simp only [sg_true, sg_false]; omega
    have a3 := fb_add (m := p) (n := x.toNat + 1) z false (by omega) (by omega) (by rw [e3]; simp; omega)
    have e4 : sumS z false ((p + x.toNat + 1 : Nat) : Int) = false := by
      unfold sumS
      rw [if_neg (by omega)]
      exact decide_eq_false (by omega)
    rw [e3, e4, Int.natAbs_natCast] at a3
    have e5 : sg false q + sg false (256 - x.toNat) = ((q + (256 - x.toNat) : Nat) : Int) := by simp only [sg_false]; omega
    have a4 := fb_add (m := q) (n := 256 - x.toNat) false false (by omega) (by omega) (by rw [e5]; simp; omega)
    have e6 : sumS false false ((q + (256 - x.toNat) : Nat) : Int) = false := by
      unfold sumS
      split
      · rfl
      · exact decide_eq_false (by omega)
    rw [e5, e6, Int.natAbs_natCast] at a4
    have hsm := small_p false false (m := p + x.toNat + 1) (n := q + (256 - x.toNat)) (by omega) (by omega) (by simp) (by simp)
    have z1 : ∀ n, leftZ false n = false := fun _ => rfl
    have z2 : ∀ n, leftN false n = n % 1048573 := fun _ => rfl
    rw [z1, z1, z2, z2] at hsm
    have s1 : cSumBits .add .f64 (fl z p) (fl false q) (fl false (x.toNat + 1)) (fl false (256 - x.toNat)) = some (fl false (p + x.toNat + 1), fl false (q + (256 - x.toNat))) := by
      unfold cSumBits
      rw [a3]
      simp only [Option.bind_some]
      rw [a4]; rfl
    have hby : byte x = .int .u8 (x.toNat : Nat) := rfl
    rw [hby] at hat
    simp only [Cx] at ht hsm
    repeat (first
      | ((first | apply Wp.seqItemsR | apply Wp.itemsR | ((first
          | (refine WpItems.pcall ?_ ?_ (ht) ?_; (· simp only [go_sem, reduceIte, Nat.reduceEqDiff, Nat.reduceAdd, bx]); (· simp only [go_sem, reduceIte, Nat.reduceEqDiff, Nat.reduceAdd, bx, List.map]; first | exact VSubs.refl _ | (repeat (first | exact VSubs.nil | refine VSubs.cons (by first | exact VSub.refl _ | assumption | exact VSub.cap | exact VSub.any _) ?_))))
          | (refine WpItems.pcall ?_ ?_ (hsm) ?_; (· simp only [go_sem, reduceIte, Nat.reduceEqDiff, Nat.reduceAdd, bx]); (· simp only [go_sem, reduceIte, Nat.reduceEqDiff, Nat.reduceAdd, bx, List.map]; first | exact VSubs.refl _ | (repeat (first | exact VSubs.nil | refine VSubs.cons (by first | exact VSub.refl _ | assumption | exact VSub.cap | exact VSub.any _) ?_))))); apply WpItems.evR)); (· simp only [go_sem, reduceIte, Nat.reduceEqDiff, Nat.reduceAdd, bx, ax, if_true, if_false, Nat.reduceMul, Nat.reduceLeDiff, g1, h2, h3, hat, hil, i1, a1, a2, s1, Option.map_some]; exact rfl))
      | (refine WpItems.nil ⟨?_, ?_⟩; (· first | trivial | simp [pairsQ, pairsOk, apart, ent0]))
      | (apply Wp.cond_lit; (· simp only [go_sem, reduceIte, Nat.reduceEqDiff, Nat.reduceAdd, bx, ax, if_true, if_false, Nat.reduceMul, Nat.reduceLeDiff, g1, h2, h3, hat, hil, i1, a1, a2, s1, Option.map_some]; exact rfl); (· rfl))
      | refine Wp.skip ?_
      | refine Wp.label ?_
      | refine Wp.block ?_
      | refine Wp.exit ?_
      | refine Wp.seq ?_)
    refine ⟨j + 1, by omega, by omega, ?_⟩
    rw [hs]
    refine StLe.tm (by simp only [AllSub, go_sem, reduceIte, Nat.reduceEqDiff, Nat.reduceAdd, bx, e1]; and_intros <;> first | exact trivial | exact VSub.refl _ | exact VSub.any _ | (refine VSub.int ?_; omega))
  · have hj2 : j = l.length := by omega
    subst hj2
    have g1 : decide (((l.length : Nat) : Int) < ((l.length : Nat) : Int)) = false := decide_eq_false (by omega)
    have hT := told_p (tag_lt l).1 (tag_lt l).2
    rw [List.take_length]
    repeat (first
      | ((first | apply Wp.seqItemsR | apply Wp.itemsR | ((first
          | (refine WpItems.pcall ?_ ?_ (hT) ?_; (· simp only [go_sem, reduceIte, Nat.reduceEqDiff, Nat.reduceAdd, bx]); (· simp only [go_sem, reduceIte, Nat.reduceEqDiff, Nat.reduceAdd, bx, List.map]; first | exact VSubs.refl _ | (repeat (first | exact VSubs.nil | refine VSubs.cons (by first | exact VSub.refl _ | assumption | exact VSub.cap | exact VSub.any _) ?_))))); apply WpItems.evR)); (· simp only [go_sem, reduceIte, Nat.reduceEqDiff, Nat.reduceAdd, bx, ax, if_true, if_false, Nat.reduceMul, Nat.reduceLeDiff, g1, hil]; exact rfl))
      | (refine WpItems.nil ⟨?_, ?_⟩; (· first | trivial | simp [pairsQ, pairsOk, apart, ent0]))
      | (apply Wp.cond_lit; (· simp only [go_sem, reduceIte, Nat.reduceEqDiff, Nat.reduceAdd, bx, ax, if_true, if_false, Nat.reduceMul, Nat.reduceLeDiff, g1, hil]; exact rfl); (· rfl))
      | refine Wp.skip ?_
      | refine Wp.label ?_
      | refine Wp.block ?_
      | refine Wp.exit ?_
      | refine Wp.seq ?_)
    refine Wp.ret ⟨trivial, _, rfl, ?_⟩
    simp only [go_sem, reduceIte, Nat.reduceEqDiff, Nat.reduceAdd, bx]
    exact VSub.refl _
end Go.Proofs.YtkcgpcbpieofnaaGreatDoor.Fl
end
section
set_option linter.unusedSimpArgs false
set_option linter.unusedVariables false
set_option maxRecDepth 100000
namespace Go.Proofs.YtkcgpcbpieofnaaGreatDoor.Desk
open Go Go.Av Go.Proofs Go.Proofs.YtkcgpcbpieofnaaGreatDoor.C Go.Proofs.YtkcgpcbpieofnaaGreatDoor.Batch Go.Proofs.YtkcgpcbpieofnaaGreatDoor.Reads
def bytesOf : List AV → Option (List UInt8)
  | [] => some []
  | .int .u8 (.ofNat n) :: l => match Nat.beq (UInt8.ofNat n).toNat n, bytesOf l with
    | true, some r => some (UInt8.ofNat n :: r)
    | _, _ => none
  | _ => none
theorem bytesOf_ok : ∀ {xs : List AV} {l : List UInt8}, bytesOf xs = some l → xs = bytesAV l
  | [], l, h => by simp only [bytesOf, Option.some.injEq] at h; subst h; rfl
  | x :: xs, l, h => by
    unfold bytesOf at h
    split at h
    · rename_i e; cases e
    · rename_i n l' e
      cases e
      split at h
      · rename_i r h1 h2
        cases h
        have h1 := Nat.eq_of_beq_eq_true h1
        rw [bytesOf_ok h2]
        have e2 : byte (UInt8.ofNat n) = .int .u8 (.ofNat n) := by
          change AV.int .u8 (((UInt8.ofNat n).toNat : Nat) : Int) = _
          rw [h1]; rfl
        change _ = byte (UInt8.ofNat n) :: bytesAV r
        rw [e2]
      · cases h
    · cases h
def tagPP (f : Nat) (args : List AV) : Option AV :=
  match Nat.beq f 49 with
  | true => match args with
    | [.sl s xs _] => match bytesOf xs with
      | some l => match (Nat.beq s 1 || l.isEmpty) && Nat.ble l.length 140737488351232 with
        | true => some (.agg [.int .i64 ((Fl.tagN l).1 : Nat), .int .i64 ((Fl.tagN l).2 : Nat)])
        | false => none
      | none => none
    | _ => none
  | false => none
theorem tagPP_ok {f : Nat} {args : List AV} {r : AV} (h : tagPP f args = some r) : (∃ vals, VSubs args vals ∧ PCalls Tryz.prog f vals r) ∧ NamedF Tryz.prog f := by
  unfold tagPP at h
  split at h
  · rename_i e
    have e := Nat.eq_of_beq_eq_true e
    subst e
    split at h
    · split at h
      · rename_i l hl
        split at h
        · rename_i hc
          cases h
          simp only [Bool.and_eq_true, Bool.or_eq_true] at hc
          refine ⟨⟨[.sl 1 (bytesAV l) .any], VSubs.cons ?_ VSubs.nil, Fl.of_p l (Nat.le_of_ble_eq_true hc.2)⟩, named Tryz.func49 (of_decide_eq_true (by kernel_rfl)) (of_decide_eq_true (by kernel_rfl))⟩
          rw [bytesOf_ok hl]
          rcases hc.1 with e | e
          · rw [Nat.eq_of_beq_eq_true e]; exact VSub.cap
          · have : l = [] := List.isEmpty_iff.1 e
            subst this; exact VSub.nil
        · cases h
      · cases h
    · cases h
  · cases h
noncomputable def prims : PrimsZ := orPrimsZ (insPrim 183) (orPrimsZ (purePrimZ readsPP) (purePrimZ tagPP))
theorem prims_ok : PrimsOkZ Tryz.prog prims := orPrimsZ_ok insPrim_ok (orPrimsZ_ok (purePrimZ_ok fun f args r h => readsPP_ok h) (purePrimZ_ok fun f args r h => tagPP_ok h))
end Go.Proofs.YtkcgpcbpieofnaaGreatDoor.Desk
end
section
set_option maxRecDepth 100000
namespace Go.Proofs.YtkcgpcbpieofnaaGreatDoor.C
open Go.Av
def tabE : FT :=
  (.node 119 ⟨55, c119, [.tmp 10, .tmp 11]⟩ (.node 69 ⟨17, c69, [.tmp 4]⟩ (.node 49 ⟨27, c49, [.cell 2 (some 2)]⟩ (.node 38 ⟨3, c38, [.tmp 0]⟩ (.node 21 ⟨32, c21, [.tmp 4]⟩ (.node 11 ⟨4, c11, [.tmp 0]⟩
  (.node 10 ⟨26, c10, [.tmp 4, .tmp 5]⟩ .leaf .leaf) (.node 15 ⟨72, c15, [.tmp 10, .tmp 11]⟩ .leaf .leaf)) (.node 37 ⟨110, c37, [.tmp 0]⟩ (.node 33 ⟨9, c33, [.tmp 2]⟩ .leaf .leaf) .leaf)) (.node 42
  ⟨15, c42, [.tmp 0, .tmp 1]⟩ (.node 40 ⟨40, c40, [.tmp 4, .tmp 5]⟩ (.node 39 ⟨22, c39, [.tmp 4]⟩ .leaf .leaf) (.node 41 ⟨40, c41, [.tmp 4, .tmp 5]⟩ .leaf .leaf)) (.node 47 ⟨80, c47, [.tmp 4]⟩ (.node
  46 ⟨22, c46, [.cell 4 (some 24)]⟩ .leaf .leaf) .leaf))) (.node 57 ⟨49, c57, [.tmp 2]⟩ (.node 53 ⟨15, c53, [.tmp 8, .tmp 9]⟩ (.node 51 ⟨12, c51, [.tmp 2]⟩ (.node 50 ⟨31, c50, [.tmp 6, .tmp 7]⟩ .leaf
  .leaf) (.node 52 ⟨62, c52, [.cell 2 (some 2), .tmp 3]⟩ .leaf .leaf)) (.node 56 ⟨7, c56, [.tmp 2]⟩ (.node 55 ⟨15, c55, [.tmp 2]⟩ .leaf .leaf) .leaf)) (.node 61 ⟨73, c61, [.tmp 2, .tmp 3]⟩ (.node 59
  ⟨26, c59, [.tmp 2]⟩ (.node 58 ⟨31, c58, [.tmp 4, .tmp 5]⟩ .leaf .leaf) (.node 60 ⟨18, c60, [.tmp 4]⟩ .leaf .leaf)) (.node 63 ⟨47, c63, [.tmp 10, .tmp 11]⟩ (.node 62 ⟨42, c62, [.tmp 4]⟩ .leaf .leaf)
  .leaf)))) (.node 106 ⟨26, c106, [.tmp 4]⟩ (.node 98 ⟨131, c98, [.cell 6 (some 24)]⟩ (.node 82 ⟨10, c82, [.tmp 2]⟩ (.node 78 ⟨29, c78, [.tmp 6]⟩ (.node 73 ⟨20, c73, [.tmp 4]⟩ .leaf .leaf) (.node 79
  ⟨40, c79, [.tmp 2, .tmp 3]⟩ .leaf .leaf)) (.node 84 ⟨12, c84, [.tmp 6]⟩ (.node 83 ⟨29, c83, [.tmp 2]⟩ .leaf .leaf) .leaf)) (.node 103 ⟨26, c103, [.tmp 4]⟩ (.node 100 ⟨90, c100, [.cell 6 (some 24)]⟩
  (.node 99 ⟨7, c99, [.cell 2 (some 24)]⟩ .leaf .leaf) (.node 101 ⟨6, c101, [.cell 2 (some 24)]⟩ .leaf .leaf)) (.node 105 ⟨52, c105, [.tmp 4]⟩ (.node 104 ⟨31, c104, [.tmp 4]⟩ .leaf .leaf) .leaf)))
  (.node 113 ⟨12, c113, [.tmp 2]⟩ (.node 110 ⟨10, c110, [.cell 2 (some 2)]⟩ (.node 108 ⟨33, c108, [.tmp 4]⟩ (.node 107 ⟨26, c107, [.tmp 4]⟩ .leaf .leaf) (.node 109 ⟨10, c109, [.tmp 2]⟩ .leaf .leaf))
  (.node 112 ⟨28, c112, [.tmp 4, .tmp 5]⟩ (.node 111 ⟨23, c111, [.tmp 4]⟩ .leaf .leaf) .leaf)) (.node 116 ⟨5, c116, [.tmp 2]⟩ (.node 115 ⟨55, c115, [.tmp 4]⟩ (.node 114 ⟨32, c114, [.tmp 2]⟩ .leaf
  .leaf) .leaf) (.node 118 ⟨78, c118, [.tmp 4, .tmp 5]⟩ (.node 117 ⟨26, c117, [.tmp 4, .tmp 5]⟩ .leaf .leaf) .leaf))))) (.node 167 ⟨26, c167, [.tmp 4, .tmp 5]⟩ (.node 145 ⟨11, c145, [.tmp 2]⟩ (.node
  130 ⟨12, c130, [.tmp 4]⟩ (.node 126 ⟨21, c126, [.tmp 2, .tmp 3]⟩ (.node 124 ⟨14, c124, [.tmp 4]⟩ (.node 120 ⟨101, c120, [.tmp 8]⟩ .leaf .leaf) (.node 125 ⟨11, c125, [.tmp 4, .tmp 5]⟩ .leaf .leaf))
  (.node 129 ⟨58, c129, [.tmp 6]⟩ (.node 128 ⟨19, c128, [.tmp 4]⟩ .leaf .leaf) .leaf)) (.node 139 ⟨14, c139, [.tmp 4]⟩ (.node 137 ⟨15, c137, [.tmp 2, .tmp 3]⟩ (.node 134 ⟨21, c134, [.tmp 6]⟩ .leaf
  .leaf) (.node 138 ⟨22, c138, [.tmp 2]⟩ .leaf .leaf)) (.node 142 ⟨30, c142, [.tmp 2, .tmp 3]⟩ (.node 141 ⟨58, c141, [.tmp 2, .tmp 3]⟩ .leaf .leaf) .leaf))) (.node 152 ⟨38, c152, [.tmp 2, .tmp 3]⟩
  (.node 149 ⟨9, c149, [.tmp 4]⟩ (.node 147 ⟨12, c147, [.tmp 2]⟩ (.node 146 ⟨10, c146, [.tmp 2]⟩ .leaf .leaf) (.node 148 ⟨31, c148, [.tmp 2]⟩ .leaf .leaf)) (.node 151 ⟨11, c151, [.cell 4 (some 3)]⟩
  (.node 150 ⟨5, c150, [.cell 2 (some 3)]⟩ .leaf .leaf) .leaf)) (.node 155 ⟨54, c155, [.tmp 4, .tmp 5]⟩ (.node 154 ⟨21, c154, []⟩ (.node 153 ⟨8, c153, [.tmp 6]⟩ .leaf .leaf) .leaf) (.node 166 ⟨72,
  c166, [.tmp 2, .tmp 3]⟩ (.node 165 ⟨26, c165, [.tmp 4, .tmp 5]⟩ .leaf .leaf) .leaf)))) (.node 198 ⟨6, c198, [.tmp 2]⟩ (.node 190 ⟨11, c190, [.tmp 4]⟩ (.node 185 ⟨9, c185, [.tmp 4]⟩ (.node 182 ⟨53,
  c182, [.tmp 2, .tmp 3]⟩ (.node 168 ⟨58, c168, [.tmp 2, .tmp 3]⟩ .leaf .leaf) (.node 184 ⟨20, c184, [.tmp 2]⟩ .leaf .leaf)) (.node 187 ⟨9, c187, [.tmp 4]⟩ (.node 186 ⟨9, c186, [.tmp 4]⟩ .leaf .leaf)
  .leaf)) (.node 195 ⟨49, c195, [.tmp 4]⟩ (.node 193 ⟨12, c193, [.tmp 4]⟩ (.node 192 ⟨26, c192, [.tmp 4]⟩ .leaf .leaf) (.node 194 ⟨16, c194, [.tmp 2]⟩ .leaf .leaf)) (.node 197 ⟨17, c197, [.tmp 4]⟩
  (.node 196 ⟨43, c196, []⟩ .leaf .leaf) .leaf))) (.node 236 ⟨15, c236, [.tmp 4]⟩ (.node 221 ⟨62, c221, [.tmp 4]⟩ (.node 216 ⟨24, c216, [.tmp 6]⟩ (.node 215 ⟨24, c215, [.tmp 6]⟩ .leaf .leaf) (.node
  217 ⟨24, c217, [.tmp 6]⟩ .leaf .leaf)) (.node 223 ⟨6, c223, [.tmp 2]⟩ (.node 222 ⟨26, c222, [.tmp 6]⟩ .leaf .leaf) .leaf)) (.node 240 ⟨12, c240, [.tmp 2, .tmp 3]⟩ (.node 239 ⟨7, c239, [.tmp 2]⟩
  (.node 237 ⟨6, c237, [.tmp 2]⟩ .leaf .leaf) .leaf) (.node 259 ⟨10, c259, [.tmp 2, .tmp 3]⟩ (.node 251 ⟨38, c251, [.tmp 2, .tmp 3]⟩ .leaf .leaf) .leaf))))))
theorem tabE_ok : tabE.Ok Tryz.prog :=
  ⟨f119, ⟨f69, ⟨f49, ⟨f38, ⟨f21, ⟨f11, ⟨f10, trivial, trivial⟩, ⟨f15, trivial, trivial⟩⟩, ⟨f37, ⟨f33, trivial, trivial⟩, trivial⟩⟩, ⟨f42, ⟨f40, ⟨f39, trivial, trivial⟩, ⟨f41, trivial, trivial⟩⟩, ⟨f47,
  ⟨f46, trivial, trivial⟩, trivial⟩⟩⟩, ⟨f57, ⟨f53, ⟨f51, ⟨f50, trivial, trivial⟩, ⟨f52, trivial, trivial⟩⟩, ⟨f56, ⟨f55, trivial, trivial⟩, trivial⟩⟩, ⟨f61, ⟨f59, ⟨f58, trivial, trivial⟩, ⟨f60,
  trivial, trivial⟩⟩, ⟨f63, ⟨f62, trivial, trivial⟩, trivial⟩⟩⟩⟩, ⟨f106, ⟨f98, ⟨f82, ⟨f78, ⟨f73, trivial, trivial⟩, ⟨f79, trivial, trivial⟩⟩, ⟨f84, ⟨f83, trivial, trivial⟩, trivial⟩⟩, ⟨f103, ⟨f100,
  ⟨f99, trivial, trivial⟩, ⟨f101, trivial, trivial⟩⟩, ⟨f105, ⟨f104, trivial, trivial⟩, trivial⟩⟩⟩, ⟨f113, ⟨f110, ⟨f108, ⟨f107, trivial, trivial⟩, ⟨f109, trivial, trivial⟩⟩, ⟨f112, ⟨f111, trivial,
  trivial⟩, trivial⟩⟩, ⟨f116, ⟨f115, ⟨f114, trivial, trivial⟩, trivial⟩, ⟨f118, ⟨f117, trivial, trivial⟩, trivial⟩⟩⟩⟩⟩, ⟨f167, ⟨f145, ⟨f130, ⟨f126, ⟨f124, ⟨f120, trivial, trivial⟩, ⟨f125, trivial,
  trivial⟩⟩, ⟨f129, ⟨f128, trivial, trivial⟩, trivial⟩⟩, ⟨f139, ⟨f137, ⟨f134, trivial, trivial⟩, ⟨f138, trivial, trivial⟩⟩, ⟨f142, ⟨f141, trivial, trivial⟩, trivial⟩⟩⟩, ⟨f152, ⟨f149, ⟨f147, ⟨f146,
  trivial, trivial⟩, ⟨f148, trivial, trivial⟩⟩, ⟨f151, ⟨f150, trivial, trivial⟩, trivial⟩⟩, ⟨f155, ⟨f154, ⟨f153, trivial, trivial⟩, trivial⟩, ⟨f166, ⟨f165, trivial, trivial⟩, trivial⟩⟩⟩⟩, ⟨f198,
  ⟨f190, ⟨f185, ⟨f182, ⟨f168, trivial, trivial⟩, ⟨f184, trivial, trivial⟩⟩, ⟨f187, ⟨f186, trivial, trivial⟩, trivial⟩⟩, ⟨f195, ⟨f193, ⟨f192, trivial, trivial⟩, ⟨f194, trivial, trivial⟩⟩, ⟨f197, ⟨f196,
  trivial, trivial⟩, trivial⟩⟩⟩, ⟨f236, ⟨f221, ⟨f216, ⟨f215, trivial, trivial⟩, ⟨f217, trivial, trivial⟩⟩, ⟨f223, ⟨f222, trivial, trivial⟩, trivial⟩⟩, ⟨f240, ⟨f239, ⟨f237, trivial, trivial⟩, trivial⟩,
  ⟨f259, ⟨f251, trivial, trivial⟩, trivial⟩⟩⟩⟩⟩⟩
theorem tabE_named : tabE.named Tryz.prog = true := by kernel_rfl
end Go.Proofs.YtkcgpcbpieofnaaGreatDoor.C
end
section
set_option maxRecDepth 100000
namespace Go.Proofs.YtkcgpcbpieofnaaGreatDoor.Desk
open Go Go.Av Go.Proofs Go.Proofs.YtkcgpcbpieofnaaGreatDoor.C
theorem lives25_p : PCalls Tryz.prog 37 [] (.bool true) := pcalls_runZ tabE_ok tabE_named prims_ok (k := 100000) (by kernel_rfl)
end Go.Proofs.YtkcgpcbpieofnaaGreatDoor.Desk
end
section
set_option linter.unusedSimpArgs false
set_option linter.unusedVariables false
set_option maxRecDepth 100000
namespace Go.Proofs.YtkcgpcbpieofnaaGreatDoor.Desk
open Go Go.Av Go.Proofs Go.Proofs.YtkcgpcbpieofnaaGreatDoor.C
end Go.Proofs.YtkcgpcbpieofnaaGreatDoor.Desk
end
section
set_option linter.unusedVariables false
set_option linter.unusedSimpArgs false
namespace Go.Av
theorem VSub.sup {l : List UInt8} {B : Nat} (h : l.length ≤ B) : VSub (.str l) (.sup B) := by
  intro G w v hv
  simp only [VRel] at hv ⊢
  exact ⟨l, hv, h⟩
theorem PCalls.sup {P : Program} {f : FuncId} {a b : List AV} {B : Nat} {r : AV} (h : ∀ l : List UInt8, l.length ≤ B → PCalls P f (a ++ .str l :: b) r) : PCalls P f (a ++ .sup B :: b) r := by
  intro n m G w vs hv R F
  have key : ∀ (a : List AV) (vs : List Value), VRels G w (a ++ .sup B :: b) vs → ∃ l : List UInt8, l.length ≤ B ∧ VRels G w (a ++ .str l :: b) vs := by
    intro a
    induction a with
    | nil =>
      intro vs hv
      simp only [List.nil_append, VRels, VRel] at hv ⊢
      obtain ⟨v, us, e, ⟨l, h1, h2⟩, h3⟩ := hv
      exact ⟨l, h2, v, us, e, h1, h3⟩
    | cons x a ih =>
      intro vs hv
      simp only [List.cons_append, VRels] at hv ⊢
      obtain ⟨v, us, e, h1, h2⟩ := hv
      obtain ⟨l, h3, h4⟩ := ih us h2
      exact ⟨l, h3, v, us, e, h1, h4⟩
  obtain ⟨l, h1, h2⟩ := key a vs hv
  exact h l h1 n m G w vs h2 R F
theorem ACalls.sup {P : Program} {f : FuncId} {a b : List AV} {B : Nat} {h h' : H} {r : AV} (hc : ∀ l : List UInt8, l.length ≤ B → ACalls P f (a ++ .str l :: b) h r h') : ACalls P f (a ++ .sup B :: b) h r h' := by
  intro G w vs hv R F
  have key : ∀ (a : List AV) (vs : List Value), VRels G w (a ++ .sup B :: b) vs → ∃ l : List UInt8, l.length ≤ B ∧ VRels G w (a ++ .str l :: b) vs := by
    intro a
    induction a with
    | nil =>
      intro vs hv
      simp only [List.nil_append, VRels, VRel] at hv ⊢
      obtain ⟨v, us, e, ⟨l, h1, h2⟩, h3⟩ := hv
      exact ⟨l, h2, v, us, e, h1, h3⟩
    | cons x a ih =>
      intro vs hv
      simp only [List.cons_append, VRels] at hv ⊢
      obtain ⟨v, us, e, h1, h2⟩ := hv
      obtain ⟨l, h3, h4⟩ := ih us h2
      exact ⟨l, h3, v, us, e, h1, h4⟩
  obtain ⟨l, h1, h2⟩ := key a vs hv
  exact hc l h1 G w vs h2 R F
theorem VSub.wint {k : IntKind} {n : Int} : VSub (.int k n) (.wint k) := by
  intro G w v h
  simp only [VRel] at h ⊢
  exact ⟨n, h⟩
theorem PCalls.args {P : Program} {f : FuncId} {l m : List AV} {r : AV} (hs : VSubs l m) (h : PCalls P f m r) : PCalls P f l r :=
  fun n k G w vs hv => h n k G w vs (hs G w vs hv)
end Go.Av
end
section
set_option linter.unusedVariables false
set_option linter.unusedSimpArgs false
namespace Go.Av
section
variable {P : Program} {N : Nat}
theorem WpItemsF.evA : ∀ {items its : List AItem} {t t' : Tm} {h h' : H} {log log' : List Ent} {K : Tm → H → Prop}, evalOps items t h log = (its, t', h', log') → WpItemsF P N its t' h' K → WpItemsF P N items t h K
  | [], its, t, t', h, h', log, log', K, he, hw => by simp only [evalOps, Prod.mk.injEq] at he; obtain ⟨rfl, rfl, rfl, rfl⟩ := he; exact hw
  | it :: items, its, t, t', h, h', log, log', K, he, hw => by
    simp only [evalOps] at he
    split at he
    · rename_i hg
      split at he
      · rename_i x h2 en hx
        refine WpItemsF.step (fun ops i o ho hit => ?_) (WpItemsF.evA he hw)
        obtain ⟨h1, h1', tc, run⟩ := itrun_op ho hit hg hx
        exact (Near.frun (N := N) (full := false) (.inl tc) run)
      · simp only [Prod.mk.injEq] at he; obtain ⟨rfl, rfl, rfl, rfl⟩ := he; exact hw
    · rename_i hg
      exact WpItemsF.step (fun ops i o ho hit => Near.frun (N := N) (full := false) (.inl (touch_none h)) (itrun_skip ho hit hg)) (WpItemsF.evA he hw)
    · simp only [Prod.mk.injEq] at he; obtain ⟨rfl, rfl, rfl, rfl⟩ := he; exact hw
theorem WpItemsF.evF {items its : List AItem} {t t' : Tm} {h h' : H} {log : List Ent} {K : Tm → H → Prop} (he : evalR items t h [] = some (its, t', h', log)) (hw : WpItemsF P N its t' h' K) : WpItemsF P N items t h K := WpItemsF.evA (evalR_ok he) hw
theorem Wp.itemsF {items its : List AItem} {s : St} {Q : AExit → St → Prop} {t' : Tm} {h' : H} {log : List Ent} (he : evalR items s.t s.h [] = some (its, t', h', log)) (h : WpItemsF P N its t' h' fun t h => Q .normal ⟨t, h⟩) : Wp P N (.reg items none) s Q := Wp.regF (WpItemsF.evF he h)
theorem Wp.seqItemsF {items its : List AItem} {y : AC} {s : St} {Q : AExit → St → Prop} {t' : Tm} {h' : H} {log : List Ent} (he : evalR items s.t s.h [] = some (its, t', h', log)) (h : WpItemsF P N its t' h' fun t h => Wp P N y ⟨t, h⟩ Q) : Wp P N (.seq (.reg items none) y) s Q := Wp.seq (Wp.itemsF he h)
theorem WpItemsF.acall {dst : Option Nat} {g : Option (Nat × Bool)} {f : FuncId} {l : List Opd} {its : List AItem} {t : Tm} {h h' : H} {K : Tm → H → Prop} {vals : List AV} {r : AV} (hg : guardOf t g = some true) (hs : VSubs (l.map (ev t)) vals) (hn : h.n ≤ h'.n ∧ h.m ≤ h'.m) (hc : ACalls P f vals h r h')
    (rest : WpItemsF P N its (putT t dst r) h' K) : WpItemsF P N (⟨dst, g, .call f l⟩ :: its) t h K :=
  WpItemsF.step (fun ops i o ho hit => FRun.full hn (itrun_call ho hit hg rfl hs hc)) rest
theorem WpItemsF.pcall {dst : Option Nat} {g : Option (Nat × Bool)} {f : FuncId} {l : List Opd} {its : List AItem} {t : Tm} {h : H} {K : Tm → H → Prop} {vals : List AV} {r : AV} (hg : guardOf t g = some true) (hs : VSubs (l.map (ev t)) vals) (hc : PCalls P f vals r)
    (rest : WpItemsF P N its (putT t dst r) h K) : WpItemsF P N (⟨dst, g, .call f l⟩ :: its) t h K :=
  WpItemsF.step (fun ops i o ho hit => Near.frun (N := N) (full := false) (.inl (touch_none h)) (itrun_call ho hit hg rfl hs (hc h.n h.m))) rest
theorem ACalls.frame {f : FuncId} {args : List AV} {h h1 h1' : H} {r : AV} (hs : h1.sub h) (hn : h1.n = h.n) (hm : h1.m = h.m) (ln : h1.n ≤ h1'.n) (lm : h1.m ≤ h1'.m) (hc : ACalls P f args h1 r h1') : ACalls P f args h r (h.patch h1 h1') := by
  intro G w vs hv R F
  have F1 : Fresh G h1 h1' := ⟨fun id a b => F.1 id (by omega) b, fun t a b => F.2 t (by omega) b⟩
  refine (hc G w vs hv (R.sub hs) F1).mono ?_
  rintro e w' ⟨v, G', rfl, T, R', V⟩
  obtain ⟨R2, T2⟩ := Av.frame R hs hn hm R' T F1
  exact ⟨v, G', rfl, T2, R2, V⟩
theorem FnIs.acallsR {f : FuncId} {ac : AC} {args : List AV} {h h' : H} {ds : List RV} {r : AV} (hF : FnIs P f N ac ds) (hl : args.length ≤ N) (hw : Wp P N ac ⟨initT args, h⟩ fun e s' => isEnd e ∧ ∃ q, resOf ds s'.t s'.h = some q ∧ VSub q r ∧ s'.h = h') : ACalls P f args h r h' := by
  obtain ⟨q, h2, hc, hs, rfl⟩ := hF.acalls (Q := fun q h2 => VSub q r ∧ h2 = h') hl hw
  intro G w vs hv R F
  refine (hc G w vs hv R F).mono ?_
  rintro e w' ⟨v, G', rfl, T, R', V⟩
  exact ⟨v, G', rfl, T, R', hs G' w' v V⟩
end
end Go.Av
end
section
set_option linter.unusedSimpArgs false
set_option linter.unusedVariables false
set_option maxRecDepth 100000
namespace Go.Proofs.YtkcgpcbpieofnaaGreatDoor.Desk
open Go Go.Av Go.Proofs Go.Proofs.YtkcgpcbpieofnaaGreatDoor.C
def nilV : AV := .sc (.pointer none)
def isNilB : AV → Bool
  | .sc (.pointer none) => true
  | _ => false
def IsP (x : AV) : Prop := x = nilV ∨ ∃ id, x = .ptr id 0
structure Tb (o : List AV) : Prop where
  len : o.length = 8
  is : ∀ x ∈ o, IsP x
def tabO (T : Nat) (o : List AV) (n m : Nat) : H := .only (upd none' T (some (.cells (.bool true :: o)))) [] n m
theorem upd_at {α : Type} (f : Nat → α) (i : Nat) (x : α) : upd f i x i = x := by simp [upd]
theorem find_out (T : Nat) (o : List AV) (k : Int) (n m : Nat) (hk : ¬ (1 ≤ k ∧ k ≤ 8)) : ACalls Tryz.prog 40 [.ptr T 0, .int .i64 k] (tabO T o n m) (.tup [nilV, .int .i64 7]) (tabO T o n m) := by
  refine FnIs.acallsR f40 (by simp) ?_
  unfold c40 tabO
  have hT := upd_at none' T (some (Av.Obj.cells (.bool true :: o)))
  have hp : Av.part 0 none (.bool true :: o) = some (.bool true) := rfl
  by_cases h1 : k < 1
  · have d1 := decide_eq_true h1
    repeat (first
      | ((first | apply Wp.seqItemsR | apply Wp.itemsR); (· simp only [go_sem, reduceIte, Nat.reduceEqDiff, Nat.reduceAdd, bx, ax, if_true, if_false, Nat.reduceMul, Nat.reduceLeDiff, hT, hp, d1]; exact rfl))
      | (refine WpItems.nil ⟨?_, ?_⟩; (· first | trivial | simp [pairsQ, pairsOk, apart, ent0]))
      | (apply Wp.cond_lit; (· simp only [go_sem, reduceIte, Nat.reduceEqDiff, Nat.reduceAdd, bx, ax, if_true, if_false, Nat.reduceMul, Nat.reduceLeDiff, hT, hp, d1]; exact rfl); (· rfl))
      | refine Wp.skip ?_
      | refine Wp.label ?_
      | refine Wp.block ?_
      | refine Wp.exit ?_
      | refine Wp.seq ?_)
    refine Wp.ret ⟨trivial, _, rfl, ?_⟩
    simp only [go_sem, reduceIte, Nat.reduceEqDiff, Nat.reduceAdd, bx]
    exact ⟨VSub.refl _, trivial⟩
  · have d1 := decide_eq_false h1
    have d2 : decide (8 < k) = true := decide_eq_true (by omega)
    repeat (first
      | ((first | apply Wp.seqItemsR | apply Wp.itemsR); (· simp only [go_sem, reduceIte, Nat.reduceEqDiff, Nat.reduceAdd, bx, ax, if_true, if_false, Nat.reduceMul, Nat.reduceLeDiff, hT, hp, d1, d2]; exact rfl))
      | (refine WpItems.nil ⟨?_, ?_⟩; (· first | trivial | simp [pairsQ, pairsOk, apart, ent0]))
      | (apply Wp.cond_lit; (· simp only [go_sem, reduceIte, Nat.reduceEqDiff, Nat.reduceAdd, bx, ax, if_true, if_false, Nat.reduceMul, Nat.reduceLeDiff, hT, hp, d1, d2]; exact rfl); (· rfl))
      | refine Wp.skip ?_
      | refine Wp.label ?_
      | refine Wp.block ?_
      | refine Wp.exit ?_
      | refine Wp.seq ?_)
    refine Wp.ret ⟨trivial, _, rfl, ?_⟩
    simp only [go_sem, reduceIte, Nat.reduceEqDiff, Nat.reduceAdd, bx]
    exact ⟨VSub.refl _, trivial⟩
theorem part_at {o : List AV} {j : Nat} {x : AV} (hx : o[j]? = some x) : (AV.bool true :: o)[1 + j * 1]? = some x := by
  rw [show 1 + j * 1 = j + 1 by omega]
  simpa using hx
theorem find_nil (T : Nat) (o : List AV) (j : Nat) (hj : j < 8) (hx : o[j]? = some nilV) (n m : Nat) : ACalls Tryz.prog 40 [.ptr T 0, .int .i64 ((j : Int) + 1)] (tabO T o n m) (.tup [nilV, .int .i64 7]) (tabO T o n m) := by
  unfold nilV at *
  refine FnIs.acallsR f40 (by simp) ?_
  unfold c40 tabO
  have hT := upd_at none' T (some (Av.Obj.cells (.bool true :: o)))
  have hp : Av.part 0 none (.bool true :: o) = some (.bool true) := rfl
  have d1 : decide ((j : Int) + 1 < 1) = false := decide_eq_false (by omega)
  have d2 : decide (8 < (j : Int) + 1) = false := decide_eq_false (by omega)
  have hw : IntKind.i64.wrap ((j : Int) + 1 - 1) = (j : Int) := by rw [Int.add_sub_cancel]; exact IntWalk.i64_in _ (by omega)
  have i1 : (0 : Int) ≤ (j : Int) := Int.natCast_nonneg _
  have i2 : (j : Int) < ((8 : Nat) : Int) := by omega
  have hp2 := part_at (j := j) hx
  repeat (first
    | ((first | apply Wp.seqItemsR | apply Wp.itemsR); (· simp only [go_sem, reduceIte, Nat.reduceEqDiff, Nat.reduceAdd, bx, ax, if_true, if_false, Nat.reduceMul, Nat.reduceLeDiff, hT, hp, d1, d2, hw, i1, i2, Int.toNat_natCast, and_self, hp2]; exact rfl))
    | (refine WpItems.nil ⟨?_, ?_⟩; (· first | trivial | simp [pairsQ, pairsOk, apart, ent0]))
    | (apply Wp.cond_lit; (· simp only [go_sem, reduceIte, Nat.reduceEqDiff, Nat.reduceAdd, bx, ax, if_true, if_false, Nat.reduceMul, Nat.reduceLeDiff, hT, hp, d1, d2, hw, i1, i2, Int.toNat_natCast, and_self, hp2]; exact rfl); (· rfl))
    | refine Wp.skip ?_
    | refine Wp.label ?_
    | refine Wp.block ?_
    | refine Wp.exit ?_
    | refine Wp.seq ?_)
  refine Wp.ret ⟨trivial, _, rfl, ?_⟩
  simp only [go_sem, reduceIte, Nat.reduceEqDiff, Nat.reduceAdd, bx]
  exact ⟨VSub.refl _, trivial⟩
theorem find_ptr (T : Nat) (o : List AV) (j id : Nat) (hj : j < 8) (hx : o[j]? = some (.ptr id 0)) (n m : Nat) : ACalls Tryz.prog 40 [.ptr T 0, .int .i64 ((j : Int) + 1)] (tabO T o n m) (.tup [.ptr id 0, .int .i64 0]) (tabO T o n m) := by
  refine FnIs.acallsR f40 (by simp) ?_
  unfold c40 tabO
  have hT := upd_at none' T (some (Av.Obj.cells (.bool true :: o)))
  have hp : Av.part 0 none (.bool true :: o) = some (.bool true) := rfl
  have d1 : decide ((j : Int) + 1 < 1) = false := decide_eq_false (by omega)
  have d2 : decide (8 < (j : Int) + 1) = false := decide_eq_false (by omega)
  have hw : IntKind.i64.wrap ((j : Int) + 1 - 1) = (j : Int) := by rw [Int.add_sub_cancel]; exact IntWalk.i64_in _ (by omega)
  have i1 : (0 : Int) ≤ (j : Int) := Int.natCast_nonneg _
  have i2 : (j : Int) < ((8 : Nat) : Int) := by omega
  have hp2 := part_at (j := j) hx
  repeat (first
    | ((first | apply Wp.seqItemsR | apply Wp.itemsR); (· simp only [go_sem, reduceIte, Nat.reduceEqDiff, Nat.reduceAdd, bx, ax, if_true, if_false, Nat.reduceMul, Nat.reduceLeDiff, hT, hp, d1, d2, hw, i1, i2, Int.toNat_natCast, and_self, hp2]; exact rfl))
    | (refine WpItems.nil ⟨?_, ?_⟩; (· first | trivial | simp [pairsQ, pairsOk, apart, ent0]))
    | (apply Wp.cond_lit; (· simp only [go_sem, reduceIte, Nat.reduceEqDiff, Nat.reduceAdd, bx, ax, if_true, if_false, Nat.reduceMul, Nat.reduceLeDiff, hT, hp, d1, d2, hw, i1, i2, Int.toNat_natCast, and_self, hp2]; exact rfl); (· rfl))
    | refine Wp.skip ?_
    | refine Wp.label ?_
    | refine Wp.block ?_
    | refine Wp.exit ?_
    | refine Wp.seq ?_)
  refine Wp.ret ⟨trivial, _, rfl, ?_⟩
  simp only [go_sem, reduceIte, Nat.reduceEqDiff, Nat.reduceAdd, bx]
  exact ⟨VSub.refl _, trivial⟩
theorem upd2 {α : Type} (f : Nat → α) (i : Nat) (x y : α) : upd (upd f i x) i y = upd f i y := by
  funext j; simp only [upd]; split <;> rfl
theorem set_at {o : List AV} {j : Nat} {x : AV} (hj : j < o.length) : List.take (1 + j * 1) (AV.bool true :: o) ++ [x] ++ List.drop (1 + j * 1) o = AV.bool true :: o.set j x := by
  rw [show 1 + j * 1 = j + 1 by omega, List.set_eq_take_append_cons_drop, if_pos hj]
  simp
theorem close_out (T : Nat) (o : List AV) (k : Int) (n m : Nat) (hk : ¬ (1 ≤ k ∧ k ≤ 8)) : ACalls Tryz.prog 39 [.ptr T 0, .int .i64 k] (tabO T o n m) (.int .i64 7) (tabO T o n m) := by
  refine FnIs.acallsR f39 (by simp) ?_
  unfold c39
  repeat (first
    | refine WpItemsF.nil ?_
    | ((first | apply Wp.seqItemsF | apply Wp.itemsF | ((first
        | (refine WpItemsF.acall ?_ ?_ ⟨Nat.le_refl _, Nat.le_refl _⟩ (find_out T o k n m hk) ?_; (· simp only [go_sem, reduceIte, Nat.reduceEqDiff, Nat.reduceAdd, bx]); (· simp only [go_sem, reduceIte, Nat.reduceEqDiff, Nat.reduceAdd, bx, List.map, ax, if_true, if_false, Nat.reduceMul, Nat.reduceLeDiff]; first | exact VSubs.refl _ | (repeat (first | exact VSubs.nil | refine VSubs.cons (by first | exact VSub.refl _ | assumption | exact VSub.cap | exact VSub.any _) ?_))))); apply WpItemsF.evF)); (· simp only [go_sem, reduceIte, Nat.reduceEqDiff, Nat.reduceAdd, bx, ax, if_true, if_false, Nat.reduceMul, Nat.reduceLeDiff]; exact rfl))
    | (apply Wp.cond_lit; (· simp only [go_sem, reduceIte, Nat.reduceEqDiff, Nat.reduceAdd, bx, ax, if_true, if_false, Nat.reduceMul, Nat.reduceLeDiff]; exact rfl); (· rfl))
    | refine Wp.skip ?_
    | refine Wp.label ?_
    | refine Wp.block ?_
    | refine Wp.exit ?_
    | refine Wp.seq ?_)
  refine Wp.ret ⟨trivial, _, rfl, ?_⟩
  simp only [go_sem, reduceIte, Nat.reduceEqDiff, Nat.reduceAdd, bx]
  exact ⟨VSub.refl _, trivial⟩
theorem close_nil (T : Nat) (o : List AV) (j : Nat) (hj : j < 8) (hx : o[j]? = some nilV) (n m : Nat) : ACalls Tryz.prog 39 [.ptr T 0, .int .i64 ((j : Int) + 1)] (tabO T o n m) (.int .i64 7) (tabO T o n m) := by
  refine FnIs.acallsR f39 (by simp) ?_
  unfold c39
  repeat (first
    | refine WpItemsF.nil ?_
    | ((first | apply Wp.seqItemsF | apply Wp.itemsF | ((first
        | (refine WpItemsF.acall ?_ ?_ ⟨Nat.le_refl _, Nat.le_refl _⟩ (find_nil T o j hj hx n m) ?_; (· simp only [go_sem, reduceIte, Nat.reduceEqDiff, Nat.reduceAdd, bx]); (· simp only [go_sem, reduceIte, Nat.reduceEqDiff, Nat.reduceAdd, bx, List.map, ax, if_true, if_false, Nat.reduceMul, Nat.reduceLeDiff]; first | exact VSubs.refl _ | (repeat (first | exact VSubs.nil | refine VSubs.cons (by first | exact VSub.refl _ | assumption | exact VSub.cap | exact VSub.any _) ?_))))); apply WpItemsF.evF)); (· simp only [go_sem, reduceIte, Nat.reduceEqDiff, Nat.reduceAdd, bx, ax, if_true, if_false, Nat.reduceMul, Nat.reduceLeDiff]; exact rfl))
    | (apply Wp.cond_lit; (· simp only [go_sem, reduceIte, Nat.reduceEqDiff, Nat.reduceAdd, bx, ax, if_true, if_false, Nat.reduceMul, Nat.reduceLeDiff]; exact rfl); (· rfl))
    | refine Wp.skip ?_
    | refine Wp.label ?_
    | refine Wp.block ?_
    | refine Wp.exit ?_
    | refine Wp.seq ?_)
  refine Wp.ret ⟨trivial, _, rfl, ?_⟩
  simp only [go_sem, reduceIte, Nat.reduceEqDiff, Nat.reduceAdd, bx]
  exact ⟨VSub.refl _, trivial⟩
theorem close_ptr (T : Nat) (o : List AV) (j id : Nat) (hj : j < 8) (hl : o.length = 8) (hc : ∀ x ∈ o, IsP x) (hx : o[j]? = some (.ptr id 0)) (n m : Nat) : ACalls Tryz.prog 39 [.ptr T 0, .int .i64 ((j : Int) + 1)] (tabO T o n m) (.int .i64 0) (tabO T (o.set j nilV) n m) := by
  refine FnIs.acallsR f39 (by simp) ?_
  unfold c39
  have hw : IntKind.i64.wrap ((j : Int) + 1 - 1) = (j : Int) := by rw [Int.add_sub_cancel]; exact IntWalk.i64_in _ (by omega)
  have i1 : (0 : Int) ≤ (j : Int) := Int.natCast_nonneg _
  have i2 : (j : Int) < ((8 : Nat) : Int) := by omega
  have hT := upd_at none' T (some (Av.Obj.cells (.bool true :: o)))
  have hle : 1 + j * 1 ≤ o.length := by omega
  have hset := set_at (x := .sc (.pointer none)) (hl ▸ hj : j < o.length)
  repeat (first
    | refine WpItemsF.nil ?_
    | ((first | apply Wp.seqItemsF | apply Wp.itemsF | ((first
        | (refine WpItemsF.acall ?_ ?_ ⟨Nat.le_refl _, Nat.le_refl _⟩ (find_ptr T o j id hj hx n m) ?_; (· simp only [go_sem, reduceIte, Nat.reduceEqDiff, Nat.reduceAdd, bx]); (· simp only [go_sem, reduceIte, Nat.reduceEqDiff, Nat.reduceAdd, bx, List.map, ax, if_true, if_false, Nat.reduceMul, Nat.reduceLeDiff, hw, i1, i2, Int.toNat_natCast, and_self, tabO, hT, hle, List.length_cons, List.length_nil, List.all_cons, List.all_nil, hset, upd2]; first | exact VSubs.refl _ | (repeat (first | exact VSubs.nil | refine VSubs.cons (by first | exact VSub.refl _ | assumption | exact VSub.cap | exact VSub.any _) ?_))))); apply WpItemsF.evF)); (· simp only [go_sem, reduceIte, Nat.reduceEqDiff, Nat.reduceAdd, bx, ax, if_true, if_false, Nat.reduceMul, Nat.reduceLeDiff, hw, i1, i2, Int.toNat_natCast, and_self, tabO, hT, hle, List.length_cons, List.length_nil, List.all_cons, List.all_nil, hset, upd2]; exact rfl))
    | (apply Wp.cond_lit; (· simp only [go_sem, reduceIte, Nat.reduceEqDiff, Nat.reduceAdd, bx, ax, if_true, if_false, Nat.reduceMul, Nat.reduceLeDiff, hw, i1, i2, Int.toNat_natCast, and_self, tabO, hT, hle, List.length_cons, List.length_nil, List.all_cons, List.all_nil, hset, upd2]; exact rfl); (· rfl))
    | refine Wp.skip ?_
    | refine Wp.label ?_
    | refine Wp.block ?_
    | refine Wp.exit ?_
    | refine Wp.seq ?_)
  refine Wp.ret ⟨trivial, _, rfl, ?_⟩
  simp only [go_sem, reduceIte, Nat.reduceEqDiff, Nat.reduceAdd, bx]
  exact ⟨VSub.refl _, rfl⟩
theorem open_none (T : Nat) (o : List AV) (n m : Nat) : ACalls Tryz.prog 41 [.ptr T 0, .sc (.pointer none)] (tabO T o n m) (.tup [.int .i64 0, .int .i64 2]) (tabO T o n m) := by
  refine FnIs.acallsR f41 (by simp) ?_
  unfold c41 tabO
  have hT := upd_at none' T (some (Av.Obj.cells (.bool true :: o)))
  repeat (first
    | refine WpItemsF.nil ?_
    | ((first | apply Wp.seqItemsF | apply Wp.itemsF); (· simp only [go_sem, reduceIte, Nat.reduceEqDiff, Nat.reduceAdd, bx, ax, if_true, if_false, Nat.reduceMul, Nat.reduceLeDiff, hT, List.getElem?_cons_zero]; exact rfl))
    | (apply Wp.cond_lit; (· simp only [go_sem, reduceIte, Nat.reduceEqDiff, Nat.reduceAdd, bx, ax, if_true, if_false, Nat.reduceMul, Nat.reduceLeDiff, hT, List.getElem?_cons_zero]; exact rfl); (· rfl))
    | refine Wp.skip ?_
    | refine Wp.label ?_
    | refine Wp.block ?_
    | refine Wp.exit ?_
    | refine Wp.seq ?_)
  refine Wp.ret ⟨trivial, _, rfl, ?_⟩
  simp only [go_sem, reduceIte, Nat.reduceEqDiff, Nat.reduceAdd, bx]
  exact ⟨VSub.refl _, trivial⟩
theorem cell_part {o : List AV} (hl : o.length = 8) : List.take 8 o = o := List.take_of_length_le (by omega)
theorem open_full (T : Nat) (o : List AV) (i : Nat) (hl : o.length = 8) (hb : ∀ k, k < 8 → ∃ id, o[k]? = some (.ptr id 0)) (n m : Nat) : ACalls Tryz.prog 41 [.ptr T 0, .ptr i 0] (tabO T o n m) (.tup [.int .i64 0, .int .i64 9]) (tabO T o n m) := by
  refine FnIs.acallsR f41 (by simp) ?_
  unfold c41 tabO
  have hT := upd_at none' T (some (Av.Obj.cells (.bool true :: o)))
  have h9 : 1 + 8 ≤ (AV.bool true :: o).length := by simp [hl]
  repeat (first
    | refine WpItemsF.nil ?_
    | ((first | apply Wp.seqItemsF | apply Wp.itemsF); (· simp only [go_sem, reduceIte, Nat.reduceEqDiff, Nat.reduceAdd, bx, ax, if_true, if_false, Nat.reduceMul, Nat.reduceLeDiff, hT, h9, List.getElem?_cons_zero, List.drop_succ_cons, List.drop_zero, cell_part hl, List.length_cons, hl]; exact rfl))
    | (apply Wp.cond_lit; (· simp only [go_sem, reduceIte, Nat.reduceEqDiff, Nat.reduceAdd, bx, ax, if_true, if_false, Nat.reduceMul, Nat.reduceLeDiff, hT, h9, List.getElem?_cons_zero, List.drop_succ_cons, List.drop_zero, cell_part hl, List.length_cons, hl]; exact rfl); (· rfl))
    | refine Wp.skip ?_
    | refine Wp.label ?_
    | refine Wp.block ?_
    | refine Wp.exit ?_
    | refine Wp.seq ?_)
  refine Wp.loopK [0, 1, 4, 5, 24] (by simp only [go_sem, reduceIte, Nat.reduceEqDiff, Nat.reduceAdd, bx, List.map]; exact rfl) (fun j : Nat => [(25, .int .i64 j)]) (fun j => j ≤ 8) (fun j => 8 - j) 0 (Nat.zero_le _) ?_ ?_
  · simp only [AllSub, go_sem, reduceIte, Nat.reduceEqDiff, Nat.reduceAdd, bx]; and_intros <;> first | exact trivial | exact VSub.refl _ | exact VSub.any _ | (refine VSub.int ?_; omega)
  intro j hj
  by_cases h : j < 8
  · obtain ⟨id, hx⟩ := hb j h
    have hx1 : o[j * 1]? = some (.ptr id 0) := by rw [Nat.mul_one]; exact hx
    have d1 : decide ((j : Int) < 8) = true := decide_eq_true (by omega)
    have i1 : (0 : Int) ≤ (j : Int) := Int.natCast_nonneg _
    have i2 : (j : Int) < ((8 : Nat) : Int) := by omega
    have hw : IntKind.i64.wrap ((j : Int) + 1) = ((j + 1 : Nat) : Int) := IntWalk.i64_in _ (by omega)
    repeat (first
      | refine WpItemsF.nil ?_
      | ((first | apply Wp.seqItemsF | apply Wp.itemsF); (· simp only [go_sem, reduceIte, Nat.reduceEqDiff, Nat.reduceAdd, bx, ax, if_true, if_false, Nat.reduceMul, Nat.reduceLeDiff, d1, i1, i2, Int.toNat_natCast, and_self, hx1, hw]; exact rfl))
      | (apply Wp.cond_lit; (· simp only [go_sem, reduceIte, Nat.reduceEqDiff, Nat.reduceAdd, bx, ax, if_true, if_false, Nat.reduceMul, Nat.reduceLeDiff, d1, i1, i2, Int.toNat_natCast, and_self, hx1, hw]; exact rfl); (· rfl))
      | refine Wp.skip ?_
      | refine Wp.label ?_
      | refine Wp.block ?_
      | refine Wp.exit ?_
      | refine Wp.seq ?_)
    refine ⟨j + 1, by omega, by omega, ?_⟩
    refine StLe.tm (by simp only [AllSub, go_sem, reduceIte, Nat.reduceEqDiff, Nat.reduceAdd, bx]; and_intros <;> first | exact trivial | exact VSub.refl _ | exact VSub.any _ | (refine VSub.int ?_; omega))
  · have ej : j = 8 := by omega
    subst ej
    repeat (first
      | refine WpItemsF.nil ?_
      | ((first | apply Wp.seqItemsF | apply Wp.itemsF); (· simp only [go_sem, reduceIte, Nat.reduceEqDiff, Nat.reduceAdd, bx, ax, if_true, if_false, Nat.reduceMul, Nat.reduceLeDiff]; exact rfl))
      | (apply Wp.cond_lit; (· simp only [go_sem, reduceIte, Nat.reduceEqDiff, Nat.reduceAdd, bx, ax, if_true, if_false, Nat.reduceMul, Nat.reduceLeDiff]; exact rfl); (· rfl))
      | refine Wp.skip ?_
      | refine Wp.label ?_
      | refine Wp.block ?_
      | refine Wp.exit ?_
      | refine Wp.seq ?_)
    refine Wp.ret ⟨trivial, _, rfl, ?_⟩
    simp only [go_sem, reduceIte, Nat.reduceEqDiff, Nat.reduceAdd, bx]
    exact ⟨VSub.refl _, trivial⟩
theorem open_at (T : Nat) (o : List AV) (i j0 : Nat) (hl : o.length = 8) (h0 : j0 < 8) (hx0 : o[j0]? = some nilV) (hb : ∀ k, k < j0 → ∃ id, o[k]? = some (.ptr id 0)) (n m : Nat) : ACalls Tryz.prog 41 [.ptr T 0, .ptr i 0] (tabO T o n m) (.tup [.int .i64 ((j0 : Int) + 1), .int .i64 0]) (tabO T (o.set j0 (.ptr i 0)) n m) := by
  refine FnIs.acallsR f41 (by simp) ?_
  unfold c41 tabO
  have hT := upd_at none' T (some (Av.Obj.cells (.bool true :: o)))
  have h9 : 1 + 8 ≤ (AV.bool true :: o).length := by simp [hl]
  repeat (first
    | refine WpItemsF.nil ?_
    | ((first | apply Wp.seqItemsF | apply Wp.itemsF); (· simp only [go_sem, reduceIte, Nat.reduceEqDiff, Nat.reduceAdd, bx, ax, if_true, if_false, Nat.reduceMul, Nat.reduceLeDiff, hT, h9, List.getElem?_cons_zero, List.drop_succ_cons, List.drop_zero, cell_part hl, List.length_cons, hl]; exact rfl))
    | (apply Wp.cond_lit; (· simp only [go_sem, reduceIte, Nat.reduceEqDiff, Nat.reduceAdd, bx, ax, if_true, if_false, Nat.reduceMul, Nat.reduceLeDiff, hT, h9, List.getElem?_cons_zero, List.drop_succ_cons, List.drop_zero, cell_part hl, List.length_cons, hl]; exact rfl); (· rfl))
    | refine Wp.skip ?_
    | refine Wp.label ?_
    | refine Wp.block ?_
    | refine Wp.exit ?_
    | refine Wp.seq ?_)
  refine Wp.loopK [0, 1, 4, 5, 24] (by simp only [go_sem, reduceIte, Nat.reduceEqDiff, Nat.reduceAdd, bx, List.map]; exact rfl) (fun j : Nat => [(25, .int .i64 j)]) (fun j => j ≤ j0) (fun j => 8 - j) 0 (Nat.zero_le _) ?_ ?_
  · simp only [AllSub, go_sem, reduceIte, Nat.reduceEqDiff, Nat.reduceAdd, bx]; and_intros <;> first | exact trivial | exact VSub.refl _ | exact VSub.any _ | (refine VSub.int ?_; omega)
  intro j hj
  have d1 : decide ((j : Int) < 8) = true := decide_eq_true (by omega)
  have i1 : (0 : Int) ≤ (j : Int) := Int.natCast_nonneg _
  have i2 : (j : Int) < ((8 : Nat) : Int) := by omega
  have hw : IntKind.i64.wrap ((j : Int) + 1) = (j : Int) + 1 := IntWalk.i64_in _ (by omega)
  by_cases h : j < j0
  · obtain ⟨id, hx⟩ := hb j h
    have hx1 : o[j * 1]? = some (.ptr id 0) := by rw [Nat.mul_one]; exact hx
    repeat (first
      | refine WpItemsF.nil ?_
      | ((first | apply Wp.seqItemsF | apply Wp.itemsF); (· simp only [go_sem, reduceIte, Nat.reduceEqDiff, Nat.reduceAdd, bx, ax, if_true, if_false, Nat.reduceMul, Nat.reduceLeDiff, d1, i1, i2, Int.toNat_natCast, and_self, hx1, hw]; exact rfl))
      | (apply Wp.cond_lit; (· simp only [go_sem, reduceIte, Nat.reduceEqDiff, Nat.reduceAdd, bx, ax, if_true, if_false, Nat.reduceMul, Nat.reduceLeDiff, d1, i1, i2, Int.toNat_natCast, and_self, hx1, hw]; exact rfl); (· rfl))
      | refine Wp.skip ?_
      | refine Wp.label ?_
      | refine Wp.block ?_
      | refine Wp.exit ?_
      | refine Wp.seq ?_)
    refine ⟨j + 1, by omega, by omega, ?_⟩
    refine StLe.tm (by simp only [AllSub, go_sem, reduceIte, Nat.reduceEqDiff, Nat.reduceAdd, bx]; and_intros <;> first | exact trivial | exact VSub.refl _ | exact VSub.any _ | (refine VSub.int ?_; omega))
  · obtain rfl : j = j0 := by omega
    have hx1 : o[j * 1]? = some (.sc (.pointer none)) := by rw [Nat.mul_one]; exact hx0
    have hle : 1 + j * 1 ≤ o.length := by omega
    have hset := set_at (x := .ptr i 0) (show j < o.length by omega)
    repeat (first
      | refine WpItemsF.nil ?_
      | ((first | apply Wp.seqItemsF | apply Wp.itemsF); (· simp only [go_sem, reduceIte, Nat.reduceEqDiff, Nat.reduceAdd, bx, ax, if_true, if_false, Nat.reduceMul, Nat.reduceLeDiff, d1, i1, i2, Int.toNat_natCast, and_self, hx1, hw, hT, hle, List.length_cons, List.length_nil, List.all_cons, List.all_nil, hset, upd2]; exact rfl))
      | (apply Wp.cond_lit; (· simp only [go_sem, reduceIte, Nat.reduceEqDiff, Nat.reduceAdd, bx, ax, if_true, if_false, Nat.reduceMul, Nat.reduceLeDiff, d1, i1, i2, Int.toNat_natCast, and_self, hx1, hw, hT, hle, List.length_cons, List.length_nil, List.all_cons, List.all_nil, hset, upd2]; exact rfl); (· rfl))
      | refine Wp.skip ?_
      | refine Wp.label ?_
      | refine Wp.block ?_
      | refine Wp.exit ?_
      | refine Wp.seq ?_)
    refine Wp.ret ⟨trivial, _, rfl, ?_⟩
    simp only [go_sem, reduceIte, Nat.reduceEqDiff, Nat.reduceAdd, bx]
    exact ⟨VSub.refl _, trivial⟩
def idsTo (o : List AV) : Nat → List Int
  | 0 => []
  | j + 1 => idsTo o j ++ (if isNilB (o.getD j nilV) = true then [] else [(j : Int) + 1])
theorem idsTo_len (o : List AV) : ∀ j, (idsTo o j).length ≤ j
  | 0 => Nat.le_refl _
  | j + 1 => by
    have := idsTo_len o j
    simp only [idsTo, List.length_append]
    split <;> simp <;> omega
theorem idsTo_nil {o : List AV} {j : Nat} (h : o.getD j nilV = nilV) : idsTo o (j + 1) = idsTo o j := by
  rw [idsTo, h, if_pos (show isNilB nilV = true from rfl), List.append_nil]
theorem idsTo_ptr {o : List AV} {j id : Nat} (h : o.getD j nilV = .ptr id 0) : idsTo o (j + 1) = idsTo o j ++ [(j : Int) + 1] := by
  rw [idsTo, h, if_neg (by simp [isNilB])]
theorem ints_snoc (l : List Int) (n : Int) : ints' (l ++ [n]) = ints' l ++ [.int .i64 n] := by simp [ints']
theorem ints_len (l : List Int) : (ints' l).length = l.length := by simp [ints']
theorem FnIs.acallsM {P : Program} {N : Nat} {f : FuncId} {ac : AC} {args : List AV} {h : H} {ds : List RV} {r : AV} {objs : Nat → Option Av.Obj} (hF : FnIs P f N ac ds) (hl : args.length ≤ N) (hw : Wp P N ac ⟨initT args, h⟩ fun e s' => isEnd e ∧ ∃ q, resOf ds s'.t s'.h = some q ∧ VSub q r ∧ s'.h.objs = objs ∧ s'.h.n = h.n) : ∃ m', h.m ≤ m' ∧ ACalls P f args h r ⟨objs, h.n, [], m'⟩ := by
  obtain ⟨q, h2, hc, hs, rfl, hn, hm⟩ := hF.acalls (Q := fun q h2 => VSub q r ∧ h2.objs = objs ∧ h2.n = h.n ∧ h.m ≤ h2.m) hl (hw.nm.mono fun e s' ⟨⟨h1, q, h2, h3, h4, h5⟩, h6, h7⟩ => ⟨h1, q, h2, h3, h4, h5, h7⟩)
  exact ⟨h2.m, hm, hc.le hs ⟨fun j o ho => ⟨o, ho, OSub.refl _⟩, fun t ht => by cases ht⟩ hn rfl⟩
theorem ids_a (T : Nat) (o : List AV) (hl : o.length = 8) (hc : ∀ x ∈ o, IsP x) (n m : Nat) : ∃ m', m ≤ m' ∧ ACalls Tryz.prog 44 [.ptr T 0] (tabO T o n m) (.sl 1 (ints' (idsTo o 8)) .any) (tabO T o n m') := by
  refine FnIs.acallsM (h := tabO T o n m) (objs := (tabO T o n m).objs) (args := [.ptr T 0]) f44 (by simp) ?_
  unfold c44 tabO
  have hT := upd_at none' T (some (Av.Obj.cells (.bool true :: o)))
  have h9 : 1 + 8 ≤ (AV.bool true :: o).length := by simp [hl]
  repeat (first
    | refine WpItemsF.nil ?_
    | ((first | apply Wp.seqItemsF | apply Wp.itemsF); (· simp only [go_sem, reduceIte, Nat.reduceEqDiff, Nat.reduceAdd, bx, ax, if_true, if_false, Nat.reduceMul, Nat.reduceLeDiff, hT, h9, List.getElem?_cons_zero, List.drop_succ_cons, List.drop_zero, cell_part hl, List.length_cons, hl]; exact rfl))
    | (apply Wp.cond_lit; (· simp only [go_sem, reduceIte, Nat.reduceEqDiff, Nat.reduceAdd, bx, ax, if_true, if_false, Nat.reduceMul, Nat.reduceLeDiff, hT, h9, List.getElem?_cons_zero, List.drop_succ_cons, List.drop_zero, cell_part hl, List.length_cons, hl]; exact rfl); (· rfl))
    | refine Wp.skip ?_
    | refine Wp.label ?_
    | refine Wp.block ?_
    | refine Wp.exit ?_
    | refine Wp.seq ?_)
  refine Wp.le (StLe.tok _ _) ?_
  refine Wp.loopTok [0, 11] (by simp only [go_sem, reduceIte, Nat.reduceEqDiff, List.map]; exact rfl) (fun (j : Nat) tk => [(3, .sl 1 (ints' (idsTo o j)) (.own tk)), (12, .int .i64 j)]) (fun j => j ≤ 8) (fun j => 8 - j) 0 _ (Nat.zero_le _) rfl ?_ ?_
  · simp only [AllSub, go_sem, reduceIte, Nat.reduceEqDiff, Nat.reduceAdd, bx]; and_intros <;> first | exact trivial | exact VSub.refl _ | exact VSub.any _ | exact VSub.own_of rfl | (refine VSub.int ?_; omega)
  intro j tk m1 hj
  by_cases h : j < 8
  · have d1 : decide ((j : Int) < 8) = true := decide_eq_true (by omega)
    have i1 : (0 : Int) ≤ (j : Int) := Int.natCast_nonneg _
    have i2 : (j : Int) < ((8 : Nat) : Int) := by omega
    have hw : IntKind.i64.wrap ((j : Int) + 1) = (j : Int) + 1 := IntWalk.i64_in _ (by omega)
    have hlen := idsTo_len o j
    have hj8 : j < o.length := by omega
    have hxj : o[j]? = some o[j] := List.getElem?_eq_getElem hj8
    have hgd : o.getD j nilV = o[j] := by simp [List.getD, hxj]
    rcases hc o[j] (List.getElem_mem hj8) with hx | ⟨id, hx⟩
    · have hx1 : o[j * 1]? = some (.sc (.pointer none)) := by rw [Nat.mul_one, hxj, hx]; rfl
      repeat (first
        | refine WpItemsF.nil ?_
        | ((first | apply Wp.seqItemsF | apply Wp.itemsF); (· simp only [go_sem, reduceIte, Nat.reduceEqDiff, Nat.reduceAdd, bx, ax, if_true, if_false, Nat.reduceMul, Nat.reduceLeDiff, d1, i1, i2, Int.toNat_natCast, and_self, hx1, hw]; exact rfl))
        | (apply Wp.cond_lit; (· simp only [go_sem, reduceIte, Nat.reduceEqDiff, Nat.reduceAdd, bx, ax, if_true, if_false, Nat.reduceMul, Nat.reduceLeDiff, d1, i1, i2, Int.toNat_natCast, and_self, hx1, hw]; exact rfl); (· rfl))
        | refine Wp.skip ?_
        | refine Wp.label ?_
        | refine Wp.block ?_
        | refine Wp.exit ?_
        | refine Wp.seq ?_)
      refine ⟨j + 1, tk, m1, by omega, by omega, ?_⟩
      refine StLe.tm (by simp only [AllSub, go_sem, reduceIte, Nat.reduceEqDiff, Nat.reduceAdd, bx]; and_intros <;> first | exact trivial | exact VSub.refl _ | exact VSub.any _ | exact VSub.of_eq (by rw [idsTo_nil (hgd.trans hx)]) | (refine VSub.int ?_; omega))
    · have hx1 : o[j * 1]? = some (.ptr id 0) := by rw [Nat.mul_one, hxj, hx]
      have g0 : ((idsTo o j).length + 1) * 8 ≤ 140737488355328 := by omega
      have g0' : (idsTo o j).length + 1 < 4611686018427387904 := by omega
      repeat (first
        | refine WpItemsF.nil ?_
        | ((first | apply Wp.seqItemsF | apply Wp.itemsF); (· simp only [go_sem, reduceIte, Nat.reduceEqDiff, Nat.reduceAdd, bx, ax, if_true, if_false, Nat.reduceMul, Nat.reduceLeDiff, d1, i1, i2, Int.toNat_natCast, and_self, hx1, hw, ints_len, g0, g0', List.length_cons, List.length_nil, Nat.zero_add, or_true, true_or]; exact rfl))
        | (apply Wp.cond_lit; (· simp only [go_sem, reduceIte, Nat.reduceEqDiff, Nat.reduceAdd, bx, ax, if_true, if_false, Nat.reduceMul, Nat.reduceLeDiff, d1, i1, i2, Int.toNat_natCast, and_self, hx1, hw, ints_len, g0, g0', List.length_cons, List.length_nil, Nat.zero_add, or_true, true_or]; exact rfl); (· rfl))
        | refine Wp.skip ?_
        | refine Wp.label ?_
        | refine Wp.block ?_
        | refine Wp.exit ?_
        | refine Wp.seq ?_)
      refine ⟨j + 1, m1, m1 + 1, by omega, by omega, ?_⟩
      refine StLe.tm (by simp only [AllSub, go_sem, reduceIte, Nat.reduceEqDiff, Nat.reduceAdd, bx]; and_intros <;> first | exact trivial | exact VSub.refl _ | exact VSub.any _ | exact VSub.of_eq (by rw [idsTo_ptr (hgd.trans hx), ints_snoc]) | (refine VSub.int ?_; omega))
  · have ej : j = 8 := by omega
    subst ej
    repeat (first
      | refine WpItemsF.nil ?_
      | ((first | apply Wp.seqItemsF | apply Wp.itemsF); (· simp only [go_sem, reduceIte, Nat.reduceEqDiff, Nat.reduceAdd, bx, ax, if_true, if_false, Nat.reduceMul, Nat.reduceLeDiff]; exact rfl))
      | (apply Wp.cond_lit; (· simp only [go_sem, reduceIte, Nat.reduceEqDiff, Nat.reduceAdd, bx, ax, if_true, if_false, Nat.reduceMul, Nat.reduceLeDiff]; exact rfl); (· rfl))
      | refine Wp.skip ?_
      | refine Wp.label ?_
      | refine Wp.block ?_
      | refine Wp.exit ?_
      | refine Wp.seq ?_)
    refine Wp.ret ⟨trivial, _, rfl, ?_⟩
    simp only [go_sem, reduceIte, Nat.reduceEqDiff, Nat.reduceAdd, bx]
    exact ⟨VSub.cap, trivial, trivial⟩
end Go.Proofs.YtkcgpcbpieofnaaGreatDoor.Desk
end
