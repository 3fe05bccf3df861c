/- Parts of a proof: a layer of abstract values over the model, the functions' walks, plain laws. -/
import Derived.Deep.CondSized
import Derived.IntWalk
import Derived.KernelRfl
import Derived.Laws.Append
import Derived.Laws.AppendOwn
import Derived.Laws.BytesArg
import Derived.Laws.Cover3
import Derived.Laws.Entries
import Derived.Laws.IdiomCopy
import Derived.Laws.IdiomStrings
import Derived.Laws.Pointers
import Derived.Laws.Small
import Derived.Laws.Strings
import Derived.Laws.StructEq
import Derived.Lib.Small
import Derived.Lib.Walk
import Derived.MapKept
import Derived.OpenShut
import Derived.Orders
import Derived.OrdersIn
import Derived.ProofKit
import Derived.RangeFuncRecord
import Derived.RangeFuncSeq
import Derived.ReadAgain
import Derived.Scope
import Derived.Shelf.Lay
import Derived.Shelf.SlSortCmp.InsertionK
import Derived.Shelf.SlSortCmp.WholeK
import Derived.Shelf.Slices.Cells
import Derived.Shelf.Slices.Delete
import Derived.Shelf.Sort.Plain
import Derived.Shelf.Spec.SlicesInsertGrow
import Derived.SizedLaws
import Derived.Sort.Walk0
import Derived.Test.YtobokfclaooloaaRows
import Derived.WalkKit
import Derived.Test.YtobokfclaooloaaTbPD
section
set_option linter.unusedSimpArgs false
set_option linter.unusedVariables false
set_option maxRecDepth 10000
namespace Go.Proofs.Ytobokfclaooloaa.Space
open Go Go.Av Go.Proofs Go.Proofs.Ytobokfclaooloaa.C Go.Proofs.Ytobokfclaooloaa.Batch
def itOk (l : List It) (i : Nat) : Bool := mayI (l.getD i default) && (decide (i = 0) || Op.bytesLess (l.getD (i - 1) default).1 (l.getD i default).1)
def okL (l : List It) : Bool := (List.range l.length).all (itOk l)
theorem itOk_zero {l : List It} {j : Nat} (h : j = 0) : itOk l j = mayI (l.getD j default) := by simp [itOk, h]
theorem itOk_pos {l : List It} {j : Nat} (h : j ≠ 0) : itOk l j = (mayI (l.getD j default) && Op.bytesLess (l.getD (j - 1) default).1 (l.getD j default).1) := by simp [itOk, h]
theorem itOk_may {l : List It} {j : Nat} (h : mayI (l.getD j default) = false) : itOk l j = false := by rw [itOk, h]; rfl
theorem mayI_key {x : It} (h : (120 : Int) < (x.1.length : Int)) : mayI x = false := by
  have : decide ((x.1.length : Int) ≤ 120) = false := decide_eq_false (by omega)
  rw [mayI, this]; rfl
theorem mayI_of {x : It} (h : ¬ (120 : Int) < (x.1.length : Int)) : mayI x = (decide (0 < x.2.length) && chB x.2 && !x.2.any longV) := by
  have : decide ((x.1.length : Int) ≤ 120) = true := decide_eq_true (by omega)
  rw [mayI, this, Bool.true_and]
structure SmI (l : List It) : Prop where
  n : l.length ≤ 1000000
  k : ∀ p ∈ l, Ls p.1
  v : ∀ p ∈ l, p.2.length ≤ 1000000
theorem SmI.at {l : List It} (h : SmI l) {j : Nat} (hj : j < l.length) : Ls (l.getD j default).1 ∧ (l.getD j default).2.length ≤ 1000000 := by
  rw [Av.getD_el hj]; exact ⟨h.k _ (List.getElem_mem hj), h.v _ (List.getElem_mem hj)⟩
theorem any_iff {v : List Ver} : v.any longV = false ↔ ∀ i, i < v.length → longV (v.getD i default) = false := by
  constructor
  · intro h i hi
    rw [Av.getD_el hi]
    have := List.any_eq_false.1 h _ (List.getElem_mem hi)
    simpa using this
  · intro h
    refine List.any_eq_false.2 fun x hx => ?_
    obtain ⟨i, hi, rfl⟩ := List.mem_iff_getElem.1 hx
    have := h i hi
    rw [Av.getD_el hi] at this
    simp [this]
theorem any_at {v : List Ver} {i : Nat} (hi : i < v.length) (h : longV (v.getD i default) = true) : v.any longV = true :=
  List.any_eq_true.2 ⟨_, by rw [Av.getD_el hi]; exact List.getElem_mem hi, h⟩
theorem all_stepF {p : Nat → Bool} {j : Nat} (h : ∀ i, i < j → p i = false) (hj : p j = false) : ∀ i, i < j + 1 → p i = false := by
  intro i hi
  by_cases e : i = j
  · subst e; exact hj
  · exact h i (by omega)
set_option maxHeartbeats 4000000 in
theorem bmayR_p (l : List It) (sl : SmI l) : PCalls Try.prog 20 [.sl 2 (l.map encI) .any] (.bool (okL l)) := by
  refine f20.pcalls0 (by simp) (by simp [allPure, isPure, capPure, its_pure]) rfl ?_
  unfold c20
  have hil : (l.map encI).length = l.length := by simp
  have hn := sl.n
  repeat (first
    | ((first | apply Wp.seqItemsR | apply Wp.itemsR); (· simp only [go_sem, reduceIte, Nat.reduceEqDiff, Nat.reduceAdd, bx, ax, if_true, if_false, Nat.reduceMul, Nat.reduceLeDiff, hil]; exact rfl))
    | (refine WpItems.nil ⟨?_, ?_⟩; (· first | trivial | simp [pairsQ, pairsOk, apart, ent0]))
    | (apply Wp.cond_lit; (· simp only [go_sem, reduceIte, Nat.reduceEqDiff, Nat.reduceAdd, bx, ax, if_true, if_false, Nat.reduceMul, Nat.reduceLeDiff, hil]; exact rfl); (· rfl))
    | refine Wp.skip ?_
    | refine Wp.label ?_
    | refine Wp.block ?_
    | refine Wp.exit ?_
    | refine Wp.seq ?_)
  refine Wp.loopK [0] (by simp only [go_sem, reduceIte, Nat.reduceEqDiff, Nat.reduceAdd, bx, List.map]; exact rfl) (fun j : Nat => [(3, .int .i64 (j : Nat))]) (fun j => j ≤ l.length ∧ ∀ i, i < j → itOk l i = true) (fun j => l.length - j) 0 ⟨Nat.zero_le _, fun i h => absurd h (by omega)⟩ ?_ ?_
  · simp only [AllSub, go_sem, reduceIte, Nat.reduceEqDiff, Nat.reduceAdd, bx]; and_intros <;> first | exact trivial | exact VSub.refl _ | exact VSub.any _ | (refine VSub.int ?_; omega)
  rintro j ⟨hj, hs⟩
  by_cases hc : j < l.length
  · have g1 : decide (((j : Nat) : Int) < ((l.length : Nat) : Int)) = true := decide_eq_true (by omega)
    have h2 : (0 : Int) ≤ ((j : Nat) : Int) := by omega
    have h3 : ((j : Nat) : Int) < ((l.length : Nat) : Int) := by omega
    have e1 : IntKind.i64.wrap (((j : Nat) : Int) + 1) = ((j + 1 : Nat) : Int) := by rw [IntWalk.i64_in _ (by omega)]; omega
    have hat := enc_at encI l j .any hc
    obtain ⟨lk, lv⟩ := sl.at hc
    have no : itOk l j = false → okL l = false := fun h => all_no hc h
    have ins : mayI (l.getD j default) = false → okL l = false := fun h => no (itOk_may h)
    by_cases a1 : (120 : Int) < ((l.getD j default).1.length : Int)
    · have d1 := decide_eq_true a1
      have hm := mayI_key a1
      generalize l.getD j default = x at *
      repeat (first
        | ((first | apply Wp.seqItemsR | apply Wp.itemsR); (· simp only [go_sem, reduceIte, Nat.reduceEqDiff, Nat.reduceAdd, bx, ax, if_true, if_false, Nat.reduceMul, Nat.reduceLeDiff, hil, g1, h2, h3, hat, encI, vAV, d1]; exact rfl))
        | (refine WpItems.nil ⟨?_, ?_⟩; (· first | trivial | simp [pairsQ, pairsOk, apart, ent0]))
        | (apply Wp.cond_lit; (· simp only [go_sem, reduceIte, Nat.reduceEqDiff, Nat.reduceAdd, bx, ax, if_true, if_false, Nat.reduceMul, Nat.reduceLeDiff, hil, g1, h2, h3, hat, encI, vAV, d1]; exact rfl); (· rfl))
        | refine Wp.skip ?_
        | refine Wp.label ?_
        | refine Wp.block ?_
        | refine Wp.exit ?_
        | refine Wp.seq ?_)
      refine Wp.ret ⟨trivial, _, rfl, ?_⟩
      simp only [go_sem, reduceIte, Nat.reduceEqDiff, Nat.reduceAdd, bx]
      rw [ins hm]; exact VSub.refl _
    have d1 := decide_eq_false a1
    have hck := rightsR_p (l.getD j default).2 (by omega)
    have hm0 := mayI_of a1
    by_cases hz : j = 0
    · have g2 : decide ((0 : Int) < (j : Int)) = false := decide_eq_false (by omega)
      have hit : itOk l j = mayI (l.getD j default) := itOk_zero hz
      generalize l.getD j default = x at *
      obtain ⟨q, vs⟩ := x
      simp only at *
      by_cases hv0 : vs.length = 0
      · have e0 : decide ((vs.length : Int) = 0) = true := decide_eq_true (by omega)
        repeat (first
          | ((first | apply Wp.seqItemsR | apply Wp.itemsR); (· simp only [go_sem, reduceIte, Nat.reduceEqDiff, Nat.reduceAdd, bx, ax, if_true, if_false, Nat.reduceMul, Nat.reduceLeDiff, hil, g1, g2, h2, h3, hat, encI, vAV, d1, List.length_map, e0]; exact rfl))
          | (refine WpItems.nil ⟨?_, ?_⟩; (· first | trivial | simp [pairsQ, pairsOk, apart, ent0]))
          | (apply Wp.cond_lit; (· simp only [go_sem, reduceIte, Nat.reduceEqDiff, Nat.reduceAdd, bx, ax, if_true, if_false, Nat.reduceMul, Nat.reduceLeDiff, hil, g1, g2, h2, h3, hat, encI, vAV, d1, List.length_map, e0]; exact rfl); (· rfl))
          | refine Wp.skip ?_
          | refine Wp.label ?_
          | refine Wp.block ?_
          | refine Wp.exit ?_
          | refine Wp.seq ?_)
        refine Wp.ret ⟨trivial, _, rfl, ?_⟩
        simp only [go_sem, reduceIte, Nat.reduceEqDiff, Nat.reduceAdd, bx]
        rw [ins (by rw [hm0, decide_eq_false (show ¬ 0 < vs.length by omega)]; rfl)]; exact VSub.refl _
      · have e0 : decide ((vs.length : Int) = 0) = false := decide_eq_false (by omega)
        cases hch : chB vs with
        | false =>
          rw [hch] at hck
          repeat (first
            | ((first | apply Wp.seqItemsR | apply Wp.itemsR | ((first
                | (refine WpItems.pcall ?_ ?_ (hck) ?_; (· simp only [go_sem, reduceIte, Nat.reduceEqDiff, Nat.reduceAdd, bx]); (· simp only [go_sem, reduceIte, Nat.reduceEqDiff, Nat.reduceAdd, bx, List.map]; first | exact VSubs.refl _ | (repeat (first | exact VSubs.nil | refine VSubs.cons (by first | exact VSub.refl _ | assumption | exact VSub.cap | exact VSub.any _) ?_))))); apply WpItems.evR)); (· simp only [go_sem, reduceIte, Nat.reduceEqDiff, Nat.reduceAdd, bx, ax, if_true, if_false, Nat.reduceMul, Nat.reduceLeDiff, hil, g1, g2, h2, h3, hat, encI, vAV, d1, List.length_map, e0]; exact rfl))
            | (refine WpItems.nil ⟨?_, ?_⟩; (· first | trivial | simp [pairsQ, pairsOk, apart, ent0]))
            | (apply Wp.cond_lit; (· simp only [go_sem, reduceIte, Nat.reduceEqDiff, Nat.reduceAdd, bx, ax, if_true, if_false, Nat.reduceMul, Nat.reduceLeDiff, hil, g1, g2, h2, h3, hat, encI, vAV, d1, List.length_map, e0]; exact rfl); (· rfl))
            | refine Wp.skip ?_
            | refine Wp.label ?_
            | refine Wp.block ?_
            | refine Wp.exit ?_
            | refine Wp.seq ?_)
          refine Wp.ret ⟨trivial, _, rfl, ?_⟩
          simp only [go_sem, reduceIte, Nat.reduceEqDiff, Nat.reduceAdd, bx]
          rw [ins (by rw [hm0, hch]; simp)]; exact VSub.refl _
        | true =>
          rw [hch] at hck hm0
          repeat (first
            | ((first | apply Wp.seqItemsR | apply Wp.itemsR | ((first
                | (refine WpItems.pcall ?_ ?_ (hck) ?_; (· simp only [go_sem, reduceIte, Nat.reduceEqDiff, Nat.reduceAdd, bx]); (· simp only [go_sem, reduceIte, Nat.reduceEqDiff, Nat.reduceAdd, bx, List.map]; first | exact VSubs.refl _ | (repeat (first | exact VSubs.nil | refine VSubs.cons (by first | exact VSub.refl _ | assumption | exact VSub.cap | exact VSub.any _) ?_))))); apply WpItems.evR)); (· simp only [go_sem, reduceIte, Nat.reduceEqDiff, Nat.reduceAdd, bx, ax, if_true, if_false, Nat.reduceMul, Nat.reduceLeDiff, hil, g1, g2, h2, h3, hat, encI, vAV, d1, List.length_map, e0]; exact rfl))
            | (refine WpItems.nil ⟨?_, ?_⟩; (· first | trivial | simp [pairsQ, pairsOk, apart, ent0]))
            | (apply Wp.cond_lit; (· simp only [go_sem, reduceIte, Nat.reduceEqDiff, Nat.reduceAdd, bx, ax, if_true, if_false, Nat.reduceMul, Nat.reduceLeDiff, hil, g1, g2, h2, h3, hat, encI, vAV, d1, List.length_map, e0]; exact rfl); (· rfl))
            | refine Wp.skip ?_
            | refine Wp.label ?_
            | refine Wp.block ?_
            | refine Wp.exit ?_
            | refine Wp.seq ?_)
          refine Wp.loopK [0, 3, 4] (by simp only [go_sem, reduceIte, Nat.reduceEqDiff, Nat.reduceAdd, bx, List.map]; exact rfl) (fun k : Nat => [(5, .int .i64 (k : Nat))]) (fun k => k ≤ vs.length ∧ ∀ i, i < k → longV (vs.getD i default) = false) (fun k => vs.length - k) 0 ⟨Nat.zero_le _, fun i h => absurd h (by omega)⟩ ?_ ?_
          · simp only [AllSub, go_sem, reduceIte, Nat.reduceEqDiff, Nat.reduceAdd, bx]; and_intros <;> first | exact trivial | exact VSub.refl _ | exact VSub.any _ | (refine VSub.int ?_; omega)
          rintro k ⟨hk, hl⟩
          have h00 : decide (0 < vs.length) = true := decide_eq_true (by omega)
          rw [h00] at hm0
          by_cases hkc : k < vs.length
          · have kg1 : decide (((k : Nat) : Int) < ((vs.length : Nat) : Int)) = true := decide_eq_true (by omega)
            have kh2 : (0 : Int) ≤ ((k : Nat) : Int) := by omega
            have kh3 : ((k : Nat) : Int) < ((vs.length : Nat) : Int) := by omega
            have ke1 : IntKind.i64.wrap (((k : Nat) : Int) + 1) = ((k + 1 : Nat) : Int) := by rw [IntWalk.i64_in _ (by omega)]; omega
            have kat := enc_at encV vs k .any hkc
            cases hd : longV (vs.getD k default) with
            | true =>
              have hd' := hd
              unfold longV at hd'
              repeat (first
                | ((first | apply Wp.seqItemsR | apply Wp.itemsR); (· simp only [go_sem, reduceIte, Nat.reduceEqDiff, Nat.reduceAdd, bx, ax, if_true, if_false, Nat.reduceMul, Nat.reduceLeDiff, List.length_map, kg1, kh2, kh3, kat, encV, hd']; exact rfl))
                | (refine WpItems.nil ⟨?_, ?_⟩; (· first | trivial | simp [pairsQ, pairsOk, apart, ent0]))
                | (apply Wp.cond_lit; (· simp only [go_sem, reduceIte, Nat.reduceEqDiff, Nat.reduceAdd, bx, ax, if_true, if_false, Nat.reduceMul, Nat.reduceLeDiff, List.length_map, kg1, kh2, kh3, kat, encV, hd']; exact rfl); (· rfl))
                | refine Wp.skip ?_
                | refine Wp.label ?_
                | refine Wp.block ?_
                | refine Wp.exit ?_
                | refine Wp.seq ?_)
              refine Wp.ret ⟨trivial, _, rfl, ?_⟩
              simp only [go_sem, reduceIte, Nat.reduceEqDiff, Nat.reduceAdd, bx]
              rw [ins (by rw [hm0, any_at hkc hd]; simp)]; exact VSub.refl _
            | false =>
              have hd' := hd
              unfold longV at hd'
              repeat (first
                | ((first | apply Wp.seqItemsR | apply Wp.itemsR); (· simp only [go_sem, reduceIte, Nat.reduceEqDiff, Nat.reduceAdd, bx, ax, if_true, if_false, Nat.reduceMul, Nat.reduceLeDiff, List.length_map, kg1, kh2, kh3, kat, encV, hd', ke1]; exact rfl))
                | (refine WpItems.nil ⟨?_, ?_⟩; (· first | trivial | simp [pairsQ, pairsOk, apart, ent0]))
                | (apply Wp.cond_lit; (· simp only [go_sem, reduceIte, Nat.reduceEqDiff, Nat.reduceAdd, bx, ax, if_true, if_false, Nat.reduceMul, Nat.reduceLeDiff, List.length_map, kg1, kh2, kh3, kat, encV, hd', ke1]; exact rfl); (· rfl))
                | refine Wp.skip ?_
                | refine Wp.label ?_
                | refine Wp.block ?_
                | refine Wp.exit ?_
                | refine Wp.seq ?_)
              refine ⟨k + 1, ⟨by omega, all_stepF hl hd⟩, by omega, ?_⟩
              refine StLe.tm (by simp only [AllSub, go_sem, reduceIte, Nat.reduceEqDiff, Nat.reduceAdd, bx]; and_intros <;> first | exact trivial | exact VSub.refl _ | exact VSub.any _ | (refine VSub.int ?_; omega))
          · obtain rfl : k = vs.length := by omega
            have kg1 : decide ((vs.length : Int) < (vs.length : Int)) = false := decide_eq_false (by omega)
            repeat (first
              | ((first | apply Wp.seqItemsR | apply Wp.itemsR); (· simp only [go_sem, reduceIte, Nat.reduceEqDiff, Nat.reduceAdd, bx, ax, if_true, if_false, Nat.reduceMul, Nat.reduceLeDiff, List.length_map, kg1, e1]; exact rfl))
              | (refine WpItems.nil ⟨?_, ?_⟩; (· first | trivial | simp [pairsQ, pairsOk, apart, ent0]))
              | (apply Wp.cond_lit; (· simp only [go_sem, reduceIte, Nat.reduceEqDiff, Nat.reduceAdd, bx, ax, if_true, if_false, Nat.reduceMul, Nat.reduceLeDiff, List.length_map, kg1, e1]; exact rfl); (· rfl))
              | refine Wp.skip ?_
              | refine Wp.label ?_
              | refine Wp.block ?_
              | refine Wp.exit ?_
              | refine Wp.seq ?_)
            refine ⟨j + 1, ⟨by omega, all_step hs (by rw [hit, hm0, any_iff.2 hl]; rfl)⟩, by omega, ?_⟩
            refine StLe.tm (by simp only [AllSub, go_sem, reduceIte, Nat.reduceEqDiff, Nat.reduceAdd, bx]; and_intros <;> first | exact trivial | exact VSub.refl _ | exact VSub.any _ | (refine VSub.int ?_; omega))
    · have g2 : decide ((0 : Int) < (j : Int)) = true := decide_eq_true (by omega)
      have e2 : IntKind.i64.wrap ((j : Int) - 1) = ((j - 1 : Nat) : Int) := by rw [IntWalk.i64_in _ (by omega)]; omega
      have h4 : (0 : Int) ≤ ((j - 1 : Nat) : Int) := by omega
      have h5 : ((j - 1 : Nat) : Int) < (l.length : Int) := by omega
      have hat2 := enc_at encI l (j - 1) .any (by omega)
      have hbl := below_p (l.getD (j - 1) default).1 (l.getD j default).1 (sl.at (show j - 1 < l.length by omega)).1 lk
      cases hb : Op.bytesLess (l.getD (j - 1) default).1 (l.getD j default).1 with
      | false =>
        have hit := no ((itOk_pos hz).trans (by rw [hb, Bool.and_false]))
        rw [hb] at hbl
        generalize l.getD j default = x at *
        generalize l.getD (j - 1) default = y at *
        repeat (first
          | ((first | apply Wp.seqItemsR | apply Wp.itemsR | ((first
              | (refine WpItems.pcall ?_ ?_ (hbl) ?_; (· simp only [go_sem, reduceIte, Nat.reduceEqDiff, Nat.reduceAdd, bx]); (· simp only [go_sem, reduceIte, Nat.reduceEqDiff, Nat.reduceAdd, bx, List.map]; first | exact VSubs.refl _ | (repeat (first | exact VSubs.nil | refine VSubs.cons (by first | exact VSub.refl _ | assumption | exact VSub.cap | exact VSub.any _) ?_))))); apply WpItems.evR)); (· simp only [go_sem, reduceIte, Nat.reduceEqDiff, Nat.reduceAdd, bx, ax, if_true, if_false, Nat.reduceMul, Nat.reduceLeDiff, hil, g1, g2, h2, h3, e2, h4, h5, hat, hat2, encI, vAV, d1]; exact rfl))
          | (refine WpItems.nil ⟨?_, ?_⟩; (· first | trivial | simp [pairsQ, pairsOk, apart, ent0]))
          | (apply Wp.cond_lit; (· simp only [go_sem, reduceIte, Nat.reduceEqDiff, Nat.reduceAdd, bx, ax, if_true, if_false, Nat.reduceMul, Nat.reduceLeDiff, hil, g1, g2, h2, h3, e2, h4, h5, hat, hat2, encI, vAV, d1]; exact rfl); (· rfl))
          | refine Wp.skip ?_
          | refine Wp.label ?_
          | refine Wp.block ?_
          | refine Wp.exit ?_
          | refine Wp.seq ?_)
        refine Wp.ret ⟨trivial, _, rfl, ?_⟩
        simp only [go_sem, reduceIte, Nat.reduceEqDiff, Nat.reduceAdd, bx]
        rw [hit]; exact VSub.refl _
      | true =>
        have hit : itOk l j = mayI (l.getD j default) := (itOk_pos hz).trans (by rw [hb, Bool.and_true])
        rw [hb] at hbl
        generalize l.getD j default = x at *
        generalize l.getD (j - 1) default = y at *
        obtain ⟨q, vs⟩ := x
        simp only at *
        by_cases hv0 : vs.length = 0
        · have e0 : decide ((vs.length : Int) = 0) = true := decide_eq_true (by omega)
          repeat (first
            | ((first | apply Wp.seqItemsR | apply Wp.itemsR | ((first
                | (refine WpItems.pcall ?_ ?_ (hbl) ?_; (· simp only [go_sem, reduceIte, Nat.reduceEqDiff, Nat.reduceAdd, bx]); (· simp only [go_sem, reduceIte, Nat.reduceEqDiff, Nat.reduceAdd, bx, List.map]; first | exact VSubs.refl _ | (repeat (first | exact VSubs.nil | refine VSubs.cons (by first | exact VSub.refl _ | assumption | exact VSub.cap | exact VSub.any _) ?_))))); apply WpItems.evR)); (· simp only [go_sem, reduceIte, Nat.reduceEqDiff, Nat.reduceAdd, bx, ax, if_true, if_false, Nat.reduceMul, Nat.reduceLeDiff, hil, g1, g2, e2, h4, h5, hat2, h2, h3, hat, encI, vAV, d1, List.length_map, e0]; exact rfl))
            | (refine WpItems.nil ⟨?_, ?_⟩; (· first | trivial | simp [pairsQ, pairsOk, apart, ent0]))
            | (apply Wp.cond_lit; (· simp only [go_sem, reduceIte, Nat.reduceEqDiff, Nat.reduceAdd, bx, ax, if_true, if_false, Nat.reduceMul, Nat.reduceLeDiff, hil, g1, g2, e2, h4, h5, hat2, h2, h3, hat, encI, vAV, d1, List.length_map, e0]; exact rfl); (· rfl))
            | refine Wp.skip ?_
            | refine Wp.label ?_
            | refine Wp.block ?_
            | refine Wp.exit ?_
            | refine Wp.seq ?_)
          refine Wp.ret ⟨trivial, _, rfl, ?_⟩
          simp only [go_sem, reduceIte, Nat.reduceEqDiff, Nat.reduceAdd, bx]
          rw [ins (by rw [hm0, decide_eq_false (show ¬ 0 < vs.length by omega)]; rfl)]; exact VSub.refl _
        · have e0 : decide ((vs.length : Int) = 0) = false := decide_eq_false (by omega)
          cases hch : chB vs with
          | false =>
            rw [hch] at hck
            repeat (first
              | ((first | apply Wp.seqItemsR | apply Wp.itemsR | ((first
                  | (refine WpItems.pcall ?_ ?_ (hck) ?_; (· simp only [go_sem, reduceIte, Nat.reduceEqDiff, Nat.reduceAdd, bx]); (· simp only [go_sem, reduceIte, Nat.reduceEqDiff, Nat.reduceAdd, bx, List.map]; first | exact VSubs.refl _ | (repeat (first | exact VSubs.nil | refine VSubs.cons (by first | exact VSub.refl _ | assumption | exact VSub.cap | exact VSub.any _) ?_))))
                  | (refine WpItems.pcall ?_ ?_ (hbl) ?_; (· simp only [go_sem, reduceIte, Nat.reduceEqDiff, Nat.reduceAdd, bx]); (· simp only [go_sem, reduceIte, Nat.reduceEqDiff, Nat.reduceAdd, bx, List.map]; first | exact VSubs.refl _ | (repeat (first | exact VSubs.nil | refine VSubs.cons (by first | exact VSub.refl _ | assumption | exact VSub.cap | exact VSub.any _) ?_))))); apply WpItems.evR)); (· simp only [go_sem, reduceIte, Nat.reduceEqDiff, Nat.reduceAdd, bx, ax, if_true, if_false, Nat.reduceMul, Nat.reduceLeDiff, hil, g1, g2, e2, h4, h5, hat2, h2, h3, hat, encI, vAV, d1, List.length_map, e0]; exact rfl))
              | (refine WpItems.nil ⟨?_, ?_⟩; (· first | trivial | simp [pairsQ, pairsOk, apart, ent0]))
              | (apply Wp.cond_lit; (· simp only [go_sem, reduceIte, Nat.reduceEqDiff, Nat.reduceAdd, bx, ax, if_true, if_false, Nat.reduceMul, Nat.reduceLeDiff, hil, g1, g2, e2, h4, h5, hat2, h2, h3, hat, encI, vAV, d1, List.length_map, e0]; exact rfl); (· rfl))
              | refine Wp.skip ?_
              | refine Wp.label ?_
              | refine Wp.block ?_
              | refine Wp.exit ?_
              | refine Wp.seq ?_)
            refine Wp.ret ⟨trivial, _, rfl, ?_⟩
            simp only [go_sem, reduceIte, Nat.reduceEqDiff, Nat.reduceAdd, bx]
            rw [ins (by rw [hm0, hch]; simp)]; exact VSub.refl _
          | true =>
            rw [hch] at hck hm0
            repeat (first
              | ((first | apply Wp.seqItemsR | apply Wp.itemsR | ((first
                  | (refine WpItems.pcall ?_ ?_ (hck) ?_; (· simp only [go_sem, reduceIte, Nat.reduceEqDiff, Nat.reduceAdd, bx]); (· simp only [go_sem, reduceIte, Nat.reduceEqDiff, Nat.reduceAdd, bx, List.map]; first | exact VSubs.refl _ | (repeat (first | exact VSubs.nil | refine VSubs.cons (by first | exact VSub.refl _ | assumption | exact VSub.cap | exact VSub.any _) ?_))))
                  | (refine WpItems.pcall ?_ ?_ (hbl) ?_; (· simp only [go_sem, reduceIte, Nat.reduceEqDiff, Nat.reduceAdd, bx]); (· simp only [go_sem, reduceIte, Nat.reduceEqDiff, Nat.reduceAdd, bx, List.map]; first | exact VSubs.refl _ | (repeat (first | exact VSubs.nil | refine VSubs.cons (by first | exact VSub.refl _ | assumption | exact VSub.cap | exact VSub.any _) ?_))))); apply WpItems.evR)); (· simp only [go_sem, reduceIte, Nat.reduceEqDiff, Nat.reduceAdd, bx, ax, if_true, if_false, Nat.reduceMul, Nat.reduceLeDiff, hil, g1, g2, e2, h4, h5, hat2, h2, h3, hat, encI, vAV, d1, List.length_map, e0]; exact rfl))
              | (refine WpItems.nil ⟨?_, ?_⟩; (· first | trivial | simp [pairsQ, pairsOk, apart, ent0]))
              | (apply Wp.cond_lit; (· simp only [go_sem, reduceIte, Nat.reduceEqDiff, Nat.reduceAdd, bx, ax, if_true, if_false, Nat.reduceMul, Nat.reduceLeDiff, hil, g1, g2, e2, h4, h5, hat2, h2, h3, hat, encI, vAV, d1, List.length_map, e0]; exact rfl); (· rfl))
              | refine Wp.skip ?_
              | refine Wp.label ?_
              | refine Wp.block ?_
              | refine Wp.exit ?_
              | refine Wp.seq ?_)
            refine Wp.loopK [0, 3, 4] (by simp only [go_sem, reduceIte, Nat.reduceEqDiff, Nat.reduceAdd, bx, List.map]; exact rfl) (fun k : Nat => [(5, .int .i64 (k : Nat))]) (fun k => k ≤ vs.length ∧ ∀ i, i < k → longV (vs.getD i default) = false) (fun k => vs.length - k) 0 ⟨Nat.zero_le _, fun i h => absurd h (by omega)⟩ ?_ ?_
            · simp only [AllSub, go_sem, reduceIte, Nat.reduceEqDiff, Nat.reduceAdd, bx]; and_intros <;> first | exact trivial | exact VSub.refl _ | exact VSub.any _ | (refine VSub.int ?_; omega)
            rintro k ⟨hk, hl⟩
            have h00 : decide (0 < vs.length) = true := decide_eq_true (by omega)
            rw [h00] at hm0
            by_cases hkc : k < vs.length
            · have kg1 : decide (((k : Nat) : Int) < ((vs.length : Nat) : Int)) = true := decide_eq_true (by omega)
              have kh2 : (0 : Int) ≤ ((k : Nat) : Int) := by omega
              have kh3 : ((k : Nat) : Int) < ((vs.length : Nat) : Int) := by omega
              have ke1 : IntKind.i64.wrap (((k : Nat) : Int) + 1) = ((k + 1 : Nat) : Int) := by rw [IntWalk.i64_in _ (by omega)]; omega
              have kat := enc_at encV vs k .any hkc
              cases hd : longV (vs.getD k default) with
              | true =>
                have hd' := hd
                unfold longV at hd'
                repeat (first
                  | ((first | apply Wp.seqItemsR | apply Wp.itemsR); (· simp only [go_sem, reduceIte, Nat.reduceEqDiff, Nat.reduceAdd, bx, ax, if_true, if_false, Nat.reduceMul, Nat.reduceLeDiff, List.length_map, kg1, kh2, kh3, kat, encV, hd']; exact rfl))
                  | (refine WpItems.nil ⟨?_, ?_⟩; (· first | trivial | simp [pairsQ, pairsOk, apart, ent0]))
                  | (apply Wp.cond_lit; (· simp only [go_sem, reduceIte, Nat.reduceEqDiff, Nat.reduceAdd, bx, ax, if_true, if_false, Nat.reduceMul, Nat.reduceLeDiff, List.length_map, kg1, kh2, kh3, kat, encV, hd']; exact rfl); (· rfl))
                  | refine Wp.skip ?_
                  | refine Wp.label ?_
                  | refine Wp.block ?_
                  | refine Wp.exit ?_
                  | refine Wp.seq ?_)
                refine Wp.ret ⟨trivial, _, rfl, ?_⟩
                simp only [go_sem, reduceIte, Nat.reduceEqDiff, Nat.reduceAdd, bx]
                rw [ins (by rw [hm0, any_at hkc hd]; simp)]; exact VSub.refl _
              | false =>
                have hd' := hd
                unfold longV at hd'
                repeat (first
                  | ((first | apply Wp.seqItemsR | apply Wp.itemsR); (· simp only [go_sem, reduceIte, Nat.reduceEqDiff, Nat.reduceAdd, bx, ax, if_true, if_false, Nat.reduceMul, Nat.reduceLeDiff, List.length_map, kg1, kh2, kh3, kat, encV, hd', ke1]; exact rfl))
                  | (refine WpItems.nil ⟨?_, ?_⟩; (· first | trivial | simp [pairsQ, pairsOk, apart, ent0]))
                  | (apply Wp.cond_lit; (· simp only [go_sem, reduceIte, Nat.reduceEqDiff, Nat.reduceAdd, bx, ax, if_true, if_false, Nat.reduceMul, Nat.reduceLeDiff, List.length_map, kg1, kh2, kh3, kat, encV, hd', ke1]; exact rfl); (· rfl))
                  | refine Wp.skip ?_
                  | refine Wp.label ?_
                  | refine Wp.block ?_
                  | refine Wp.exit ?_
                  | refine Wp.seq ?_)
                refine ⟨k + 1, ⟨by omega, all_stepF hl hd⟩, by omega, ?_⟩
                refine StLe.tm (by simp only [AllSub, go_sem, reduceIte, Nat.reduceEqDiff, Nat.reduceAdd, bx]; and_intros <;> first | exact trivial | exact VSub.refl _ | exact VSub.any _ | (refine VSub.int ?_; omega))
            · obtain rfl : k = vs.length := by omega
              have kg1 : decide ((vs.length : Int) < (vs.length : Int)) = false := decide_eq_false (by omega)
              repeat (first
                | ((first | apply Wp.seqItemsR | apply Wp.itemsR); (· simp only [go_sem, reduceIte, Nat.reduceEqDiff, Nat.reduceAdd, bx, ax, if_true, if_false, Nat.reduceMul, Nat.reduceLeDiff, List.length_map, kg1, e1]; exact rfl))
                | (refine WpItems.nil ⟨?_, ?_⟩; (· first | trivial | simp [pairsQ, pairsOk, apart, ent0]))
                | (apply Wp.cond_lit; (· simp only [go_sem, reduceIte, Nat.reduceEqDiff, Nat.reduceAdd, bx, ax, if_true, if_false, Nat.reduceMul, Nat.reduceLeDiff, List.length_map, kg1, e1]; exact rfl); (· rfl))
                | refine Wp.skip ?_
                | refine Wp.label ?_
                | refine Wp.block ?_
                | refine Wp.exit ?_
                | refine Wp.seq ?_)
              refine ⟨j + 1, ⟨by omega, all_step hs (by rw [hit, hm0, any_iff.2 hl]; rfl)⟩, by omega, ?_⟩
              refine StLe.tm (by simp only [AllSub, go_sem, reduceIte, Nat.reduceEqDiff, Nat.reduceAdd, bx]; and_intros <;> first | exact trivial | exact VSub.refl _ | exact VSub.any _ | (refine VSub.int ?_; omega))
  · obtain rfl : j = l.length := by omega
    have g1 : decide (((l.length : Nat) : Int) < ((l.length : Nat) : Int)) = false := decide_eq_false (by omega)
    repeat (first
      | ((first | apply Wp.seqItemsR | apply Wp.itemsR); (· simp only [go_sem, reduceIte, Nat.reduceEqDiff, Nat.reduceAdd, bx, ax, if_true, if_false, Nat.reduceMul, Nat.reduceLeDiff, g1, hil]; exact rfl))
      | (refine WpItems.nil ⟨?_, ?_⟩; (· first | trivial | simp [pairsQ, pairsOk, apart, ent0]))
      | (apply Wp.cond_lit; (· simp only [go_sem, reduceIte, Nat.reduceEqDiff, Nat.reduceAdd, bx, ax, if_true, if_false, Nat.reduceMul, Nat.reduceLeDiff, g1, hil]; exact rfl); (· rfl))
      | refine Wp.skip ?_
      | refine Wp.label ?_
      | refine Wp.block ?_
      | refine Wp.exit ?_
      | refine Wp.seq ?_)
    refine Wp.ret ⟨trivial, _, rfl, ?_⟩
    simp only [go_sem, reduceIte, Nat.reduceEqDiff, Nat.reduceAdd, bx]
    rw [okL, all_yes hs]; exact VSub.refl _
end Go.Proofs.Ytobokfclaooloaa.Space
end
section
set_option linter.unusedSimpArgs false
set_option linter.unusedVariables false
set_option maxRecDepth 10000
namespace Go.Proofs.Ytobokfclaooloaa.Space
open Go Go.Av Go.Proofs Go.Proofs.Ytobokfclaooloaa.C Go.Proofs.Ytobokfclaooloaa.Batch
def plG (v : Ver) : Bool → List Ver → List Ver
  | b, [] => if b then [] else [v]
  | b, x :: l => (if b = false ∧ x.t < v.t then [v] else []) ++ x :: plG v (b || decide (x.t < v.t)) l
def plV (l : List Ver) (v : Ver) : List Ver := plG v false l
theorem plG_len (v : Ver) : ∀ (l : List Ver) (b : Bool), (plG v b l).length ≤ l.length + 1
  | [], b => by cases b <;> simp [plG]
  | x :: l, b => by
    have h1 := plG_len v l true
    have h2 := plG_len v l false
    have h3 : ∀ l, (plG v true l).length = l.length := fun l => by
      induction l with
      | nil => rfl
      | cons y l ih => simp [plG, ih]
    rw [plG]
    cases b
    · by_cases h : x.t < v.t
      · simp [h, h3]
      · simp [h]; omega
    · simp [h3]
theorem encV_snoc (l : List Ver) (v : Ver) : l.map encV ++ [.agg [.int .i64 v.t, .str v.v, .bool v.d]] = (l ++ [v]).map encV := by simp [encV]
theorem drop_v {l : List Ver} {j : Nat} (h : j < l.length) : l.drop j = l.getD j default :: l.drop (j + 1) := by
  rw [List.drop_eq_getElem_cons h, Av.getD_el h]
set_option maxHeartbeats 1000000 in
theorem placedV_p (l : List Ver) (hl : l.length ≤ 1000000) (v : Ver) : PCalls Try.prog 44 [.sl 3 (l.map encV) .any, encV v] (.sl 3 ((plV l v).map encV) .any) := by
  refine f44.pcalls0 (by simp) (by simp [allPure, isPure, capPure, vers_pure, encV_pure]) (by simp [isPure, capPure, vers_pure]) ?_
  unfold c44
  have hil : (l.map encV).length = l.length := by simp
  repeat (first
    | ((first | apply Wp.seqItemsR | apply Wp.itemsR); (· simp only [go_sem, reduceIte, Nat.reduceEqDiff, Nat.reduceAdd, bx, ax, if_true, if_false, Nat.reduceMul, Nat.reduceLeDiff, hil, encV]; exact rfl))
    | (refine WpItems.nil ⟨?_, ?_⟩; (· first | trivial | simp [pairsQ, pairsOk, apart, ent0]))
    | (apply Wp.cond_lit; (· simp only [go_sem, reduceIte, Nat.reduceEqDiff, Nat.reduceAdd, bx, ax, if_true, if_false, Nat.reduceMul, Nat.reduceLeDiff, hil, encV]; exact rfl); (· rfl))
    | refine Wp.skip ?_
    | refine Wp.label ?_
    | refine Wp.block ?_
    | refine Wp.exit ?_
    | refine Wp.seq ?_)
  refine Wp.le (StLe.tok _ _) ?_
  refine Wp.loopTok [0, 3] (by simp only [go_sem, reduceIte, Nat.reduceEqDiff, List.map]; exact rfl) (fun (j : Nat × List Ver × Bool) tk => [(5, .sl 3 (j.2.1.map encV) (.own tk)), (6, .bool j.2.2), (7, .int .i64 (j.1 : Nat))]) (fun j => j.1 ≤ l.length ∧ j.2.1 ++ plG v j.2.2 (l.drop j.1) = plV l v ∧ j.2.1.length ≤ 2 * j.1) (fun j => l.length - j.1) (0, [], false) _ ⟨Nat.zero_le _, by simp [plV], Nat.le_refl _⟩ rfl ?_ ?_
  · simp only [AllSub, go_sem, reduceIte, Nat.reduceEqDiff, Nat.reduceAdd, bx]; and_intros <;> first | exact trivial | exact VSub.refl _ | exact VSub.any _ | exact VSub.own_of rfl | (refine VSub.int ?_; omega)
  rintro ⟨j, o, b⟩ tk m ⟨hj, ho, hol⟩
  simp only at hj ho hol
  obtain ⟨g0, g0', g1', g1''⟩ := rooms32 (show o.length ≤ 2000000 by omega)
  by_cases hc : j < l.length
  · have g1 : decide (((j : Nat) : Int) < ((l.length : Nat) : Int)) = true := decide_eq_true (by omega)
    have h2 : (0 : Int) ≤ ((j : Nat) : Int) := by omega
    have h3 : ((j : Nat) : Int) < ((l.length : Nat) : Int) := by omega
    have e1 : IntKind.i64.wrap (((j : Nat) : Int) + 1) = ((j + 1 : Nat) : Int) := by rw [IntWalk.i64_in _ (by omega)]; omega
    have hat := enc_at encV l j .any hc
    rw [drop_v hc, plG] at ho
    have hsn := encV_snoc o (l.getD j default)
    have hsq := encV_snoc o v
    have hsn3 := encV_snoc (o ++ [v]) (l.getD j default)
    rw [← hsq] at hsn3
    cases b with
    | true =>
      simp only [Bool.true_eq_false, false_and, if_false, List.nil_append, Bool.true_or] at ho
      generalize l.getD j default = x at *
      repeat (first
        | ((first | apply Wp.seqItemsR | apply Wp.itemsR); (· simp only [go_sem, reduceIte, Nat.reduceEqDiff, Nat.reduceAdd, bx, ax, if_true, if_false, Nat.reduceMul, Nat.reduceLeDiff, hil, g1, h2, h3, e1, hat, encV, List.length_map, g0, g0', List.map_cons, List.map_nil, Bool.not_true]; exact rfl))
        | (refine WpItems.nil ⟨?_, ?_⟩; (· first | trivial | simp [pairsQ, pairsOk, apart, ent0]))
        | (apply Wp.cond_lit; (· simp only [go_sem, reduceIte, Nat.reduceEqDiff, Nat.reduceAdd, bx, ax, if_true, if_false, Nat.reduceMul, Nat.reduceLeDiff, hil, g1, h2, h3, e1, hat, encV, List.length_map, g0, g0', List.map_cons, List.map_nil, Bool.not_true]; exact rfl); (· rfl))
        | refine Wp.skip ?_
        | refine Wp.label ?_
        | refine Wp.block ?_
        | refine Wp.exit ?_
        | refine Wp.seq ?_)
      refine ⟨(j + 1, o ++ [x], true), m, m + 1, ⟨by simp only; omega, by rw [← ho]; simp, by simp; omega⟩, by simp only; omega, ?_⟩
      refine StLe.tm (by simp only [AllSub, go_sem, reduceIte, Nat.reduceEqDiff, Nat.reduceAdd, bx]; and_intros <;> first | exact trivial | exact VSub.refl _ | exact VSub.any _ | exact VSub.of_eq (by rw [← hsn]) | (refine VSub.int ?_; omega))
    | false =>
      by_cases hk : (l.getD j default).t < v.t
      · have q4 := decide_eq_true hk
        rw [q4] at ho
        simp only [true_and, hk, if_true, Bool.or_true] at ho
        generalize l.getD j default = x at *
        repeat (first
          | ((first | apply Wp.seqItemsR | apply Wp.itemsR); (· simp only [go_sem, reduceIte, Nat.reduceEqDiff, Nat.reduceAdd, bx, ax, if_true, if_false, Nat.reduceMul, Nat.reduceLeDiff, hil, g1, h2, h3, q4, e1, hat, encV, List.length_map, List.length_append, List.length_cons, List.length_nil, Nat.zero_add, g0, g0', g1', g1'', Bool.not_false]; exact rfl))
          | (refine WpItems.nil ⟨?_, ?_⟩; (· first | trivial | simp [pairsQ, pairsOk, apart, ent0]))
          | (apply Wp.cond_lit; (· simp only [go_sem, reduceIte, Nat.reduceEqDiff, Nat.reduceAdd, bx, ax, if_true, if_false, Nat.reduceMul, Nat.reduceLeDiff, hil, g1, h2, h3, q4, e1, hat, encV, List.length_map, List.length_append, List.length_cons, List.length_nil, Nat.zero_add, g0, g0', g1', g1'', Bool.not_false]; exact rfl); (· rfl))
          | refine Wp.skip ?_
          | refine Wp.label ?_
          | refine Wp.block ?_
          | refine Wp.exit ?_
          | refine Wp.seq ?_)
        refine ⟨(j + 1, o ++ [v] ++ [x], true), m + 1, m + 2, ⟨by simp only; omega, by rw [← ho]; simp, by simp; omega⟩, by simp only; omega, ?_⟩
        refine StLe.tm (by simp only [AllSub, go_sem, reduceIte, Nat.reduceEqDiff, Nat.reduceAdd, bx]; and_intros <;> first | exact trivial | exact VSub.refl _ | exact VSub.any _ | exact VSub.of_eq (by rw [← hsn3]) | (refine VSub.int ?_; omega))
      · have q4 := decide_eq_false hk
        rw [q4] at ho
        simp only [hk, and_false, if_false, List.nil_append, Bool.or_false] at ho
        generalize l.getD j default = x at *
        repeat (first
          | ((first | apply Wp.seqItemsR | apply Wp.itemsR); (· simp only [go_sem, reduceIte, Nat.reduceEqDiff, Nat.reduceAdd, bx, ax, if_true, if_false, Nat.reduceMul, Nat.reduceLeDiff, hil, g1, h2, h3, q4, e1, hat, encV, List.length_map, g0, g0', Bool.not_false]; exact rfl))
          | (refine WpItems.nil ⟨?_, ?_⟩; (· first | trivial | simp [pairsQ, pairsOk, apart, ent0]))
          | (apply Wp.cond_lit; (· simp only [go_sem, reduceIte, Nat.reduceEqDiff, Nat.reduceAdd, bx, ax, if_true, if_false, Nat.reduceMul, Nat.reduceLeDiff, hil, g1, h2, h3, q4, e1, hat, encV, List.length_map, g0, g0', Bool.not_false]; exact rfl); (· rfl))
          | refine Wp.skip ?_
          | refine Wp.label ?_
          | refine Wp.block ?_
          | refine Wp.exit ?_
          | refine Wp.seq ?_)
        refine ⟨(j + 1, o ++ [x], false), m, m + 1, ⟨by simp only; omega, by rw [← ho]; simp, by simp; omega⟩, by simp only; omega, ?_⟩
        refine StLe.tm (by simp only [AllSub, go_sem, reduceIte, Nat.reduceEqDiff, Nat.reduceAdd, bx]; and_intros <;> first | exact trivial | exact VSub.refl _ | exact VSub.any _ | exact VSub.of_eq (by rw [← hsn]) | (refine VSub.int ?_; omega))
  · obtain rfl : j = l.length := by omega
    have g1 : decide (((l.length : Nat) : Int) < ((l.length : Nat) : Int)) = false := decide_eq_false (by omega)
    rw [List.drop_length, plG] at ho
    cases b with
    | true =>
      simp only [if_true, List.append_nil] at ho
      repeat (first
        | ((first | apply Wp.seqItemsR | apply Wp.itemsR); (· simp only [go_sem, reduceIte, Nat.reduceEqDiff, Nat.reduceAdd, bx, ax, if_true, if_false, Nat.reduceMul, Nat.reduceLeDiff, hil, g1, Bool.not_true]; exact rfl))
        | (refine WpItems.nil ⟨?_, ?_⟩; (· first | trivial | simp [pairsQ, pairsOk, apart, ent0]))
        | (apply Wp.cond_lit; (· simp only [go_sem, reduceIte, Nat.reduceEqDiff, Nat.reduceAdd, bx, ax, if_true, if_false, Nat.reduceMul, Nat.reduceLeDiff, hil, g1, Bool.not_true]; exact rfl); (· rfl))
        | refine Wp.skip ?_
        | refine Wp.label ?_
        | refine Wp.block ?_
        | refine Wp.exit ?_
        | refine Wp.seq ?_)
      refine Wp.ret ⟨trivial, _, rfl, ?_⟩
      simp only [go_sem, reduceIte, Nat.reduceEqDiff, Nat.reduceAdd, bx]
      rw [← ho]; exact VSub.cap
    | false =>
      simp only [Bool.false_eq_true, if_false] at ho
      have hsq := encV_snoc o v
      repeat (first
        | ((first | apply Wp.seqItemsR | apply Wp.itemsR); (· simp only [go_sem, reduceIte, Nat.reduceEqDiff, Nat.reduceAdd, bx, ax, if_true, if_false, Nat.reduceMul, Nat.reduceLeDiff, hil, g1, List.length_map, g0, g0', Bool.not_false]; exact rfl))
        | (refine WpItems.nil ⟨?_, ?_⟩; (· first | trivial | simp [pairsQ, pairsOk, apart, ent0]))
        | (apply Wp.cond_lit; (· simp only [go_sem, reduceIte, Nat.reduceEqDiff, Nat.reduceAdd, bx, ax, if_true, if_false, Nat.reduceMul, Nat.reduceLeDiff, hil, g1, List.length_map, g0, g0', Bool.not_false]; exact rfl); (· rfl))
        | refine Wp.skip ?_
        | refine Wp.label ?_
        | refine Wp.block ?_
        | refine Wp.exit ?_
        | refine Wp.seq ?_)
      refine Wp.ret ⟨trivial, _, rfl, ?_⟩
      simp only [go_sem, reduceIte, Nat.reduceEqDiff, Nat.reduceAdd, bx]
      rw [← ho, ← hsq]; exact VSub.cap
end Go.Proofs.Ytobokfclaooloaa.Space
end
section
set_option linter.unusedSimpArgs false
set_option linter.unusedVariables false
set_option maxRecDepth 10000
namespace Go.Proofs.Ytobokfclaooloaa.Space
open Go Go.Av Go.Proofs Go.Proofs.Ytobokfclaooloaa.C Go.Proofs.Ytobokfclaooloaa.Batch
def wiG (q : Bs) (v : Ver) : Bool → List It → List It
  | b, [] => if b then [] else [(q, [v])]
  | b, x :: l => (if b = false ∧ Op.bytesLess x.1 q = false ∧ x.1 ≠ q then [(q, [v])] else []) ++ (if b = false ∧ Op.bytesLess x.1 q = false ∧ x.1 = q then (x.1, plV x.2 v) else x) :: wiG q v (b || !Op.bytesLess x.1 q) l
def wiL (l : List It) (q : Bs) (v : Ver) : List It := wiG q v false l
theorem encI_app (l : List It) (x : It) : l.map encI ++ [encI x] = (l ++ [x]).map encI := by simp
theorem subI (q : Bs) (vs : List Ver) (c : Cap) : VSub (.agg [.str q, .sl 3 (vs.map encV) c]) (encI (q, vs)) := VSub.agg (VSubs.cons (VSub.refl _) (VSubs.cons VSub.cap VSubs.nil))
theorem vsl_snoc : ∀ {xs ys : List AV} {x y : AV}, VSubL xs ys → VSub x y → VSubL (xs ++ [x]) (ys ++ [y])
  | [], [], _, _, _, h => ⟨h, trivial⟩
  | a :: xs, b :: ys, _, _, h1, h2 => ⟨h1.1, vsl_snoc h1.2 h2⟩
  | [], _ :: _, _, _, h, _ => h.elim
  | _ :: _, [], _, _, h, _ => h.elim
theorem rowI (o : List It) {x : AV} {q : It} (h : VSub x (encI q)) (c : Cap) : VSub (.sl 2 (o.map encI ++ [x]) c) (.sl 2 ((o ++ [q]).map encI) c) := by
  rw [← encI_app]; exact VSub.slc (vsl_snoc (VSubL.refl _) h)
theorem rowI2 (o : List It) {x y : AV} {q p : It} (h : VSub x (encI q)) (h2 : VSub y (encI p)) (c : Cap) : VSub (.sl 2 (o.map encI ++ [x] ++ [y]) c) (.sl 2 ((o ++ [q] ++ [p]).map encI) c) := by
  rw [← encI_app, ← encI_app]; exact VSub.slc (vsl_snoc (vsl_snoc (VSubL.refl _) h) h2)
set_option maxHeartbeats 2000000 in
theorem bwith_p (l : List It) (sl : SmI l) (q : Bs) (hq : Ls q) (v : Ver) : PCalls Try.prog 26 [.sl 2 (l.map encI) .any, .str q, encV v] (.sl 2 ((wiL l q v).map encI) .any) := by
  refine f26.pcalls0 (by simp) (by simp [allPure, isPure, capPure, its_pure, encV_pure]) (by simp [isPure, capPure, its_pure]) ?_
  unfold c26
  have hl := sl.n
  have hil : (l.map encI).length = l.length := by simp
  repeat (first
    | ((first | apply Wp.seqItemsR | apply Wp.itemsR); (· simp only [go_sem, reduceIte, Nat.reduceEqDiff, Nat.reduceAdd, bx, ax, if_true, if_false, Nat.reduceMul, Nat.reduceLeDiff, hil, encV]; exact rfl))
    | (refine WpItems.nil ⟨?_, ?_⟩; (· first | trivial | simp [pairsQ, pairsOk, apart, ent0]))
    | (apply Wp.cond_lit; (· simp only [go_sem, reduceIte, Nat.reduceEqDiff, Nat.reduceAdd, bx, ax, if_true, if_false, Nat.reduceMul, Nat.reduceLeDiff, hil, encV]; exact rfl); (· rfl))
    | refine Wp.skip ?_
    | refine Wp.label ?_
    | refine Wp.block ?_
    | refine Wp.exit ?_
    | refine Wp.seq ?_)
  refine Wp.le (StLe.tok _ _) ?_
  refine Wp.loopTokN [0, 1, 5] (by simp only [go_sem, reduceIte, Nat.reduceEqDiff, List.map]; exact rfl) (fun (j : Nat × List It × Bool) tk => [(7, .sl 2 (j.2.1.map encI) (.own tk)), (8, .bool j.2.2), (9, .int .i64 (j.1 : Nat))]) (fun j => j.1 ≤ l.length ∧ j.2.1 ++ wiG q v j.2.2 (l.drop j.1) = wiL l q v ∧ j.2.1.length ≤ 2 * j.1) (fun j => l.length - j.1) (0, [], false) _ ⟨Nat.zero_le _, by simp [wiL], Nat.le_refl _⟩ rfl ?_ ?_
  · simp only [AllSub, go_sem, reduceIte, Nat.reduceEqDiff, Nat.reduceAdd, bx]; and_intros <;> first | exact trivial | exact VSub.refl _ | exact VSub.any _ | exact VSub.own_of rfl | (refine VSub.int ?_; omega)
  rintro ⟨j, o, b⟩ tk n m hn ⟨hj, ho, hol⟩
  have hn' : 1 ≤ n := hn
  have n0 : ¬ (0 = n) := by omega
  have n1 : ¬ (n = 0) := by omega
  simp only at hj ho hol
  obtain ⟨g0, g0', g1', g1''⟩ := rooms40 (show o.length ≤ 2000000 by omega)
  by_cases hc : j < l.length
  · have g1 : decide (((j : Nat) : Int) < ((l.length : Nat) : Int)) = true := decide_eq_true (by omega)
    have h2 : (0 : Int) ≤ ((j : Nat) : Int) := by omega
    have h3 : ((j : Nat) : Int) < ((l.length : Nat) : Int) := by omega
    have e1 : IntKind.i64.wrap (((j : Nat) : Int) + 1) = ((j + 1 : Nat) : Int) := by rw [IntWalk.i64_in _ (by omega)]; omega
    have hat := enc_at encI l j .any hc
    rw [drop_it hc, wiG] at ho
    obtain ⟨lk, lv⟩ := sl.at hc
    have hbel := below_p (l.getD j default).1 q lk hq
    cases b with
    | true =>
      simp only [Bool.true_eq_false, false_and, if_false, List.nil_append, Bool.true_or] at ho
      generalize l.getD j default = x at *
      repeat (first
        | ((first | apply Wp.seqItemsR | apply Wp.itemsR); (· simp only [go_sem, reduceIte, Nat.reduceEqDiff, Nat.reduceAdd, bx, ax, if_true, if_false, Nat.reduceMul, Nat.reduceLeDiff, hil, g1, h2, h3, e1, hat, encI, vAV, n0, n1, List.length_map, g0, g0', Bool.not_true]; exact rfl))
        | (refine WpItems.nil ⟨?_, ?_⟩; (· first | trivial | simp [pairsQ, pairsOk, apart, ent0]))
        | (apply Wp.cond_lit; (· simp only [go_sem, reduceIte, Nat.reduceEqDiff, Nat.reduceAdd, bx, ax, if_true, if_false, Nat.reduceMul, Nat.reduceLeDiff, hil, g1, h2, h3, e1, hat, encI, vAV, n0, n1, List.length_map, g0, g0', Bool.not_true]; exact rfl); (· rfl))
        | refine Wp.skip ?_
        | refine Wp.label ?_
        | refine Wp.block ?_
        | refine Wp.exit ?_
        | refine Wp.seq ?_)
      refine ⟨(j + 1, o ++ [x], true), m, n + 1, m + 1, by omega, ⟨by simp only; omega, by rw [← ho]; simp, by simp; omega⟩, by simp only; omega, ?_⟩
      refine StLe.tmN (by omega) (OLe.at (by simp [upd, none', n0, n1])) (by simp only [AllSub, go_sem, reduceIte, Nat.reduceEqDiff, Nat.reduceAdd, bx, n0, n1]; and_intros <;> first | exact trivial | exact VSub.refl _ | exact VSub.any _ | exact rowI o (subI _ _ _) _ | (refine VSub.int ?_; omega))
    | false =>
      cases hb : Op.bytesLess (l.getD j default).1 q with
      | true =>
        rw [hb] at hbel ho
        simp only [Bool.true_eq_false, false_and, and_false, if_false, List.nil_append, Bool.not_true, Bool.or_self] at ho
        generalize l.getD j default = x at *
        repeat (first
          | ((first | apply Wp.seqItemsR | apply Wp.itemsR | ((first
              | (refine WpItems.pcall ?_ ?_ (hbel) ?_; (· simp only [go_sem, reduceIte, Nat.reduceEqDiff, Nat.reduceAdd, bx]); (· simp only [go_sem, reduceIte, Nat.reduceEqDiff, Nat.reduceAdd, bx, List.map]; first | exact VSubs.refl _ | (repeat (first | exact VSubs.nil | refine VSubs.cons (by first | exact VSub.refl _ | assumption | exact VSub.cap | exact VSub.any _) ?_))))); apply WpItems.evR)); (· simp only [go_sem, reduceIte, Nat.reduceEqDiff, Nat.reduceAdd, bx, ax, if_true, if_false, Nat.reduceMul, Nat.reduceLeDiff, hil, g1, h2, h3, e1, hat, encI, vAV, n0, n1, List.length_map, g0, g0', Bool.not_true, Bool.not_false]; exact rfl))
          | (refine WpItems.nil ⟨?_, ?_⟩; (· first | trivial | simp [pairsQ, pairsOk, apart, ent0]))
          | (apply Wp.cond_lit; (· simp only [go_sem, reduceIte, Nat.reduceEqDiff, Nat.reduceAdd, bx, ax, if_true, if_false, Nat.reduceMul, Nat.reduceLeDiff, hil, g1, h2, h3, e1, hat, encI, vAV, n0, n1, List.length_map, g0, g0', Bool.not_true, Bool.not_false]; exact rfl); (· rfl))
          | refine Wp.skip ?_
          | refine Wp.label ?_
          | refine Wp.block ?_
          | refine Wp.exit ?_
          | refine Wp.seq ?_)
        refine ⟨(j + 1, o ++ [x], false), m, n + 1, m + 1, by omega, ⟨by simp only; omega, by rw [← ho]; simp, by simp; omega⟩, by simp only; omega, ?_⟩
        refine StLe.tmN (by omega) (OLe.at (by simp [upd, none', n0, n1])) (by simp only [AllSub, go_sem, reduceIte, Nat.reduceEqDiff, Nat.reduceAdd, bx, n0, n1]; and_intros <;> first | exact trivial | exact VSub.refl _ | exact VSub.any _ | exact rowI o (subI _ _ _) _ | (refine VSub.int ?_; omega))
      | false =>
        rw [hb] at hbel ho
        simp only [true_and, Bool.not_false, Bool.or_true] at ho
        by_cases hk : (l.getD j default).1 = q
        · have q4 := decide_eq_true hk
          have hpl := placedV_p (l.getD j default).2 lv v
          simp only [hk, ne_eq, not_true_eq_false, if_true, if_false, List.nil_append] at ho
          generalize l.getD j default = x at *
          simp only [encV] at hpl
          repeat (first
            | ((first | apply Wp.seqItemsR | apply Wp.itemsR | ((first
                | (refine WpItems.pcall ?_ ?_ (hbel) ?_; (· simp only [go_sem, reduceIte, Nat.reduceEqDiff, Nat.reduceAdd, bx]); (· simp only [go_sem, reduceIte, Nat.reduceEqDiff, Nat.reduceAdd, bx, List.map]; first | exact VSubs.refl _ | (repeat (first | exact VSubs.nil | refine VSubs.cons (by first | exact VSub.refl _ | assumption | exact VSub.cap | exact VSub.any _) ?_))))
                | (refine WpItems.pcall ?_ ?_ (hpl) ?_; (· simp only [go_sem, reduceIte, Nat.reduceEqDiff, Nat.reduceAdd, bx]); (· simp only [go_sem, reduceIte, Nat.reduceEqDiff, Nat.reduceAdd, bx, List.map]; first | exact VSubs.refl _ | (repeat (first | exact VSubs.nil | refine VSubs.cons (by first | exact VSub.refl _ | assumption | exact VSub.cap | exact VSub.any _) ?_))))); apply WpItems.evR)); (· simp only [go_sem, reduceIte, Nat.reduceEqDiff, Nat.reduceAdd, bx, ax, if_true, if_false, Nat.reduceMul, Nat.reduceLeDiff, hil, g1, h2, h3, e1, q4, hat, encI, vAV, n0, n1, List.length_map, g0, g0', Bool.not_true, Bool.not_false]; exact rfl))
            | (refine WpItems.nil ⟨?_, ?_⟩; (· first | trivial | simp [pairsQ, pairsOk, apart, ent0]))
            | (apply Wp.cond_lit; (· simp only [go_sem, reduceIte, Nat.reduceEqDiff, Nat.reduceAdd, bx, ax, if_true, if_false, Nat.reduceMul, Nat.reduceLeDiff, hil, g1, h2, h3, e1, q4, hat, encI, vAV, n0, n1, List.length_map, g0, g0', Bool.not_true, Bool.not_false]; exact rfl); (· rfl))
            | refine Wp.skip ?_
            | refine Wp.label ?_
            | refine Wp.block ?_
            | refine Wp.exit ?_
            | refine Wp.seq ?_)
          refine ⟨(j + 1, o ++ [(q, plV x.2 v)], true), m, n + 1, m + 1, by omega, ⟨by simp only; omega, by rw [← ho]; simp, by simp; omega⟩, by simp only; omega, ?_⟩
          refine StLe.tmN (by omega) (OLe.at (by simp [upd, none', n0, n1])) (by simp only [AllSub, go_sem, reduceIte, Nat.reduceEqDiff, Nat.reduceAdd, bx, n0, n1]; and_intros <;> first | exact trivial | exact VSub.refl _ | exact VSub.any _ | exact rowI o (by rw [← hk]; exact subI _ _ _) _ | (refine VSub.int ?_; omega))
        · have q4 := decide_eq_false hk
          simp only [hk, ne_eq, not_false_eq_true, if_true, if_false] at ho
          generalize l.getD j default = x at *
          repeat (first
            | ((first | apply Wp.seqItemsR | apply Wp.itemsR | ((first
                | (refine WpItems.pcall ?_ ?_ (hbel) ?_; (· simp only [go_sem, reduceIte, Nat.reduceEqDiff, Nat.reduceAdd, bx]); (· simp only [go_sem, reduceIte, Nat.reduceEqDiff, Nat.reduceAdd, bx, List.map]; first | exact VSubs.refl _ | (repeat (first | exact VSubs.nil | refine VSubs.cons (by first | exact VSub.refl _ | assumption | exact VSub.cap | exact VSub.any _) ?_))))); apply WpItems.evR)); (· simp only [go_sem, reduceIte, Nat.reduceEqDiff, Nat.reduceAdd, bx, ax, if_true, if_false, Nat.reduceMul, Nat.reduceLeDiff, hil, g1, h2, h3, e1, q4, hat, encI, vAV, n0, n1, List.length_map, List.length_append, List.length_cons, List.length_nil, Nat.zero_add, g0, g0', g1', g1'', Bool.not_true, Bool.not_false]; exact rfl))
            | (refine WpItems.nil ⟨?_, ?_⟩; (· first | trivial | simp [pairsQ, pairsOk, apart, ent0]))
            | (apply Wp.cond_lit; (· simp only [go_sem, reduceIte, Nat.reduceEqDiff, Nat.reduceAdd, bx, ax, if_true, if_false, Nat.reduceMul, Nat.reduceLeDiff, hil, g1, h2, h3, e1, q4, hat, encI, vAV, n0, n1, List.length_map, List.length_append, List.length_cons, List.length_nil, Nat.zero_add, g0, g0', g1', g1'', Bool.not_true, Bool.not_false]; exact rfl); (· rfl))
            | refine Wp.skip ?_
            | refine Wp.label ?_
            | refine Wp.block ?_
            | refine Wp.exit ?_
            | refine Wp.seq ?_)
          refine ⟨(j + 1, o ++ [(q, [v])] ++ [x], true), m + 1, n + 1, m + 2, by omega, ⟨by simp only; omega, by rw [← ho]; simp, by simp; omega⟩, by simp only; omega, ?_⟩
          refine StLe.tmN (by omega) (OLe.at (by simp [upd, none', n0, n1])) (by simp only [AllSub, go_sem, reduceIte, Nat.reduceEqDiff, Nat.reduceAdd, bx, n0, n1]; and_intros <;> first | exact trivial | exact VSub.refl _ | exact VSub.any _ | exact rowI2 o (subI q [v] _) (subI _ _ _) _ | (refine VSub.int ?_; omega))
  · obtain rfl : j = l.length := by omega
    have g1 : decide (((l.length : Nat) : Int) < ((l.length : Nat) : Int)) = false := decide_eq_false (by omega)
    rw [List.drop_length, wiG] at ho
    cases b with
    | true =>
      simp only [if_true, List.append_nil] at ho
      repeat (first
        | ((first | apply Wp.seqItemsR | apply Wp.itemsR); (· simp only [go_sem, reduceIte, Nat.reduceEqDiff, Nat.reduceAdd, bx, ax, if_true, if_false, Nat.reduceMul, Nat.reduceLeDiff, hil, g1, Bool.not_true]; exact rfl))
        | (refine WpItems.nil ⟨?_, ?_⟩; (· first | trivial | simp [pairsQ, pairsOk, apart, ent0]))
        | (apply Wp.cond_lit; (· simp only [go_sem, reduceIte, Nat.reduceEqDiff, Nat.reduceAdd, bx, ax, if_true, if_false, Nat.reduceMul, Nat.reduceLeDiff, hil, g1, Bool.not_true]; exact rfl); (· rfl))
        | refine Wp.skip ?_
        | refine Wp.label ?_
        | refine Wp.block ?_
        | refine Wp.exit ?_
        | refine Wp.seq ?_)
      refine Wp.ret ⟨trivial, _, rfl, ?_⟩
      simp only [go_sem, reduceIte, Nat.reduceEqDiff, Nat.reduceAdd, bx]
      rw [← ho]; exact VSub.cap
    | false =>
      simp only [Bool.false_eq_true, if_false] at ho
      repeat (first
        | ((first | apply Wp.seqItemsR | apply Wp.itemsR); (· simp only [go_sem, reduceIte, Nat.reduceEqDiff, Nat.reduceAdd, bx, ax, if_true, if_false, Nat.reduceMul, Nat.reduceLeDiff, hil, g1, List.length_map, g0, g0', Bool.not_false]; exact rfl))
        | (refine WpItems.nil ⟨?_, ?_⟩; (· first | trivial | simp [pairsQ, pairsOk, apart, ent0]))
        | (apply Wp.cond_lit; (· simp only [go_sem, reduceIte, Nat.reduceEqDiff, Nat.reduceAdd, bx, ax, if_true, if_false, Nat.reduceMul, Nat.reduceLeDiff, hil, g1, List.length_map, g0, g0', Bool.not_false]; exact rfl); (· rfl))
        | refine Wp.skip ?_
        | refine Wp.label ?_
        | refine Wp.block ?_
        | refine Wp.exit ?_
        | refine Wp.seq ?_)
      refine Wp.ret ⟨trivial, _, rfl, ?_⟩
      simp only [go_sem, reduceIte, Nat.reduceEqDiff, Nat.reduceAdd, bx]
      rw [← ho]; exact VSub.trans (rowI o (subI q [v] _) _) VSub.cap
end Go.Proofs.Ytobokfclaooloaa.Space
end
section
set_option linter.unusedSimpArgs false
set_option linter.unusedVariables false
set_option maxRecDepth 10000
namespace Go.Proofs.Ytobokfclaooloaa.Batch
open Go Go.Av Go.Proofs Go.Proofs.Ytobokfclaooloaa.C
def Lt (a b : Bs) : Prop := Op.bytesLess a b = true
theorem Lt.trans {a b c : Bs} (h1 : Lt a b) (h2 : Lt b c) : Lt a c := less_trans h1 h2
theorem Lt.ne {a b : Bs} (h : Lt a b) : ¬ a = b := fun e => by rw [e, Lt, less_irrefl] at h; cases h
theorem Lt.not {a b : Bs} (h : Lt a b) : Op.bytesLess b a = false := less_asymm h
theorem tri (a b : Bs) : Lt a b ∨ a = b ∨ Lt b a := less_total a b
theorem not_lt {a b : Bs} (h : Op.bytesLess a b = false) : a = b ∨ Lt b a := by
  rcases tri a b with g | g | g
  · rw [Lt, h] at g; cases g
  · exact .inl g
  · exact .inr g
def RiseP (l : List Pr) : Prop := l.Pairwise fun a b => Lt a.k b.k
theorem putGo_true (k v : Bs) : ∀ l : List Pr, putGo k v true l = rest k l
  | [] => rfl
  | p :: l => by rw [putGo, rest_cons, Bool.true_or, putGo_true k v l]; simp
theorem putGo_split {k v : Bs} {q : List Pr} (hq : q = [] ∨ ∃ x q', q = x :: q' ∧ Op.bytesLess x.k k = false) : ∀ p : List Pr, (∀ x ∈ p, Lt x.k k) → putGo k v false (p ++ q) = p ++ ⟨k, v⟩ :: rest k q
  | [], _ => by
    rcases hq with rfl | ⟨x, q', rfl, hx⟩
    · rfl
    · rw [List.nil_append, putGo, hx, rest_cons, Bool.false_or, Bool.not_false, putGo_true]; simp
  | y :: p, h => by
    have hy := h y (by simp)
    have rec' := putGo_split (v := v) hq p (fun x hx => h x (by simp [hx]))
    rw [List.cons_append, putGo, if_neg hy.ne, show Op.bytesLess y.k k = true from hy, Bool.not_true, Bool.or_self, rec']
    simp
theorem rise_put {k v : Bs} : ∀ {l : List Pr}, RiseP l → RiseP (putGo k v false l)
  | [], _ => by simp [putGo, RiseP]
  | x :: l, h => by
    have hx := List.pairwise_cons.1 h
    cases hb : Op.bytesLess x.k k with
    | true =>
      have hlt : Lt x.k k := hb
      have := putGo_split (k := k) (v := v) (q := []) (.inl rfl)
      have e : putGo k v false (x :: l) = x :: putGo k v false l := by rw [putGo, hb, if_neg hlt.ne]; simp
      rw [e]
      refine List.pairwise_cons.2 ⟨fun y hy => ?_, rise_put hx.2⟩
      rcases putGo_mem k v l false y hy with rfl | hy
      · exact hlt
      · exact hx.1 y hy
    | false =>
      have e := putGo_split (k := k) (v := v) (q := x :: l) (.inr ⟨x, l, rfl, hb⟩) [] (by simp)
      rw [List.nil_append, List.nil_append] at e
      rw [e]
      refine List.pairwise_cons.2 ⟨fun y hy => ?_, h.sublist List.filter_sublist⟩
      obtain ⟨h1, h2⟩ := List.mem_filter.1 hy
      have hne : ¬ y.k = k := by simpa [hasK] using h2
      have hxk := not_lt hb
      rcases List.mem_cons.1 h1 with rfl | h1
      · rcases hxk with hxk | hxk
        · exact absurd hxk hne
        · exact hxk
      · have h3 : Lt x.k y.k := hx.1 y h1
        rcases hxk with hxk | hxk
        · show Lt k y.k; rw [← hxk]; exact h3
        · exact hxk.trans h3
theorem rise_putP {l : List Pr} (h : RiseP l) (k v : Bs) : RiseP (putP l k v) := by
  unfold putP; split
  · exact h
  · exact rise_put h
def OkP (l : List Pr) : Prop := ∀ p ∈ l, shut p.k p.v = false
theorem sorted_facts (l : List Pr) : ∀ o : List Pr, RiseP o → OkP o → RiseP (l.foldl (fun o p => putP o p.k p.v) o) ∧ OkP (l.foldl (fun o p => putP o p.k p.v) o) ∧ (l.foldl (fun o p => putP o p.k p.v) o).length ≤ o.length + l.length := by
  induction l with
  | nil => intro o h1 h2; exact ⟨h1, h2, by simp⟩
  | cons p l ih =>
    intro o h1 h2
    obtain ⟨a, b, c⟩ := ih (putP o p.k p.v) (rise_putP h1 _ _) (fun x hx => by
      rcases putP_mem hx with ⟨rfl, hs⟩ | hx
      · exact hs
      · exact h2 x hx)
    have := put_len' o p.k p.v
    exact ⟨a, b, by simp only [List.foldl_cons, List.length_cons] at c ⊢; omega⟩
theorem sorted_ok (l : List Pr) : RiseP (sortedP l) ∧ OkP (sortedP l) ∧ (sortedP l).length ≤ l.length := by
  have := sorted_facts l [] List.Pairwise.nil (by simp [OkP])
  simpa [sortedP] using this
structure CF (x y : List Pr) (c : Ch) : Prop where
  del : c.d = true → c.v = [] ∧ (∃ q ∈ x, q.k = c.k) ∧ ∀ q ∈ y, ¬ q.k = c.k
  put : c.d = false → (⟨c.k, c.v⟩ : Pr) ∈ y ∧ ∀ q ∈ x, q.k = c.k → ¬ q.v = c.v
theorem CF.key {x y : List Pr} {c : Ch} (h : CF x y c) : ∃ q, (q ∈ x ∨ q ∈ y) ∧ q.k = c.k := by
  cases hd : c.d with
  | true => obtain ⟨-, ⟨q, hq, e⟩, -⟩ := h.del hd; exact ⟨q, .inl hq, e⟩
  | false => exact ⟨⟨c.k, c.v⟩, .inr (h.put hd).1, rfl⟩
end Go.Proofs.Ytobokfclaooloaa.Batch
end
section
set_option linter.unusedSimpArgs false
set_option linter.unusedVariables false
set_option maxRecDepth 10000
namespace Go.Proofs.Ytobokfclaooloaa.Space
open Go Go.Av Go.Proofs Go.Proofs.Ytobokfclaooloaa.C Go.Proofs.Ytobokfclaooloaa.Batch
theorem longV_iff {v : Ver} : longV v = false ↔ v.v.length ≤ 199 := by
  unfold longV; simp only [decide_eq_false_iff_not]; omega
theorem mayI_iff {x : It} : mayI x = true ↔ x.1.length ≤ 120 ∧ 0 < x.2.length ∧ chB x.2 = true ∧ ∀ v ∈ x.2, v.v.length ≤ 199 := by
  unfold mayI
  simp only [Bool.and_eq_true, decide_eq_true_eq, Bool.not_eq_true', List.any_eq_false]
  constructor
  · rintro ⟨⟨⟨h1, h2⟩, h3⟩, h4⟩
    exact ⟨by omega, h2, h3, fun v hv => longV_iff.1 (by simpa using h4 v hv)⟩
  · rintro ⟨h1, h2, h3, h4⟩
    exact ⟨⟨⟨by omega, h2⟩, h3⟩, fun v hv => by rw [longV_iff.2 (h4 v hv)]; simp⟩
theorem okL_at {l : List It} (h : okL l = true) {j : Nat} (hj : j < l.length) : itOk l j = true := List.all_eq_true.1 h j (List.mem_range.2 hj)
theorem okL_may {l : List It} (h : okL l = true) {j : Nat} (hj : j < l.length) : mayI (l.getD j default) = true := by
  have := okL_at h hj
  unfold itOk at this
  exact (Bool.and_eq_true _ _ ▸ this).1
theorem chB_ok {l : List Ver} (h : chB l = true) {j : Nat} (hj : j < l.length) : okV (l.getD j default) = true := by
  have := List.all_eq_true.1 h j (List.mem_range.2 hj)
  unfold vOk at this
  exact (Bool.and_eq_true _ _ ▸ this).1
theorem okV_iff {v : Ver} : okV v = true ↔ 1 ≤ v.t ∧ v.t ≤ 1152921504606846976 ∧ v.v.length ≤ 200 ∧ (v.d = true → v.v = []) := by
  unfold okV
  simp only [Bool.and_eq_true, decide_eq_true_eq, Bool.or_eq_true, Bool.not_eq_true']
  constructor
  · rintro ⟨⟨⟨h1, h2⟩, h3⟩, h4⟩
    exact ⟨h1, h2, by omega, fun h => by rcases h4 with h5 | h5; (rw [h] at h5; cases h5); exact h5⟩
  · rintro ⟨h1, h2, h3, h4⟩
    refine ⟨⟨⟨h1, h2⟩, by omega⟩, ?_⟩
    cases hd : v.d with
    | true => exact .inr (h4 hd)
    | false => exact .inl rfl
theorem sortedP_snoc (a : List Pr) (p : Pr) : sortedP (a ++ [p]) = putP (sortedP a) p.k p.v := by simp [sortedP]
theorem prL_app (a b : List It) : prL (a ++ b) = prL a ++ prL b := by simp [prL]
theorem prL_le (l : List It) (i : Nat) : (prL (l.take i)).length ≤ (prL l).length := by
  have h : prL l = prL (l.take i) ++ prL (l.drop i) := by rw [← prL_app, List.take_append_drop]
  rw [h, List.length_append]; omega
theorem prL_take {l : List It} {i : Nat} (hi : i < l.length) : prL (l.take (i + 1)) = prL (l.take i) ++ prI (l.getD i default) := by
  rw [Av.take_snoc default hi]; simp [prL]
theorem sorted_ls (l : List Pr) : ∀ p ∈ sortedP l, Ls p.k := fun p hp => by
  have := (sorted_ok l).2.1 p hp
  simp only [shut, Bool.or_eq_false_iff, decide_eq_false_iff_not] at this
  unfold Ls; omega
set_option maxHeartbeats 2000000 in
theorem pairsR_p (l : List It) (sl : SmI l) (hp : (prL l).length ≤ 100000) : PCalls Try.prog 8 [.sl 2 (l.map encI) .any] (.tup [.sl 2 (prs (if okL l then sortedP (prL l) else [])) .any, .int .i64 (if okL l then 0 else 2)]) := by
  refine f8.pcalls0 (by simp) (by simp [allPure, isPure, capPure, its_pure]) (by simp [isPure, allPure, capPure, prs_pure]) ?_
  unfold c8
  have hn := sl.n
  have hil : (l.map encI).length = l.length := by simp
  have hm := bmayR_p l sl
  cases hok : okL l with
  | false =>
    rw [hok] at hm
    repeat (first
      | ((first | apply Wp.seqItemsR | apply Wp.itemsR | ((first
          | (refine WpItems.pcall ?_ ?_ (hm) ?_; (· simp only [go_sem, reduceIte, Nat.reduceEqDiff, Nat.reduceAdd, bx]); (· simp only [go_sem, reduceIte, Nat.reduceEqDiff, Nat.reduceAdd, bx, List.map]; first | exact VSubs.refl _ | (repeat (first | exact VSubs.nil | refine VSubs.cons (by first | exact VSub.refl _ | assumption | exact VSub.cap | exact VSub.any _) ?_))))); apply WpItems.evR)); (· simp only [go_sem, reduceIte, Nat.reduceEqDiff, Nat.reduceAdd, bx, ax, if_true, if_false, Nat.reduceMul, Nat.reduceLeDiff, hil, Bool.not_false]; exact rfl))
      | (refine WpItems.nil ⟨?_, ?_⟩; (· first | trivial | simp [pairsQ, pairsOk, apart, ent0]))
      | (apply Wp.cond_lit; (· simp only [go_sem, reduceIte, Nat.reduceEqDiff, Nat.reduceAdd, bx, ax, if_true, if_false, Nat.reduceMul, Nat.reduceLeDiff, hil, Bool.not_false]; exact rfl); (· rfl))
      | refine Wp.skip ?_
      | refine Wp.label ?_
      | refine Wp.block ?_
      | refine Wp.exit ?_
      | refine Wp.seq ?_)
    refine Wp.ret ⟨trivial, _, rfl, ?_⟩
    simp only [go_sem, reduceIte, Nat.reduceEqDiff, Nat.reduceAdd, bx]
    exact VSub.tup (VSubs.cons VSub.cap (VSubs.refl _))
  | true =>
    rw [hok] at hm
    simp only [if_true]
    repeat (first
      | ((first | apply Wp.seqItemsR | apply Wp.itemsR | ((first
          | (refine WpItems.pcall ?_ ?_ (hm) ?_; (· simp only [go_sem, reduceIte, Nat.reduceEqDiff, Nat.reduceAdd, bx]); (· simp only [go_sem, reduceIte, Nat.reduceEqDiff, Nat.reduceAdd, bx, List.map]; first | exact VSubs.refl _ | (repeat (first | exact VSubs.nil | refine VSubs.cons (by first | exact VSub.refl _ | assumption | exact VSub.cap | exact VSub.any _) ?_))))); apply WpItems.evR)); (· simp only [go_sem, reduceIte, Nat.reduceEqDiff, Nat.reduceAdd, bx, ax, if_true, if_false, Nat.reduceMul, Nat.reduceLeDiff, hil, Bool.not_true]; exact rfl))
      | (refine WpItems.nil ⟨?_, ?_⟩; (· first | trivial | simp [pairsQ, pairsOk, apart, ent0]))
      | (apply Wp.cond_lit; (· simp only [go_sem, reduceIte, Nat.reduceEqDiff, Nat.reduceAdd, bx, ax, if_true, if_false, Nat.reduceMul, Nat.reduceLeDiff, hil, Bool.not_true]; exact rfl); (· rfl))
      | refine Wp.skip ?_
      | refine Wp.label ?_
      | refine Wp.block ?_
      | refine Wp.exit ?_
      | refine Wp.seq ?_)
    refine Wp.loopN (β := Nat) [0] (by simp only [go_sem, reduceIte, Nat.reduceEqDiff, List.map]; exact rfl) (fun i => [(4, .sl 2 (prs (sortedP (prL (l.take i)))) .any), (5, .int .i64 (i : Nat))]) (fun i => i ≤ l.length) (fun i => l.length - i) 0 (Nat.zero_le _) ?_ ?_
    · simp only [AllSub, go_sem, reduceIte, Nat.reduceEqDiff, Nat.reduceAdd, bx]; and_intros <;> first | exact trivial | exact VSub.refl _ | exact VSub.any _ | exact VSub.cap | (refine VSub.int ?_; omega)
    intro i n' hn2 hi
    by_cases hc : i < l.length
    · have g1 : decide (((i : Nat) : Int) < ((l.length : Nat) : Int)) = true := decide_eq_true (by omega)
      have h2 : (0 : Int) ≤ ((i : Nat) : Int) := by omega
      have h3 : ((i : Nat) : Int) < ((l.length : Nat) : Int) := by omega
      have e1 : IntKind.i64.wrap (((i : Nat) : Int) + 1) = ((i + 1 : Nat) : Int) := by rw [IntWalk.i64_in _ (by omega)]; omega
      have hat := enc_at encI l i .any hc
      obtain ⟨lk, lv⟩ := sl.at hc
      obtain ⟨m1, m2, m3, m4⟩ := mayI_iff.1 (okL_may hok hc)
      have htk := prL_take hc
      have hle := prL_le l (i + 1)
      rw [htk, List.length_append] at hle
      have hpi : (prI (l.getD i default)).length = (l.getD i default).2.length := by simp [prI]
      generalize l.getD i default = x at *
      repeat (first
        | ((first | apply Wp.seqItemsR | apply Wp.itemsR); (· simp only [go_sem, reduceIte, Nat.reduceEqDiff, Nat.reduceAdd, bx, ax, if_true, if_false, Nat.reduceMul, Nat.reduceLeDiff, hil, g1, h2, h3, hat, encI, vAV, List.length_map]; exact rfl))
        | (refine WpItems.nil ⟨?_, ?_⟩; (· first | trivial | simp [pairsQ, pairsOk, apart, ent0]))
        | (apply Wp.cond_lit; (· simp only [go_sem, reduceIte, Nat.reduceEqDiff, Nat.reduceAdd, bx, ax, if_true, if_false, Nat.reduceMul, Nat.reduceLeDiff, hil, g1, h2, h3, hat, encI, vAV, List.length_map]; exact rfl); (· rfl))
        | refine Wp.skip ?_
        | refine Wp.label ?_
        | refine Wp.block ?_
        | refine Wp.exit ?_
        | refine Wp.seq ?_)
      refine Wp.loopN (β := Nat) [0, 5] (by simp only [go_sem, reduceIte, Nat.reduceEqDiff, List.map]; exact rfl) (fun k => [(4, .sl 2 (prs (sortedP (prL (l.take i) ++ (x.2.take k).map (prV x.1)))) .any), (6, .int .i64 (k : Nat))]) (fun k => k ≤ x.2.length) (fun k => x.2.length - k) 0 (Nat.zero_le _) ?_ ?_
      · simp only [AllSub, go_sem, reduceIte, Nat.reduceEqDiff, Nat.reduceAdd, bx]; and_intros <;> first | exact trivial | exact VSub.refl _ | exact VSub.any _ | exact VSub.of_eq (by simp) | (refine VSub.int ?_; omega)
      intro k n hn1 hk
      have n0 : True := trivial
      by_cases hkc : k < x.2.length
      · have kg1 : decide (((k : Nat) : Int) < ((x.2.length : Nat) : Int)) = true := decide_eq_true (by omega)
        have kh2 : (0 : Int) ≤ ((k : Nat) : Int) := by omega
        have kh3 : ((k : Nat) : Int) < ((x.2.length : Nat) : Int) := by omega
        have ke1 : IntKind.i64.wrap (((k : Nat) : Int) + 1) = ((k + 1 : Nat) : Int) := by rw [IntWalk.i64_in _ (by omega)]; omega
        have kat := enc_at encV x.2 k .any hkc
        have hv := okV_iff.1 (chB_ok m3 hkc)
        have hvl := m4 (x.2.getD k default) (by rw [Av.getD_el hkc]; exact List.getElem_mem hkc)
        have htv : x.2.take (k + 1) = x.2.take k ++ [x.2.getD k default] := Av.take_snoc default hkc
        have hsn : sortedP (prL (l.take i) ++ (x.2.take (k + 1)).map (prV x.1)) = putP (sortedP (prL (l.take i) ++ (x.2.take k).map (prV x.1))) (prV x.1 (x.2.getD k default)).k (prV x.1 (x.2.getD k default)).v := by
          rw [htv, List.map_append, ← List.append_assoc, ← sortedP_snoc]; rfl
        have hlen : (sortedP (prL (l.take i) ++ (x.2.take k).map (prV x.1))).length ≤ 1000000 := by
          have := (sorted_ok (prL (l.take i) ++ (x.2.take k).map (prV x.1))).2.2
          simp only [List.length_append, List.length_map, List.length_take] at this
          omega
        have hls := sorted_ls (prL (l.take i) ++ (x.2.take k).map (prV x.1))
        generalize sortedP (prL (l.take i) ++ (x.2.take k).map (prV x.1)) = o at *
        generalize x.2.getD k default = v at *
        have w1 : IntKind.i64.wrap (1152921504606846976 - v.t) = (((1152921504606846976 - v.t).toNat : Nat) : Int) := by rw [IntWalk.i64_in _ (by omega)]; omega
        have hf := fieldR_p (1152921504606846976 - v.t).toNat (by omega) 8 (by omega)
        have hbl : (be 8 (1152921504606846976 - v.t).toNat).length = 8 := be_length _ _
        have hpk : (prV x.1 v).k = x.1 ++ be 8 (1152921504606846976 - v.t).toNat := rfl
        have hgv : 1 + v.v.length < 9223372036854775808 := by omega
        have hgk : x.1.length + 8 < 9223372036854775808 := by omega
        have hput := putP_p o hlen hls (prV x.1 v).k (prV x.1 v).v (by rw [hpk]; unfold Ls; rw [List.length_append, hbl]; omega)
        rw [hpk] at hput hsn
        have hpv : (prV x.1 v).v = vval v := rfl
        rw [hpv] at hput hsn
        generalize (1152921504606846976 - v.t).toNat = T at *
        cases hd : v.d with
        | true =>
          have hvv : vval v = [0] := by simp [vval, hd]
          rw [hvv] at hput hsn
          repeat (first
            | ((first | apply Wp.seqItemsR | apply Wp.itemsR | ((first
                | (refine WpItems.pcall ?_ ?_ (hf) ?_; (· simp only [go_sem, reduceIte, Nat.reduceEqDiff, Nat.reduceAdd, bx]); (· simp only [go_sem, reduceIte, Nat.reduceEqDiff, Nat.reduceAdd, bx, List.map]; first | exact VSubs.refl _ | (repeat (first | exact VSubs.nil | refine VSubs.cons (by first | exact VSub.refl _ | assumption | exact VSub.cap | exact VSub.any _) ?_))))
                | (refine WpItems.pcall ?_ ?_ (hput) ?_; (· simp only [go_sem, reduceIte, Nat.reduceEqDiff, Nat.reduceAdd, bx]); (· simp only [go_sem, reduceIte, Nat.reduceEqDiff, Nat.reduceAdd, bx, List.map]; first | exact VSubs.refl _ | (repeat (first | exact VSubs.nil | refine VSubs.cons (by first | exact VSub.refl _ | assumption | exact VSub.cap | exact VSub.any _) ?_))))); apply WpItems.evR)); (· simp only [go_sem, reduceIte, Nat.reduceEqDiff, Nat.reduceAdd, bx, ax, if_true, if_false, Nat.reduceMul, Nat.reduceLeDiff, hil, kg1, kh2, kh3, g1, h2, h3, hat, kat, encI, vAV, encV, hd, hgv, hgk, hbl, w1, ke1, List.length_map, List.length_cons, List.length_nil, Nat.zero_add, List.cons_append, List.nil_append]; exact rfl))
            | (refine WpItems.nil ⟨?_, ?_⟩; (· first | trivial | simp [pairsQ, pairsOk, apart, ent0]))
            | (apply Wp.cond_lit; (· simp only [go_sem, reduceIte, Nat.reduceEqDiff, Nat.reduceAdd, bx, ax, if_true, if_false, Nat.reduceMul, Nat.reduceLeDiff, hil, kg1, kh2, kh3, g1, h2, h3, hat, kat, encI, vAV, encV, hd, hgv, hgk, hbl, w1, ke1, List.length_map, List.length_cons, List.length_nil, Nat.zero_add, List.cons_append, List.nil_append]; exact rfl); (· rfl))
            | refine Wp.skip ?_
            | refine Wp.label ?_
            | refine Wp.block ?_
            | refine Wp.exit ?_
            | refine Wp.seq ?_)
          refine ⟨k + 1, n + 1, by omega, by omega, by omega, ?_⟩
          refine StLe.tmN (by omega) (OLe.none _) (by simp only [AllSub, go_sem, reduceIte, Nat.reduceEqDiff, Nat.reduceAdd, bx]; and_intros <;> first | exact trivial | exact VSub.refl _ | exact VSub.any _ | exact VSub.of_eq (by rw [hsn]) | (refine VSub.int ?_; omega))
        | false =>
          have hvv : vval v = 1 :: v.v := by simp [vval, hd]
          rw [hvv] at hput hsn
          repeat (first
            | ((first | apply Wp.seqItemsR | apply Wp.itemsR | ((first
                | (refine WpItems.pcall ?_ ?_ (hf) ?_; (· simp only [go_sem, reduceIte, Nat.reduceEqDiff, Nat.reduceAdd, bx]); (· simp only [go_sem, reduceIte, Nat.reduceEqDiff, Nat.reduceAdd, bx, List.map]; first | exact VSubs.refl _ | (repeat (first | exact VSubs.nil | refine VSubs.cons (by first | exact VSub.refl _ | assumption | exact VSub.cap | exact VSub.any _) ?_))))
                | (refine WpItems.pcall ?_ ?_ (hput) ?_; (· simp only [go_sem, reduceIte, Nat.reduceEqDiff, Nat.reduceAdd, bx]); (· simp only [go_sem, reduceIte, Nat.reduceEqDiff, Nat.reduceAdd, bx, List.map]; first | exact VSubs.refl _ | (repeat (first | exact VSubs.nil | refine VSubs.cons (by first | exact VSub.refl _ | assumption | exact VSub.cap | exact VSub.any _) ?_))))); apply WpItems.evR)); (· simp only [go_sem, reduceIte, Nat.reduceEqDiff, Nat.reduceAdd, bx, ax, if_true, if_false, Nat.reduceMul, Nat.reduceLeDiff, hil, kg1, kh2, kh3, g1, h2, h3, hat, kat, encI, vAV, encV, hd, hgv, hgk, hbl, w1, ke1, List.length_map, List.length_cons, List.length_nil, Nat.zero_add, List.cons_append, List.nil_append]; exact rfl))
            | (refine WpItems.nil ⟨?_, ?_⟩; (· first | trivial | simp [pairsQ, pairsOk, apart, ent0]))
            | (apply Wp.cond_lit; (· simp only [go_sem, reduceIte, Nat.reduceEqDiff, Nat.reduceAdd, bx, ax, if_true, if_false, Nat.reduceMul, Nat.reduceLeDiff, hil, kg1, kh2, kh3, g1, h2, h3, hat, kat, encI, vAV, encV, hd, hgv, hgk, hbl, w1, ke1, List.length_map, List.length_cons, List.length_nil, Nat.zero_add, List.cons_append, List.nil_append]; exact rfl); (· rfl))
            | refine Wp.skip ?_
            | refine Wp.label ?_
            | refine Wp.block ?_
            | refine Wp.exit ?_
            | refine Wp.seq ?_)
          refine ⟨k + 1, n + 1, by omega, by omega, by omega, ?_⟩
          refine StLe.tmN (by omega) (OLe.none _) (by simp only [AllSub, go_sem, reduceIte, Nat.reduceEqDiff, Nat.reduceAdd, bx]; and_intros <;> first | exact trivial | exact VSub.refl _ | exact VSub.any _ | exact VSub.of_eq (by rw [hsn]) | (refine VSub.int ?_; omega))
      · obtain rfl : k = x.2.length := by omega
        have kg1 : decide ((x.2.length : Int) < (x.2.length : Int)) = false := decide_eq_false (by omega)
        repeat (first
          | ((first | apply Wp.seqItemsR | apply Wp.itemsR); (· simp only [go_sem, reduceIte, Nat.reduceEqDiff, Nat.reduceAdd, bx, ax, if_true, if_false, Nat.reduceMul, Nat.reduceLeDiff, hil, g1, h2, h3, hat, encI, vAV, List.length_map, kg1, e1]; exact rfl))
          | (refine WpItems.nil ⟨?_, ?_⟩; (· first | trivial | simp [pairsQ, pairsOk, apart, ent0]))
          | (apply Wp.cond_lit; (· simp only [go_sem, reduceIte, Nat.reduceEqDiff, Nat.reduceAdd, bx, ax, if_true, if_false, Nat.reduceMul, Nat.reduceLeDiff, hil, g1, h2, h3, hat, encI, vAV, List.length_map, kg1, e1]; exact rfl); (· rfl))
          | refine Wp.skip ?_
          | refine Wp.label ?_
          | refine Wp.block ?_
          | refine Wp.exit ?_
          | refine Wp.seq ?_)
        refine ⟨i + 1, n, by simp only at hn1 hn2 ⊢; omega, by omega, by omega, ?_⟩
        refine StLe.tmN (by omega) (OLe.none _) (by simp only [AllSub, go_sem, reduceIte, Nat.reduceEqDiff, Nat.reduceAdd, bx]; and_intros <;> first | exact trivial | exact VSub.refl _ | exact VSub.any _ | exact VSub.of_eq (by rw [htk, List.take_length]; rfl) | (refine VSub.int ?_; omega))
    · obtain rfl : i = l.length := by omega
      have g1 : decide (((l.length : Nat) : Int) < ((l.length : Nat) : Int)) = false := decide_eq_false (by omega)
      repeat (first
        | ((first | apply Wp.seqItemsR | apply Wp.itemsR); (· simp only [go_sem, reduceIte, Nat.reduceEqDiff, Nat.reduceAdd, bx, ax, if_true, if_false, Nat.reduceMul, Nat.reduceLeDiff, hil, g1]; exact rfl))
        | (refine WpItems.nil ⟨?_, ?_⟩; (· first | trivial | simp [pairsQ, pairsOk, apart, ent0]))
        | (apply Wp.cond_lit; (· simp only [go_sem, reduceIte, Nat.reduceEqDiff, Nat.reduceAdd, bx, ax, if_true, if_false, Nat.reduceMul, Nat.reduceLeDiff, hil, g1]; exact rfl); (· rfl))
        | refine Wp.skip ?_
        | refine Wp.label ?_
        | refine Wp.block ?_
        | refine Wp.exit ?_
        | refine Wp.seq ?_)
      refine Wp.ret ⟨trivial, _, rfl, ?_⟩
      simp only [go_sem, reduceIte, Nat.reduceEqDiff, Nat.reduceAdd, bx]
      rw [List.take_length]; exact VSub.refl _
end Go.Proofs.Ytobokfclaooloaa.Space
end
section
set_option linter.unusedSimpArgs false
set_option linter.unusedVariables false
set_option maxRecDepth 10000
namespace Go.Proofs.Ytobokfclaooloaa.Space
open Go Go.Av Go.Proofs Go.Proofs.Ytobokfclaooloaa.C Go.Proofs.Ytobokfclaooloaa.Batch
def vOkR (p : Pr) : Bool := vFit p && decide (0 ≤ vT p) && decide (vT p ≤ 1152921504606846976)
def itR (l : List Pr) : List It := l.foldl (fun o p => wiL o (vK p) (vV p)) []
theorem itR_snoc (a : List Pr) (p : Pr) : itR (a ++ [p]) = wiL (itR a) (vK p) (vV p) := by simp [itR]
def rOkI (l : List Pr) : Bool := l.all vOkR && okL (itR l) && decide (sortedP (prL (itR l)) = l)
theorem wiG_mem {q : Bs} {v : Ver} : ∀ {l : List It} {b : Bool} {x : It}, x ∈ wiG q v b l → x = (q, [v]) ∨ x ∈ l ∨ ∃ y ∈ l, y.1 = q ∧ x = (y.1, plV y.2 v)
  | [], b, x, h => by
    cases b <;> simp [wiG] at h
    exact .inl h
  | y :: l, b, x, h => by
    rw [wiG, List.mem_append, List.mem_cons] at h
    rcases h with h | h | h
    · split at h
      · exact .inl (by simpa using h)
      · simp at h
    · split at h
      · rename_i hc
        exact .inr (.inr ⟨y, by simp, hc.2.2, h⟩)
      · exact .inr (.inl (by simp [h]))
    · rcases wiG_mem h with h | h | ⟨z, hz, h⟩
      · exact .inl h
      · exact .inr (.inl (by simp [h]))
      · exact .inr (.inr ⟨z, by simp [hz], h⟩)
theorem wiG_len (q : Bs) (v : Ver) : ∀ (l : List It) (b : Bool), (wiG q v b l).length ≤ l.length + (if b then 0 else 1)
  | [], b => by cases b <;> simp [wiG]
  | y :: l, b => by
    have h1 := wiG_len q v l true
    have h2 := wiG_len q v l false
    simp only [if_true, if_false, Bool.false_eq_true, Nat.add_zero] at h1 h2
    rw [wiG]
    cases b <;> cases Op.bytesLess y.1 q <;> by_cases hk : y.1 = q <;> simp [hk] <;> omega
theorem wiG_cnt (q : Bs) (v : Ver) : ∀ (l : List It) (b : Bool), (prL (wiG q v b l)).length ≤ (prL l).length + (if b then 0 else 1)
  | [], b => by cases b <;> simp [wiG, prL, prI]
  | y :: l, b => by
    have h1 := wiG_cnt q v l true
    have h2 := wiG_cnt q v l false
    have h3 := plG_len v y.2 false
    simp only [if_true, if_false, Bool.false_eq_true, Nat.add_zero] at h1 h2
    have e : ∀ (z : It) (m : List It), (prL (z :: m)).length = z.2.length + (prL m).length := fun z m => by simp [prL, prI]
    rw [wiG]
    cases b <;> cases Op.bytesLess y.1 q <;> by_cases hk : y.1 = q <;> simp [hk, e, plV] <;> omega
theorem snocInd {α : Type} {P : List α → Prop} (h0 : P []) (h1 : ∀ a x, P a → P (a ++ [x])) (l : List α) : P l := by
  have h : ∀ m : List α, P m.reverse := fun m => by
    induction m with
    | nil => exact h0
    | cons x m ih => rw [List.reverse_cons]; exact h1 _ x ih
  have := h l.reverse
  rwa [List.reverse_reverse] at this
theorem itR_sm (l : List Pr) (hk : ∀ p ∈ l, Ls p.k) : (itR l).length ≤ l.length ∧ (∀ x ∈ itR l, Ls x.1) ∧ (∀ x ∈ itR l, x.2.length ≤ l.length) ∧ (prL (itR l)).length ≤ l.length := by
  revert hk
  refine snocInd (P := fun l => (∀ p ∈ l, Ls p.k) → (itR l).length ≤ l.length ∧ (∀ x ∈ itR l, Ls x.1) ∧ (∀ x ∈ itR l, x.2.length ≤ l.length) ∧ (prL (itR l)).length ≤ l.length) (fun _ => by simp [itR, prL]) (fun a p ih hk => ?_) l
  · obtain ⟨i1, i2, i3, i4⟩ := ih fun p hp => hk p (by simp [hp])
    rw [itR_snoc]
    have hp := hk p (by simp)
    have hK : Ls (vK p) := by unfold vK Ls at *; rw [List.length_take]; omega
    have e1 := wiG_len (vK p) (vV p) (itR a) false
    have e2 := wiG_cnt (vK p) (vV p) (itR a) false
    simp only [if_false, Bool.false_eq_true] at e1 e2
    refine ⟨by simp only [wiL, List.length_append, List.length_cons, List.length_nil]; omega, fun x hx => ?_, fun x hx => ?_, by simp only [wiL, List.length_append, List.length_cons, List.length_nil]; omega⟩
    · rcases wiG_mem hx with rfl | h | ⟨y, hy, h1, rfl⟩
      · exact hK
      · exact i2 x h
      · exact i2 y hy
    · simp only [List.length_append, List.length_cons, List.length_nil]
      rcases wiG_mem hx with rfl | h | ⟨y, hy, h1, rfl⟩
      · simp
      · have := i3 x h; omega
      · have := i3 y hy
        have := plG_len (vV p) y.2 false
        simp only [plV]; omega
theorem all_off {l : List Pr} {f : Pr → Bool} {j : Nat} (hj : j < l.length) (h : f (l.getD j default) = false) : l.all f = false := by
  refine List.all_eq_false.2 ⟨_, List.getElem_mem hj, ?_⟩
  rw [Av.getD_el hj] at h; simp [h]
theorem all_on {l : List Pr} {f : Pr → Bool} (h : ∀ i, i < l.length → f (l.getD i default) = true) : l.all f = true := by
  refine List.all_eq_true.2 fun x hx => ?_
  obtain ⟨i, hi, rfl⟩ := List.mem_iff_getElem.1 hx
  have := h i hi
  rwa [Av.getD_el hi] at this
set_option maxHeartbeats 4000000 in
theorem itemsR_p (l : List Pr) (hl : l.length ≤ 100000) (hk : ∀ p ∈ l, p.k.length ≤ 140737488355328 ∧ p.v.length ≤ 140737488355328) : PCalls Try.prog 10 [.sl 2 (prs l) .any] (.tup [.sl 2 ((if rOkI l then itR l else []).map encI) .any, .int .i64 (if rOkI l then 0 else 4)]) := by
  refine f10.pcalls0 (by simp) (by simp [allPure, isPure, capPure, prs_pure]) (by simp [isPure, allPure, capPure, its_pure]) ?_
  unfold c10
  have lsk : ∀ p ∈ l, Ls p.k := fun p hp => by have := (hk p hp).1; unfold Ls; omega
  have bad : rOkI l = false → VSub (.tup [.sl 2 [] (.exact 0), .int .i64 4]) (.tup [.sl 2 ((if rOkI l then itR l else []).map encI) .any, .int .i64 (if rOkI l then 0 else 4)]) := fun h => by
    rw [h]; exact VSub.tup (VSubs.cons VSub.cap (VSubs.refl _))
  repeat (first
    | ((first | apply Wp.seqItemsR | apply Wp.itemsR); (· simp only [go_sem, reduceIte, Nat.reduceEqDiff, Nat.reduceAdd, bx, ax, if_true, if_false, Nat.reduceMul, Nat.reduceLeDiff, prs_length]; exact rfl))
    | (refine WpItems.nil ⟨?_, ?_⟩; (· first | trivial | simp [pairsQ, pairsOk, apart, ent0]))
    | (apply Wp.cond_lit; (· simp only [go_sem, reduceIte, Nat.reduceEqDiff, Nat.reduceAdd, bx, ax, if_true, if_false, Nat.reduceMul, Nat.reduceLeDiff, prs_length]; exact rfl); (· rfl))
    | refine Wp.skip ?_
    | refine Wp.label ?_
    | refine Wp.block ?_
    | refine Wp.exit ?_
    | refine Wp.seq ?_)
  refine Wp.loopK [0] (by simp only [go_sem, reduceIte, Nat.reduceEqDiff, Nat.reduceAdd, bx, List.map]; exact rfl) (fun j : Nat => [(4, .sl 2 ((itR (l.take j)).map encI) .any), (5, .int .i64 (j : Nat))]) (fun j => j ≤ l.length ∧ ∀ i, i < j → vOkR (l.getD i default) = true) (fun j => l.length - j) 0 ⟨Nat.zero_le _, fun i h => absurd h (by omega)⟩ ?_ ?_
  · simp only [AllSub, go_sem, reduceIte, Nat.reduceEqDiff, Nat.reduceAdd, bx]; and_intros <;> first | exact trivial | exact VSub.refl _ | exact VSub.any _ | exact VSub.cap | (refine VSub.int ?_; omega)
  rintro j ⟨hj, hs⟩
  by_cases hc : j < l.length
  · have g1 : decide (((j : Nat) : Int) < ((l.length : Nat) : Int)) = true := decide_eq_true (by omega)
    have h2 : (0 : Int) ≤ ((j : Nat) : Int) := by omega
    have h3 : ((j : Nat) : Int) < ((l.length : Nat) : Int) := by omega
    have e1 : IntKind.i64.wrap (((j : Nat) : Int) + 1) = ((j + 1 : Nat) : Int) := by rw [IntWalk.i64_in _ (by omega)]; omega
    have hat : (prs l).getD j .any = encPr (l.getD j default) := prs_getD l j .any hc
    have hm : l.getD j default ∈ l := by rw [Av.getD_el hc]; exact List.getElem_mem hc
    obtain ⟨k1, k2⟩ := hk _ hm
    have no : vOkR (l.getD j default) = false → rOkI l = false := fun h => by rw [rOkI, all_off hc h]; rfl
    have hsm := itR_sm (l.take j) fun p hp => lsk p (List.mem_of_mem_take hp)
    have hlt : (l.take j).length ≤ j := by rw [List.length_take]; omega
    have htk : l.take (j + 1) = l.take j ++ [l.getD j default] := Av.take_snoc default hc
    have hsn := itR_snoc (l.take j) (l.getD j default)
    rw [← htk] at hsn
    have SM : SmI (itR (l.take j)) := ⟨by omega, hsm.2.1, fun p hp => by have := hsm.2.2.1 p hp; omega⟩
    have hKl : Ls (vK (l.getD j default)) := by have := lsk _ hm; unfold vK Ls at *; rw [List.length_take]; omega
    have hw := bwith_p (itR (l.take j)) SM (vK (l.getD j default)) hKl (vV (l.getD j default))
    have hstep : ∀ i, vOkR (l.getD j default) = true → i < j + 1 → vOkR (l.getD i default) = true := fun i h hi => by
      rcases Nat.lt_or_ge i j with h1 | h1
      · exact hs i h1
      · rw [show i = j by omega]; exact h
    generalize l.getD j default = p at *
    by_cases h1 : 8 ≤ p.k.length
    · have w1 : IntKind.i64.wrap ((p.k.length : Int) - 8) = ((p.k.length - 8 : Nat) : Int) := by rw [IntWalk.i64_in _ (by omega)]; omega
      have d1 : decide (((p.k.length - 8 : Nat) : Int) < 0) = false := decide_eq_false (by omega)
      by_cases h4 : p.v = []
      · have d2 := decide_eq_true h4
        repeat (first
          | ((first | apply Wp.seqItemsR | apply Wp.itemsR); (· simp only [go_sem, reduceIte, Nat.reduceEqDiff, Nat.reduceAdd, bx, ax, if_true, if_false, Nat.reduceMul, Nat.reduceLeDiff, prs_length, g1, h2, h3, hat, encPr, w1, d1, d2]; exact rfl))
          | (refine WpItems.nil ⟨?_, ?_⟩; (· first | trivial | simp [pairsQ, pairsOk, apart, ent0]))
          | (apply Wp.cond_lit; (· simp only [go_sem, reduceIte, Nat.reduceEqDiff, Nat.reduceAdd, bx, ax, if_true, if_false, Nat.reduceMul, Nat.reduceLeDiff, prs_length, g1, h2, h3, hat, encPr, w1, d1, d2]; exact rfl); (· rfl))
          | refine Wp.skip ?_
          | refine Wp.label ?_
          | refine Wp.block ?_
          | refine Wp.exit ?_
          | refine Wp.seq ?_)
        refine Wp.ret ⟨trivial, _, rfl, ?_⟩
        simp only [go_sem, reduceIte, Nat.reduceEqDiff, Nat.reduceAdd, bx]
        exact bad (no (by simp [vOkR, vFit, h4]))
      have d2 := decide_eq_false h4
      have l0 : (0 : Int) < (p.v.length : Int) := by have := List.length_pos_iff.2 h4; omega
      have q0 : (0 : Int) ≤ 0 := Int.le_refl _
      have hb := byte_gt (p.v.getD 0 0)
      by_cases h5 : (p.v.getD 0 0).toNat ≤ 1
      · rw [decide_eq_true h5] at hb
        have o1 : (0 : Int) ≤ ((p.k.length - 8 : Nat) : Int) := by omega
        have o2 : ((p.k.length - 8 : Nat) : Int) ≤ (p.k.length : Int) := by omega
        have hnum := numberR_p p.k (p.k.length - 8) 8 k1 (by omega) (by omega)
        have hT : i64 ((p.k.drop (p.k.length - 8)).take 8) = vT p := by
          unfold vT vN
          rw [List.take_of_length_le (by simp; omega)]
        rw [hT] at hnum
        by_cases h6 : 0 ≤ vT p
        · have d4 : decide (vT p < 0) = false := decide_eq_false (by omega)
          by_cases h7 : vT p ≤ 1152921504606846976
          · have d5 : decide ((1152921504606846976 : Int) < vT p) = false := decide_eq_false (by omega)
            have w2 : IntKind.i64.wrap (1152921504606846976 - vT p) = 1152921504606846976 - vT p := IntWalk.i64_in _ (by omega)
            have b0 := byte_is0 (p.v.getD 0 0)
            have l1 : (1 : Int) ≤ (p.v.length : Int) := by omega
            have q1 : (0 : Int) ≤ 1 := by omega
            have q2 : (1 : Int).toNat = 1 := rfl
            have hok : vOkR p = true := by simp [vOkR, vFit, h1, h4, h6, h7]; simpa using h5
            have eK : p.k.take (p.k.length - 8) = vK p := rfl
            have eV : (p.v.take p.v.length).drop 1 = p.v.drop 1 := by rw [List.take_length]
            simp only [vV, encV] at hw
            repeat (first
              | ((first | apply Wp.seqItemsR | apply Wp.itemsR | ((first
                  | (refine WpItems.pcall ?_ ?_ (hnum) ?_; (· simp only [go_sem, reduceIte, Nat.reduceEqDiff, Nat.reduceAdd, bx]); (· simp only [go_sem, reduceIte, Nat.reduceEqDiff, Nat.reduceAdd, bx, List.map]; first | exact VSubs.refl _ | (repeat (first | exact VSubs.nil | refine VSubs.cons (by first | exact VSub.refl _ | assumption | exact VSub.cap | exact VSub.any _) ?_))))); apply WpItems.evR)); (· simp only [go_sem, reduceIte, Nat.reduceEqDiff, Nat.reduceAdd, bx, ax, if_true, if_false, Nat.reduceMul, Nat.reduceLeDiff, prs_length, g1, h2, h3, hat, encPr, w1, d1, d2, l0, q0, byte, hb, Int.toNat_zero, Int.toNat_natCast]; exact rfl))
              | (refine WpItems.nil ⟨?_, ?_⟩; (· first | trivial | simp [pairsQ, pairsOk, apart, ent0]))
              | (apply Wp.cond_lit; (· simp only [go_sem, reduceIte, Nat.reduceEqDiff, Nat.reduceAdd, bx, ax, if_true, if_false, Nat.reduceMul, Nat.reduceLeDiff, prs_length, g1, h2, h3, hat, encPr, w1, d1, d2, l0, q0, byte, hb, Int.toNat_zero, Int.toNat_natCast]; exact rfl); (· rfl))
              | refine Wp.skip ?_
              | refine Wp.label ?_
              | refine Wp.block ?_
              | refine Wp.exit ?_
              | refine Wp.seq ?_)
            repeat (first
              | ((first | apply Wp.seqItemsR | apply Wp.itemsR); (· simp only [go_sem, reduceIte, Nat.reduceEqDiff, Nat.reduceAdd, bx, ax, if_true, if_false, Nat.reduceMul, Nat.reduceLeDiff, d4, d5]; exact rfl))
              | (refine WpItems.nil ⟨?_, ?_⟩; (· first | trivial | simp [pairsQ, pairsOk, apart, ent0]))
              | (apply Wp.cond_lit; (· simp only [go_sem, reduceIte, Nat.reduceEqDiff, Nat.reduceAdd, bx, ax, if_true, if_false, Nat.reduceMul, Nat.reduceLeDiff, d4, d5]; exact rfl); (· rfl))
              | refine Wp.skip ?_
              | refine Wp.label ?_
              | refine Wp.block ?_
              | refine Wp.exit ?_
              | refine Wp.seq ?_)
            repeat (first
              | ((first | apply Wp.seqItemsR | apply Wp.itemsR | ((first
                  | (refine WpItems.pcall ?_ ?_ (hw) ?_; (· simp only [go_sem, reduceIte, Nat.reduceEqDiff, Nat.reduceAdd, bx]); (· simp only [go_sem, reduceIte, Nat.reduceEqDiff, Nat.reduceAdd, bx, List.map]; first | exact VSubs.refl _ | (repeat (first | exact VSubs.nil | refine VSubs.cons (by first | exact VSub.refl _ | assumption | exact VSub.cap | exact VSub.any _) ?_))))); apply WpItems.evR)); (· simp only [go_sem, reduceIte, Nat.reduceEqDiff, Nat.reduceAdd, bx, ax, if_true, if_false, Nat.reduceMul, Nat.reduceLeDiff, prs_length, g1, h2, h3, hat, encPr, w2, b0, l0, l1, q0, q1, q2, o1, o2, byte, Int.toNat_natCast, Int.toNat_zero, eK, eV, List.drop_zero, e1]; exact rfl))
              | (refine WpItems.nil ⟨?_, ?_⟩; (· first | trivial | simp [pairsQ, pairsOk, apart, ent0]))
              | (apply Wp.cond_lit; (· simp only [go_sem, reduceIte, Nat.reduceEqDiff, Nat.reduceAdd, bx, ax, if_true, if_false, Nat.reduceMul, Nat.reduceLeDiff, prs_length, g1, h2, h3, hat, encPr, w2, b0, l0, l1, q0, q1, q2, o1, o2, byte, Int.toNat_natCast, Int.toNat_zero, eK, eV, List.drop_zero, e1]; exact rfl); (· rfl))
              | refine Wp.skip ?_
              | refine Wp.label ?_
              | refine Wp.block ?_
              | refine Wp.exit ?_
              | refine Wp.seq ?_)
            refine ⟨j + 1, ⟨by omega, fun i hi => hstep i hok hi⟩, by omega, ?_⟩
            refine StLe.tm (by simp only [AllSub, go_sem, reduceIte, Nat.reduceEqDiff, Nat.reduceAdd, bx]; and_intros <;> first | exact trivial | exact VSub.refl _ | exact VSub.any _ | exact VSub.of_eq (by rw [hsn]; rfl) | (refine VSub.int ?_; omega))
          · have d5 : decide ((1152921504606846976 : Int) < vT p) = true := decide_eq_true (by omega)
            repeat (first
              | ((first | apply Wp.seqItemsR | apply Wp.itemsR | ((first
                  | (refine WpItems.pcall ?_ ?_ (hnum) ?_; (· simp only [go_sem, reduceIte, Nat.reduceEqDiff, Nat.reduceAdd, bx]); (· simp only [go_sem, reduceIte, Nat.reduceEqDiff, Nat.reduceAdd, bx, List.map]; first | exact VSubs.refl _ | (repeat (first | exact VSubs.nil | refine VSubs.cons (by first | exact VSub.refl _ | assumption | exact VSub.cap | exact VSub.any _) ?_))))); apply WpItems.evR)); (· simp only [go_sem, reduceIte, Nat.reduceEqDiff, Nat.reduceAdd, bx, ax, if_true, if_false, Nat.reduceMul, Nat.reduceLeDiff, prs_length, g1, h2, h3, hat, encPr, w1, d1, d2, l0, q0, byte, hb, Int.toNat_zero, Int.toNat_natCast]; exact rfl))
              | (refine WpItems.nil ⟨?_, ?_⟩; (· first | trivial | simp [pairsQ, pairsOk, apart, ent0]))
              | (apply Wp.cond_lit; (· simp only [go_sem, reduceIte, Nat.reduceEqDiff, Nat.reduceAdd, bx, ax, if_true, if_false, Nat.reduceMul, Nat.reduceLeDiff, prs_length, g1, h2, h3, hat, encPr, w1, d1, d2, l0, q0, byte, hb, Int.toNat_zero, Int.toNat_natCast]; exact rfl); (· rfl))
              | refine Wp.skip ?_
              | refine Wp.label ?_
              | refine Wp.block ?_
              | refine Wp.exit ?_
              | refine Wp.seq ?_)
            repeat (first
              | ((first | apply Wp.seqItemsR | apply Wp.itemsR); (· simp only [go_sem, reduceIte, Nat.reduceEqDiff, Nat.reduceAdd, bx, ax, if_true, if_false, Nat.reduceMul, Nat.reduceLeDiff, d4, d5]; exact rfl))
              | (refine WpItems.nil ⟨?_, ?_⟩; (· first | trivial | simp [pairsQ, pairsOk, apart, ent0]))
              | (apply Wp.cond_lit; (· simp only [go_sem, reduceIte, Nat.reduceEqDiff, Nat.reduceAdd, bx, ax, if_true, if_false, Nat.reduceMul, Nat.reduceLeDiff, d4, d5]; exact rfl); (· rfl))
              | refine Wp.skip ?_
              | refine Wp.label ?_
              | refine Wp.block ?_
              | refine Wp.exit ?_
              | refine Wp.seq ?_)
            refine Wp.ret ⟨trivial, _, rfl, ?_⟩
            simp only [go_sem, reduceIte, Nat.reduceEqDiff, Nat.reduceAdd, bx]
            exact bad (no (by simp [vOkR]; intros; omega))
        · have d4 : decide (vT p < 0) = true := decide_eq_true (by omega)
          repeat (first
            | ((first | apply Wp.seqItemsR | apply Wp.itemsR | ((first
                | (refine WpItems.pcall ?_ ?_ (hnum) ?_; (· simp only [go_sem, reduceIte, Nat.reduceEqDiff, Nat.reduceAdd, bx]); (· simp only [go_sem, reduceIte, Nat.reduceEqDiff, Nat.reduceAdd, bx, List.map]; first | exact VSubs.refl _ | (repeat (first | exact VSubs.nil | refine VSubs.cons (by first | exact VSub.refl _ | assumption | exact VSub.cap | exact VSub.any _) ?_))))); apply WpItems.evR)); (· simp only [go_sem, reduceIte, Nat.reduceEqDiff, Nat.reduceAdd, bx, ax, if_true, if_false, Nat.reduceMul, Nat.reduceLeDiff, prs_length, g1, h2, h3, hat, encPr, w1, d1, d2, l0, q0, byte, hb, Int.toNat_zero, Int.toNat_natCast]; exact rfl))
            | (refine WpItems.nil ⟨?_, ?_⟩; (· first | trivial | simp [pairsQ, pairsOk, apart, ent0]))
            | (apply Wp.cond_lit; (· simp only [go_sem, reduceIte, Nat.reduceEqDiff, Nat.reduceAdd, bx, ax, if_true, if_false, Nat.reduceMul, Nat.reduceLeDiff, prs_length, g1, h2, h3, hat, encPr, w1, d1, d2, l0, q0, byte, hb, Int.toNat_zero, Int.toNat_natCast]; exact rfl); (· rfl))
            | refine Wp.skip ?_
            | refine Wp.label ?_
            | refine Wp.block ?_
            | refine Wp.exit ?_
            | refine Wp.seq ?_)
          repeat (first
            | ((first | apply Wp.seqItemsR | apply Wp.itemsR); (· simp only [go_sem, reduceIte, Nat.reduceEqDiff, Nat.reduceAdd, bx, ax, if_true, if_false, Nat.reduceMul, Nat.reduceLeDiff, d4]; exact rfl))
            | (refine WpItems.nil ⟨?_, ?_⟩; (· first | trivial | simp [pairsQ, pairsOk, apart, ent0]))
            | (apply Wp.cond_lit; (· simp only [go_sem, reduceIte, Nat.reduceEqDiff, Nat.reduceAdd, bx, ax, if_true, if_false, Nat.reduceMul, Nat.reduceLeDiff, d4]; exact rfl); (· rfl))
            | refine Wp.skip ?_
            | refine Wp.label ?_
            | refine Wp.block ?_
            | refine Wp.exit ?_
            | refine Wp.seq ?_)
          refine Wp.ret ⟨trivial, _, rfl, ?_⟩
          simp only [go_sem, reduceIte, Nat.reduceEqDiff, Nat.reduceAdd, bx]
          exact bad (no (by simp [vOkR]; intros; omega))
      · rw [decide_eq_false h5] at hb
        repeat (first
          | ((first | apply Wp.seqItemsR | apply Wp.itemsR); (· simp only [go_sem, reduceIte, Nat.reduceEqDiff, Nat.reduceAdd, bx, ax, if_true, if_false, Nat.reduceMul, Nat.reduceLeDiff, prs_length, g1, h2, h3, hat, encPr, w1, d1, d2, l0, q0, byte, hb, Int.toNat_zero]; exact rfl))
          | (refine WpItems.nil ⟨?_, ?_⟩; (· first | trivial | simp [pairsQ, pairsOk, apart, ent0]))
          | (apply Wp.cond_lit; (· simp only [go_sem, reduceIte, Nat.reduceEqDiff, Nat.reduceAdd, bx, ax, if_true, if_false, Nat.reduceMul, Nat.reduceLeDiff, prs_length, g1, h2, h3, hat, encPr, w1, d1, d2, l0, q0, byte, hb, Int.toNat_zero]; exact rfl); (· rfl))
          | refine Wp.skip ?_
          | refine Wp.label ?_
          | refine Wp.block ?_
          | refine Wp.exit ?_
          | refine Wp.seq ?_)
        refine Wp.ret ⟨trivial, _, rfl, ?_⟩
        simp only [go_sem, reduceIte, Nat.reduceEqDiff, Nat.reduceAdd, bx]
        exact bad (no (by simp [vOkR, vFit, h1, h4]; intros; simp at h5; omega))
    · have w1 : IntKind.i64.wrap ((p.k.length : Int) - 8) = (p.k.length : Int) - 8 := IntWalk.i64_in _ (by omega)
      have d1 : decide ((p.k.length : Int) - 8 < 0) = true := decide_eq_true (by omega)
      repeat (first
        | ((first | apply Wp.seqItemsR | apply Wp.itemsR); (· simp only [go_sem, reduceIte, Nat.reduceEqDiff, Nat.reduceAdd, bx, ax, if_true, if_false, Nat.reduceMul, Nat.reduceLeDiff, prs_length, g1, h2, h3, hat, encPr, w1, d1]; exact rfl))
        | (refine WpItems.nil ⟨?_, ?_⟩; (· first | trivial | simp [pairsQ, pairsOk, apart, ent0]))
        | (apply Wp.cond_lit; (· simp only [go_sem, reduceIte, Nat.reduceEqDiff, Nat.reduceAdd, bx, ax, if_true, if_false, Nat.reduceMul, Nat.reduceLeDiff, prs_length, g1, h2, h3, hat, encPr, w1, d1]; exact rfl); (· rfl))
        | refine Wp.skip ?_
        | refine Wp.label ?_
        | refine Wp.block ?_
        | refine Wp.exit ?_
        | refine Wp.seq ?_)
      refine Wp.ret ⟨trivial, _, rfl, ?_⟩
      simp only [go_sem, reduceIte, Nat.reduceEqDiff, Nat.reduceAdd, bx]
      exact bad (no (by simp [vOkR, vFit]; intros; omega))
  · obtain rfl : j = l.length := by omega
    have g1 : decide (((l.length : Nat) : Int) < ((l.length : Nat) : Int)) = false := decide_eq_false (by omega)
    have hall : l.all vOkR = true := all_on hs
    have hsm := itR_sm l lsk
    have SM : SmI (itR l) := ⟨by omega, hsm.2.1, fun p hp => by have := hsm.2.2.1 p hp; omega⟩
    have hpr := pairsR_p (itR l) SM (by omega)
    rw [List.take_length]
    cases hok : okL (itR l) with
    | false =>
      rw [hok] at hpr
      have hr : rOkI l = false := by rw [rOkI, hok]; simp
      repeat (first
        | ((first | apply Wp.seqItemsR | apply Wp.itemsR | ((first
            | (refine WpItems.pcall ?_ ?_ (hpr) ?_; (· simp only [go_sem, reduceIte, Nat.reduceEqDiff, Nat.reduceAdd, bx]); (· simp only [go_sem, reduceIte, Nat.reduceEqDiff, Nat.reduceAdd, bx, List.map]; first | exact VSubs.refl _ | (repeat (first | exact VSubs.nil | refine VSubs.cons (by first | exact VSub.refl _ | assumption | exact VSub.cap | exact VSub.any _) ?_))))); apply WpItems.evR)); (· simp only [go_sem, reduceIte, Nat.reduceEqDiff, Nat.reduceAdd, bx, ax, if_true, if_false, Nat.reduceMul, Nat.reduceLeDiff, prs_length, g1]; exact rfl))
        | (refine WpItems.nil ⟨?_, ?_⟩; (· first | trivial | simp [pairsQ, pairsOk, apart, ent0]))
        | (apply Wp.cond_lit; (· simp only [go_sem, reduceIte, Nat.reduceEqDiff, Nat.reduceAdd, bx, ax, if_true, if_false, Nat.reduceMul, Nat.reduceLeDiff, prs_length, g1]; exact rfl); (· rfl))
        | refine Wp.skip ?_
        | refine Wp.label ?_
        | refine Wp.block ?_
        | refine Wp.exit ?_
        | refine Wp.seq ?_)
      refine Wp.ret ⟨trivial, _, rfl, ?_⟩
      simp only [go_sem, reduceIte, Nat.reduceEqDiff, Nat.reduceAdd, bx]
      exact bad hr
    | true =>
      rw [hok] at hpr
      simp only [if_true] at hpr
      have hsame := samePr_p (sortedP (prL (itR l))) l (by have := (sorted_ok (prL (itR l))).2.2; omega)
      cases he : decide (sortedP (prL (itR l)) = l) with
      | false =>
        rw [he] at hsame
        have hr : rOkI l = false := by rw [rOkI, he]; simp
        repeat (first
          | ((first | apply Wp.seqItemsR | apply Wp.itemsR | ((first
              | (refine WpItems.pcall ?_ ?_ (hpr) ?_; (· simp only [go_sem, reduceIte, Nat.reduceEqDiff, Nat.reduceAdd, bx]); (· simp only [go_sem, reduceIte, Nat.reduceEqDiff, Nat.reduceAdd, bx, List.map]; first | exact VSubs.refl _ | (repeat (first | exact VSubs.nil | refine VSubs.cons (by first | exact VSub.refl _ | assumption | exact VSub.cap | exact VSub.any _) ?_))))
              | (refine WpItems.pcall ?_ ?_ (hsame) ?_; (· simp only [go_sem, reduceIte, Nat.reduceEqDiff, Nat.reduceAdd, bx]); (· simp only [go_sem, reduceIte, Nat.reduceEqDiff, Nat.reduceAdd, bx, List.map]; first | exact VSubs.refl _ | (repeat (first | exact VSubs.nil | refine VSubs.cons (by first | exact VSub.refl _ | assumption | exact VSub.cap | exact VSub.any _) ?_))))); apply WpItems.evR)); (· simp only [go_sem, reduceIte, Nat.reduceEqDiff, Nat.reduceAdd, bx, ax, if_true, if_false, Nat.reduceMul, Nat.reduceLeDiff, prs_length, g1, Bool.not_false]; exact rfl))
          | (refine WpItems.nil ⟨?_, ?_⟩; (· first | trivial | simp [pairsQ, pairsOk, apart, ent0]))
          | (apply Wp.cond_lit; (· simp only [go_sem, reduceIte, Nat.reduceEqDiff, Nat.reduceAdd, bx, ax, if_true, if_false, Nat.reduceMul, Nat.reduceLeDiff, prs_length, g1, Bool.not_false]; exact rfl); (· rfl))
          | refine Wp.skip ?_
          | refine Wp.label ?_
          | refine Wp.block ?_
          | refine Wp.exit ?_
          | refine Wp.seq ?_)
        refine Wp.ret ⟨trivial, _, rfl, ?_⟩
        simp only [go_sem, reduceIte, Nat.reduceEqDiff, Nat.reduceAdd, bx]
        exact bad hr
      | true =>
        rw [he] at hsame
        have hr : rOkI l = true := by rw [rOkI, he, hok, hall]; rfl
        repeat (first
          | ((first | apply Wp.seqItemsR | apply Wp.itemsR | ((first
              | (refine WpItems.pcall ?_ ?_ (hpr) ?_; (· simp only [go_sem, reduceIte, Nat.reduceEqDiff, Nat.reduceAdd, bx]); (· simp only [go_sem, reduceIte, Nat.reduceEqDiff, Nat.reduceAdd, bx, List.map]; first | exact VSubs.refl _ | (repeat (first | exact VSubs.nil | refine VSubs.cons (by first | exact VSub.refl _ | assumption | exact VSub.cap | exact VSub.any _) ?_))))
              | (refine WpItems.pcall ?_ ?_ (hsame) ?_; (· simp only [go_sem, reduceIte, Nat.reduceEqDiff, Nat.reduceAdd, bx]); (· simp only [go_sem, reduceIte, Nat.reduceEqDiff, Nat.reduceAdd, bx, List.map]; first | exact VSubs.refl _ | (repeat (first | exact VSubs.nil | refine VSubs.cons (by first | exact VSub.refl _ | assumption | exact VSub.cap | exact VSub.any _) ?_))))); apply WpItems.evR)); (· simp only [go_sem, reduceIte, Nat.reduceEqDiff, Nat.reduceAdd, bx, ax, if_true, if_false, Nat.reduceMul, Nat.reduceLeDiff, prs_length, g1, Bool.not_true]; exact rfl))
          | (refine WpItems.nil ⟨?_, ?_⟩; (· first | trivial | simp [pairsQ, pairsOk, apart, ent0]))
          | (apply Wp.cond_lit; (· simp only [go_sem, reduceIte, Nat.reduceEqDiff, Nat.reduceAdd, bx, ax, if_true, if_false, Nat.reduceMul, Nat.reduceLeDiff, prs_length, g1, Bool.not_true]; exact rfl); (· rfl))
          | refine Wp.skip ?_
          | refine Wp.label ?_
          | refine Wp.block ?_
          | refine Wp.exit ?_
          | refine Wp.seq ?_)
        refine Wp.ret ⟨trivial, _, rfl, ?_⟩
        simp only [go_sem, reduceIte, Nat.reduceEqDiff, Nat.reduceAdd, bx]
        rw [hr]; exact VSub.refl _
end Go.Proofs.Ytobokfclaooloaa.Space
end
section
set_option linter.unusedSimpArgs false
set_option linter.unusedVariables false
namespace Go.Av
theorem row_put {G : Ghost} {h : H} {w w' : World} {id : Nat} {cs xs : List AV} {vs rest : List Value} {T0 : TypeId} {fr : Nat × Nat} (R : RepH G h w) (ho : h.objs id = some (.cells cs)) (ht : h.toks = []) (hs : w.heap.size ≤ w'.heap.size) (hos : w'.os = w.os) (hou : w'.output = w.output)
    (hk : ∀ b, b < w.heap.size → b ≠ G.ι id → w'.heap[b]? = w.heap[b]?) (hf : SameForm w.heap[G.ι id]? w'.heap[G.ι id]?) (hl : vs.length = xs.length) (hE : ∀ G w, VRels G w xs vs)
    (h1 : ∀ v ∈ vs, One v) (hg : w'.heap[G.ι id]? = some (.cells (vs ++ rest).toArray T0 fr)) (hfr : fr.1 = fr.2) :
    Trans G w h G w' { h with objs := upd h.objs id (some (.cells xs)) } ∧ RepH G { h with objs := upd h.objs id (some (.cells xs)) } w' := by
  obtain ⟨i1, i2, i3, i4⟩ := R.obj id _ ho
  have hO : ∀ b, ¬ h.O G b → b ≠ G.ι id := fun b hh e => hh ⟨id, _, ho, e.symm⟩
  have hd : ∀ {j o}, upd h.objs id (some (Obj.cells xs)) j = some o → (j = id ∧ o = .cells xs) ∨ (j ≠ id ∧ h.objs j = some o) := by
    intro j o a
    simp only [upd] at a
    split at a
    · cases a; exact .inl ⟨by assumption, rfl⟩
    · exact .inr ⟨‹_›, a⟩
  have T : Trans G w h G w' { h with objs := upd h.objs id (some (.cells xs)) } := by
    constructor
    · exact fun _ x => x
    · exact fun _ x => .inl x
    · exact fun _ _ => rfl
    · exact fun _ x => x
    · exact fun _ => .inl
    · exact fun _ _ => rfl
    · exact Nat.le_refl _
    · exact Nat.le_refl _
    · exact hs
    · exact hos
    · exact hou
    · intro b hb
      by_cases e : b = G.ι id
      · subst e; exact hf
      · rw [hk b hb e]; exact SameForm.refl _
    · exact fun b hb h _ => hk b hb (hO b h)
    · exact fun _ _ _ => Iff.rfl
    · exact fun _ _ _ _ => rfl
    · rintro b hb ⟨t, htt, _⟩
      simp [ht] at htt
    · rintro b hb ⟨j, o, a, e⟩
      rcases hd a with ⟨rfl, -⟩ | ⟨x1, x2⟩
      · exact ⟨_, _, ho, e⟩
      · exact ⟨j, o, x2, e⟩
    · rintro b _ ⟨t, htt, _⟩
      simp [ht] at htt
    · intro j o a
      rcases hd a with ⟨rfl, -⟩ | ⟨x1, x2⟩
      · exact .inl ⟨_, ho⟩
      · exact .inl ⟨o, x2⟩
    · exact fun t x => .inl x
  refine ⟨T, ?_⟩
  constructor
  · intro j o a
    rcases hd a with ⟨rfl, rfl⟩ | ⟨x1, x2⟩
    · exact ⟨i1, i2, Nat.lt_of_lt_of_le i3 hs, vs, rest, T0, fr, hg, hE _ _, hfr, h1⟩
    · obtain ⟨r1, r2, r3, r4⟩ := R.obj j o x2
      have hne : G.ι j ≠ G.ι id := fun e => x1 (R.inj _ _ _ _ x2 ho e)
      refine ⟨r1, r2, Nat.lt_of_lt_of_le r3 hs, ?_⟩
      rw [hk _ r3 hne]
      cases o with
      | cells cs =>
        obtain ⟨vs, rest, T', fr, y1, y2, y3⟩ := r4
        exact ⟨vs, rest, T', fr, y1, VRels.mono R T _ _ y2, y3⟩
      | map es =>
        obtain ⟨en, clock, y1, y2⟩ := r4
        exact ⟨en, clock, y1, Entries.mono R T _ _ y2⟩
      | loop N t ps asg body st pend =>
        obtain ⟨r, y1, y2, y3, y4⟩ := r4
        exact ⟨r, y1, y2, fun i => VRel.mono R T _ _ (y3 i), y4⟩
  · intro i j o o' a b e
    have ha : ∃ p, h.objs i = some p := by
      rcases hd a with ⟨rfl, -⟩ | ⟨-, x⟩
      · exact ⟨_, ho⟩
      · exact ⟨_, x⟩
    have hb : ∃ p, h.objs j = some p := by
      rcases hd b with ⟨rfl, -⟩ | ⟨-, x⟩
      · exact ⟨_, ho⟩
      · exact ⟨_, x⟩
    obtain ⟨p, hp⟩ := ha
    obtain ⟨q, hq⟩ := hb
    exact R.inj _ _ _ _ hp hq e
  · exact fun t x => by simp [ht] at x
  · exact fun t x => by simp [ht] at x
end Go.Av
end
section
set_option linter.unusedSimpArgs false
set_option linter.unusedVariables false
namespace Go.Av
open Go.Sort Go.Proofs
section
variable {α : Type} [Inhabited α]
theorem flat_len {α : Type} {enc : α → List Value} {k : Nat} (hk : ∀ x, (enc x).length = k) : ∀ l : List α, (l.flatMap enc).length = l.length * k
  | [] => by simp
  | x :: l => by simp [flat_len hk l, hk, Nat.add_mul]; omega
theorem flat_get {enc : α → List Value} {k : Nat} (k0 : 0 < k) (hk : ∀ x, (enc x).length = k) : ∀ (l : List α) (t : Nat), t < l.length * k → (l.flatMap enc)[t]! = (enc (l.toArray[t / k]!))[t % k]!
  | [], t, h => by simp at h
  | x :: l, t, h => by
    have ih := flat_get k0 hk l
    by_cases c : t < k
    · have e1 : t / k = 0 := Nat.div_eq_of_lt c
      have e2 : t % k = t := Nat.mod_eq_of_lt c
      rw [e1, e2, List.flatMap_cons]
      have : t < (enc x).length := by rw [hk]; exact c
      simp [List.getElem!_eq_getElem?_getD, List.getElem?_append_left this]
    · have hc : k ≤ t := by omega
      have e1 : t / k = (t - k) / k + 1 := by
        rw [Nat.div_eq t k, if_pos ⟨k0, hc⟩]
      have e2 : t % k = (t - k) % k := Nat.mod_eq_sub_mod hc
      have hb : t - k < l.length * k := by simp [Nat.add_mul] at h; omega
      have := ih (t - k) hb
      rw [e1, e2, List.flatMap_cons]
      have e3 : (enc x).length ≤ t := by rw [hk]; exact hc
      simp only [List.getElem!_eq_getElem?_getD] at this ⊢
      rw [List.getElem?_append_right e3, hk, this]
      have e4 : ∀ i, (x :: l).toArray[i + 1]! = l.toArray[i]! := fun i => by simp [getElem!_def]
      rw [e4]
theorem flat_eq {enc : α → List Value} {k : Nat} (k0 : 0 < k) (hk : ∀ x, (enc x).length = k) (l : List α) : flatK enc k l.toArray = (l.flatMap enc).toArray := by
  refine ext_get! (by simp [flat_len hk]) fun t ht => ?_
  have ht' : t < l.length * k := by simpa using ht
  rw [get_flatK _ _ _ t (by simpa using ht')]
  have := flat_get k0 hk l t ht'
  simpa using this.symm
theorem sorted_world {enc : α → List Value} {k : Nat} (k0 : 0 < k) (hk : ∀ x, (enc x).length = k) {w : World} {blk n : Nat} {l l' : List α} {os : Array Go.Obj} {rest : List Value} {T : TypeId} {fr : Nat × Nat} (hb : blk < w.heap.size) (hl : l'.length = l.length)
    (hg : w.heap[blk]? = some (.cells (l.flatMap enc ++ rest).toArray T fr)) :
    (sortWorldK enc k w blk 0 n l'.toArray os).heap[blk]? = some (.cells (l'.flatMap enc ++ rest).toArray T fr) ∧ (∀ b, b < w.heap.size → b ≠ blk → (sortWorldK enc k w blk 0 n l'.toArray os).heap[b]? = w.heap[b]?) ∧ w.heap.size ≤ (sortWorldK enc k w blk 0 n l'.toArray os).heap.size := by
  have hf := flat_eq k0 hk l'
  have e : ∀ b, b < w.heap.size → (sortWorldK enc k w blk 0 n l'.toArray os).heap[b]? = (w.heap.modify blk (onCells (putCells id 0 (flatK enc k l'.toArray))))[b]? := fun b hb => by
    simp only [sortWorldK, grow, putRowK, putRow, mapBlock, ahead]
    rw [Array.getElem?_append_left (by simpa [ahead] using hb)]
    rfl
  refine ⟨?_, fun b hb hne => ?_, by simp [sortWorldK, grow, putRowK, putRow, mapBlock, ahead]⟩
  · rw [e blk hb, Array.getElem?_modify, if_pos rfl, hg, Option.map_some, onCells, hf]
    congr 2
    apply Array.ext_getElem?
    intro j
    have l1 := flat_len hk l'
    have l2 := flat_len hk l
    simp only [putCells, Array.getElem?_mapIdx, List.getElem?_toArray, List.size_toArray, Nat.zero_le, true_and, Nat.zero_add, Nat.sub_zero, id]
    by_cases c : j < l'.length * k
    · have a1 : j < (l'.flatMap enc).length := by omega
      have a2 : j < (l.flatMap enc).length := by rw [l2, ← hl]; exact c
      rw [List.getElem?_append_left a1, List.getElem?_append_left a2, List.getElem?_eq_getElem a1, List.getElem?_eq_getElem a2, Option.map_some, if_pos a1]
      simp only [List.getElem!_toArray, List.getElem!_eq_getElem?_getD, List.getElem?_eq_getElem a1, Option.getD_some]
    · have a1 : (l'.flatMap enc).length ≤ j := by omega
      have a2 : (l.flatMap enc).length ≤ j := by rw [l2, ← hl]; omega
      rw [List.getElem?_append_right a1, List.getElem?_append_right a2, l1, l2, hl]
      cases rest[j - l.length * k]? with
      | none => rfl
      | some v => rw [Option.map_some, if_neg (by omega)]
  · rw [e b hb, Array.getElem?_modify, if_neg (fun h => hne h.symm)]
theorem sort_t {P : Program} {f g : Nat} {enc : α → List Value} {encA : α → List AV} {k : Nat} (k0 : 0 < k) (hk : ∀ x, (enc x).length = k) (hkA : ∀ l : List α, (l.flatMap encA).length = l.length * k)
    (hE : ∀ (l : List α) G w, VRels G w (l.flatMap encA) (l.flatMap enc)) (hD : ∀ (l : List α) G w vs, VRels G w (l.flatMap encA) vs → vs = l.flatMap enc) (h1 : ∀ l : List α, ∀ v ∈ l.flatMap enc, One v)
    {lt : α → α → Bool} (l l' : List α) (hln : 0 < l.length) (hll : l'.length = l.length)
    (hu : ∀ d' : Array α, PermIn 0 l.length l.toArray d' → SortedIn lt 0 l.length d' → d' = l'.toArray)
    (hcon : ∀ (blk cap : Nat) (w : World), HoldsK enc k w blk 0 l.toArray → blk < w.heap.size → Calls P f #[.slice (some ⟨blk, 0, none⟩) l.length cap, .func (.func g) #[] #[]] w fun e w' => e = .returned (.tuple #[]) ∧ ∃ d' n os, PermIn 0 l.length l.toArray d' ∧ SortedIn lt 0 l.length d' ∧ w' = sortWorldK enc k w blk 0 n d' os)
    {id : Nat} {h : H} (ho : h.objs id = some (.cells (l.flatMap encA))) (htk : h.toks = []) :
    ACalls P f [.tsl k id 0 l.length none, .clo (.func g) [] []] h (.tup []) { h with objs := upd h.objs id (some (.cells (l'.flatMap encA))) } := by
  intro G w vs hv R F
  simp only [VRels, VRel] at hv
  obtain ⟨v1, _, rfl, ⟨hd1, hv1⟩, v2, _, rfl, ⟨va, vb, rfl, rfl, rfl⟩, rfl⟩ := hv
  obtain ⟨C, c, T, fr, rfl, ⟨hnC, hc63⟩, -, hg, hroom⟩ | ⟨hz, -⟩ := hv1
  rotate_left
  · omega
  obtain ⟨-, hown, hB, us, rest, T', fr', hg', hvs, hfr, -⟩ := R.obj id _ ho
  have hus := hD l G w us hvs
  subst hus
  have hH : HoldsK enc k w (G.ι id) 0 l.toArray := by
    intro j hj
    rw [flat_eq k0 hk] at hj ⊢
    have hj' : j < (l.flatMap enc).length := by simpa using hj
    constructor
    · unfold World.cell?
      simp only [hg', Nat.zero_add]
      simp [List.getElem?_append_left hj', getElem!_def, hj', List.getElem?_eq_getElem hj']
    · unfold World.frozen?
      simp only [hg']
      have := hfr
      simp; omega
  refine (hcon (G.ι id) C w hH hB).mono fun e w' ⟨he, d', n, os, hp, hs, hw⟩ => ?_
  have hdd := hu d' hp hs
  subst hdd
  subst he hw
  obtain ⟨w1, w2, w3⟩ := sorted_world k0 hk (n := n) (os := os) hB hll hg'
  obtain ⟨T1, R1⟩ := row_put R ho htk w3 (by rfl) (by rfl) w2 (by rw [hg', w1]; exact ⟨_, _, rfl, by simp [flat_len hk, hll], fun _ _ h => h⟩) (by rw [hkA, flat_len hk]) (hE l') (h1 l') w1 hfr
  exact ⟨_, G, rfl, T1, R1, by simp [VRel, VRels]⟩
theorem pw_eq {α : Type} {r : α → α → Prop} (ir : ∀ x, ¬ r x x) (tr : ∀ x y z, r x y → r y z → r x z) : ∀ {a b : List α}, a.Pairwise r → b.Pairwise r → (∀ x, x ∈ a ↔ x ∈ b) → a = b
  | [], [], _, _, _ => rfl
  | [], y :: b, _, _, h => by have := (h y).2 (by simp); simp at this
  | x :: a, [], _, _, h => by have := (h x).1 (by simp); simp at this
  | x :: a, y :: b, ha, hb, h => by
    have ha' := List.pairwise_cons.1 ha
    have hb' := List.pairwise_cons.1 hb
    have hxy : x = y := by
      rcases List.mem_cons.1 ((h x).1 (by simp)) with e | hx
      · exact e
      · rcases List.mem_cons.1 ((h y).2 (by simp)) with e | hy
        · exact e.symm
        · exact absurd (tr _ _ _ (hb'.1 x hx) (ha'.1 y hy)) (ir _)
    subst hxy
    congr 1
    refine pw_eq ir tr ha'.2 hb'.2 fun p => ⟨fun hp => ?_, fun hp => ?_⟩
    · rcases List.mem_cons.1 ((h p).1 (by simp [hp])) with e | h1
      · subst e; exact absurd (ha'.1 p hp) (ir _)
      · exact h1
    · rcases List.mem_cons.1 ((h p).2 (by simp [hp])) with e | h1
      · subst e; exact absurd (hb'.1 p hp) (ir _)
      · exact h1
theorem sorted_one {α : Type} [Inhabited α] {lt : α → α → Bool} (ir : ∀ x, lt x x = false) (tr : ∀ x y z, lt x y = true → lt y z = true → lt x z = true) {l l' : List α} (tot : ∀ x ∈ l, ∀ y ∈ l, x = y ∨ lt x y = true ∨ lt y x = true) (nd : l.Nodup)
    (hp : l'.Pairwise fun x y => lt x y = true) (hm : ∀ x, x ∈ l' ↔ x ∈ l) {d' : Array α} (h1 : PermIn 0 l.length l.toArray d') (h2 : SortedIn lt 0 l.length d') : d' = l'.toArray := by
  obtain ⟨hs, -, hperm⟩ := h1
  have hs' : d'.size = l.length := by simpa using hs
  have e1 : (d'.extract 0 l.length) = d' := by rw [← hs']; simp
  have e2 : (l.toArray.extract 0 l.length) = l.toArray := by simp
  rw [e1, e2] at hperm
  have hperm : d'.toList.Perm l := by simpa using hperm
  have nd' : d'.toList.Nodup := hperm.nodup_iff.2 nd
  have pw : d'.toList.Pairwise fun x y => lt x y = true := by
    rw [List.pairwise_iff_getElem]
    intro i j hi hj hij
    have hi' : i < d'.size := by simpa using hi
    have hj' : j < d'.size := by simpa using hj
    have := h2 i j (Nat.zero_le _) hij (by omega)
    rw [getElem!_pos d' i hi', getElem!_pos d' j hj'] at this
    have m1 : d'[i] ∈ l := hperm.mem_iff.1 (by simp)
    have m2 : d'[j] ∈ l := hperm.mem_iff.1 (by simp)
    rcases tot _ m1 _ m2 with e | e | e
    · have := (List.nodup_iff_pairwise_ne.1 nd')
      have := List.pairwise_iff_getElem.1 this i j hi hj hij
      exact absurd (by simpa using e) this
    · simpa using e
    · rw [this] at e; cases e
  have := pw_eq (r := fun x y => lt x y = true) (fun x => by rw [ir]; simp) tr pw hp fun x => by rw [hperm.mem_iff, hm]
  rw [← this]
end
end Go.Av
end
section
set_option linter.unusedSimpArgs false
set_option linter.unusedVariables false
set_option maxRecDepth 10000
namespace Go.Proofs.Ytobokfclaooloaa.Space
open Go Go.Av Go.Proofs Go.Proofs.Ytobokfclaooloaa.C Go.Proofs.Ytobokfclaooloaa.Batch
theorem pw_adj {α : Type} [Inhabited α] {r : α → α → Prop} (tr : ∀ x y z, r x y → r y z → r x z) {l : List α} (h : ∀ i, i + 1 < l.length → r (l.getD i default) (l.getD (i + 1) default)) : l.Pairwise r := by
  have key : ∀ d i, i + d + 1 < l.length → r (l.getD i default) (l.getD (i + d + 1) default) := by
    intro d
    induction d with
    | zero => intro i hi; exact h i hi
    | succ d ih => intro i hi; exact tr _ _ _ (ih i (by omega)) (h (i + d + 1) (by omega))
  rw [List.pairwise_iff_getElem]
  intro i j hi hj hij
  have := key (j - i - 1) i (by omega)
  rw [show i + (j - i - 1) + 1 = j by omega, Av.getD_el hi, Av.getD_el hj] at this
  exact this
theorem okL_rise {l : List It} (h : okL l = true) : l.Pairwise fun a b => Op.bytesLess a.1 b.1 = true :=
  pw_adj (r := fun a b : It => Op.bytesLess a.1 b.1 = true) (fun x y z h1 h2 => less_trans h1 h2) fun i hi => by
    have := okL_at h hi
    rw [itOk_pos (by omega), Bool.and_eq_true, Nat.add_sub_cancel] at this
    exact this.2
theorem okL_all {l : List It} (h : okL l = true) : ∀ x ∈ l, mayI x = true := fun x hx => by
  obtain ⟨i, hi, rfl⟩ := List.mem_iff_getElem.1 hx
  have := okL_may h hi
  rwa [Av.getD_el hi] at this
theorem okL_of {l : List It} (h1 : l.Pairwise fun a b => Op.bytesLess a.1 b.1 = true) (h2 : ∀ x ∈ l, mayI x = true) : okL l = true := by
  refine all_yes fun i hi => ?_
  have hm : mayI (l.getD i default) = true := by rw [Av.getD_el hi]; exact h2 _ (List.getElem_mem hi)
  by_cases hz : i = 0
  · rw [itOk_zero hz]; exact hm
  · rw [itOk_pos hz, hm, Bool.true_and, Av.getD_el hi, Av.getD_el (show i - 1 < l.length by omega)]
    exact List.pairwise_iff_getElem.1 h1 (i - 1) i (by omega) hi (by omega)
theorem chB_desc {l : List Ver} (h : chB l = true) : l.Pairwise fun a b => b.t < a.t := by
  rw [List.pairwise_iff_getElem]
  intro i j hi hj hij
  have := desc h hij hj
  rwa [Av.getD_el hi, Av.getD_el hj] at this
theorem chB_all {l : List Ver} (h : chB l = true) : ∀ v ∈ l, okV v = true := fun v hv => by
  obtain ⟨i, hi, rfl⟩ := List.mem_iff_getElem.1 hv
  have := chB_ok h hi
  rwa [Av.getD_el hi] at this
theorem key_inj {k k' : Bs} {t t' : Int} (h1 : 1 ≤ t ∧ t ≤ 1152921504606846976) (h2 : 1 ≤ t' ∧ t' ≤ 1152921504606846976) (h : k ++ be 8 (1152921504606846976 - t).toNat = k' ++ be 8 (1152921504606846976 - t').toNat) : k = k' ∧ t = t' := by
  have e := List.append_inj' h (by rw [be_length, be_length])
  refine ⟨e.1, ?_⟩
  have e2 := congrArg Batch.val e.2
  rw [val_be 8 _ (by omega), val_be 8 _ (by omega)] at e2
  omega
theorem prL_keys {l : List It} (h : okL l = true) : (prL l).Pairwise fun x y => x.k ≠ y.k := by
  unfold prL
  rw [List.pairwise_flatMap]
  have hv : ∀ x ∈ l, ∀ v ∈ x.2, 1 ≤ v.t ∧ v.t ≤ 1152921504606846976 := fun x hx v hv => by
    have := okV_iff.1 (chB_all (mayI_iff.1 (okL_all h x hx)).2.2.1 v hv)
    exact ⟨this.1, this.2.1⟩
  constructor
  · intro x hx
    unfold prI
    rw [List.pairwise_map]
    refine (chB_desc (mayI_iff.1 (okL_all h x hx)).2.2.1).imp_of_mem fun {a b} ha hb hab e => ?_
    have := (key_inj (hv x hx a ha) (hv x hx b hb) e).2
    omega
  · refine (okL_rise h).imp_of_mem fun {a b} ha hb hab x hx y hy e => ?_
    simp only [prI, List.mem_map] at hx hy
    obtain ⟨v, hv1, rfl⟩ := hx
    obtain ⟨u, hu1, rfl⟩ := hy
    have := (key_inj (hv a ha v hv1) (hv b hb u hu1) e).1
    rw [this, less_irrefl] at hab
    cases hab
theorem keys_inj {l : List Pr} (h : l.Pairwise fun x y => x.k ≠ y.k) : ∀ x ∈ l, ∀ y ∈ l, x.k = y.k → x = y := by
  intro x hx y hy e
  obtain ⟨i, hi, rfl⟩ := List.mem_iff_getElem.1 hx
  obtain ⟨j, hj, rfl⟩ := List.mem_iff_getElem.1 hy
  have hp := List.pairwise_iff_getElem.1 h
  rcases Nat.lt_trichotomy i j with h1 | h1 | h1
  · exact absurd e (hp i j hi hj h1)
  · subst h1; rfl
  · exact absurd e.symm (hp j i hj hi h1)
theorem keys_nodup {l : List Pr} (h : l.Pairwise fun x y => x.k ≠ y.k) : l.Nodup := h.imp fun h e => h (by rw [e])
theorem putGo_new {k v : Bs} : ∀ {l : List Pr} {b : Bool}, (∀ x ∈ l, x.k ≠ k) → (putGo k v b l).length = l.length + (if b then 0 else 1) ∧ ∀ x, x ∈ putGo k v b l ↔ (b = false ∧ x = ⟨k, v⟩) ∨ x ∈ l
  | [], b, _ => by cases b <;> simp [putGo]
  | p :: l, b, h => by
    have h1 := putGo_new (k := k) (v := v) (l := l) (b := true) fun x hx => h x (by simp [hx])
    have h2 := putGo_new (k := k) (v := v) (l := l) (b := false) fun x hx => h x (by simp [hx])
    have hp := h p (by simp)
    simp only [if_true, if_false, Bool.false_eq_true, Nat.add_zero, Bool.true_eq_false, false_and, false_or, true_and] at h1 h2
    rw [putGo]
    cases b <;> cases Op.bytesLess p.k k <;> simp [hp, h1.1, h2.1, h1.2, h2.2]
    all_goals (try intro x; try constructor) <;> (try (intro h; rcases h with h | h | h <;> simp [h]))
theorem sorted_new {l : List Pr} (h : l.Pairwise fun x y => x.k ≠ y.k) (hs : ∀ p ∈ l, shut p.k p.v = false) : (sortedP l).length = l.length ∧ ∀ x, x ∈ sortedP l ↔ x ∈ l := by
  revert h hs
  refine snocInd (P := fun l => (l.Pairwise fun x y => x.k ≠ y.k) → (∀ p ∈ l, shut p.k p.v = false) → (sortedP l).length = l.length ∧ ∀ x, x ∈ sortedP l ↔ x ∈ l) (fun _ _ => by simp [sortedP]) (fun a p ih h hs => ?_) l
  have hp := List.pairwise_append.1 h
  obtain ⟨i1, i2⟩ := ih hp.1 fun q hq => hs q (by simp [hq])
  have hsp := hs p (by simp)
  rw [sortedP_snoc, putP, if_neg (by rw [hsp]; simp)]
  have := putGo_new (k := p.k) (v := p.v) (l := sortedP a) (b := false) fun x hx => hp.2.2 x ((i2 x).1 hx) p (by simp)
  refine ⟨by rw [this.1, i1]; simp, fun x => ?_⟩
  rw [this.2, i2]
  simp only [true_and, List.mem_append, List.mem_singleton]
  exact or_comm
theorem prL_shut {l : List It} (h : okL l = true) : ∀ p ∈ prL l, shut p.k p.v = false := fun p hp => by
  simp only [prL, prI, List.mem_flatMap, List.mem_map] at hp
  obtain ⟨x, hx, v, hv, rfl⟩ := hp
  obtain ⟨m1, m2, m3, m4⟩ := mayI_iff.1 (okL_all h x hx)
  have := m4 v hv
  simp only [shut, prV, vval, List.length_append, be_length, Bool.or_eq_false_iff, decide_eq_false_iff_not]
  refine ⟨by omega, ?_⟩
  split
  · simp
  · simp; omega
theorem sort_tot {l : List It} (h : okL l = true) : ∀ x ∈ prL l, ∀ y ∈ prL l, x = y ∨ Op.bytesLess x.k y.k = true ∨ Op.bytesLess y.k x.k = true := fun x hx y hy => by
  rcases less_total x.k y.k with h1 | h1 | h1
  · exact .inr (.inl h1)
  · exact .inl (keys_inj (prL_keys h) x hx y hy h1)
  · exact .inr (.inr h1)
theorem sorted_rise (l : List Pr) : (sortedP l).Pairwise fun x y => Op.bytesLess x.k y.k = true := (sorted_ok l).1
theorem rise_ext {a b : List Pr} (ha : a.Pairwise fun x y => Op.bytesLess x.k y.k = true) (hb : b.Pairwise fun x y => Op.bytesLess x.k y.k = true) (h : ∀ x, x ∈ a ↔ x ∈ b) : a = b :=
  Av.pw_eq (r := fun x y : Pr => Op.bytesLess x.k y.k = true) (fun x => by rw [less_irrefl]; simp) (fun x y z h1 h2 => less_trans h1 h2) ha hb h
end Go.Proofs.Ytobokfclaooloaa.Space
end
section
set_option linter.unusedSimpArgs false
set_option linter.unusedVariables false
set_option maxRecDepth 10000
namespace Go.Proofs.Ytobokfclaooloaa.Space
open Go Go.Av Go.Proofs Go.Proofs.Ytobokfclaooloaa.C Go.Proofs.Ytobokfclaooloaa.Batch
theorem wiG_true (q : Bs) (v : Ver) : ∀ l, wiG q v true l = l
  | [] => rfl
  | x :: l => by simp [wiG, wiG_true q v l]
theorem wiG_split (q : Bs) (v : Ver) : ∀ l : List It, ∃ a b, l = a ++ b ∧ (∀ x ∈ a, Op.bytesLess x.1 q = true) ∧ ((b = [] ∧ wiG q v false l = a ++ [(q, [v])]) ∨ ∃ y b', b = y :: b' ∧ Op.bytesLess y.1 q = false ∧ ((y.1 = q ∧ wiG q v false l = a ++ (q, plV y.2 v) :: b') ∨ (y.1 ≠ q ∧ wiG q v false l = a ++ (q, [v]) :: y :: b')))
  | [] => ⟨[], [], rfl, by simp, .inl ⟨rfl, rfl⟩⟩
  | x :: l => by
    cases hx : Op.bytesLess x.1 q with
    | true =>
      obtain ⟨a, b, h1, h2, h3⟩ := wiG_split q v l
      refine ⟨x :: a, b, by rw [h1]; rfl, fun y hy => ?_, ?_⟩
      · rcases List.mem_cons.1 hy with rfl | hy
        · exact hx
        · exact h2 y hy
      · have e : wiG q v false (x :: l) = x :: wiG q v false l := by simp [wiG, hx]
        rcases h3 with ⟨rfl, h3⟩ | ⟨y, b', rfl, h4, h3⟩
        · exact .inl ⟨rfl, by rw [e, h3]; rfl⟩
        · refine .inr ⟨y, b', rfl, h4, ?_⟩
          rcases h3 with ⟨h5, h3⟩ | ⟨h5, h3⟩
          · exact .inl ⟨h5, by rw [e, h3]; rfl⟩
          · exact .inr ⟨h5, by rw [e, h3]; rfl⟩
    | false =>
      refine ⟨[], x :: l, rfl, by simp, .inr ⟨x, l, rfl, hx, ?_⟩⟩
      by_cases hk : x.1 = q
      · exact .inl ⟨hk, by subst hk; simp [wiG, hx, wiG_true]⟩
      · exact .inr ⟨hk, by simp [wiG, hx, hk, wiG_true]⟩
theorem plG_end (v : Ver) : ∀ l : List Ver, (∀ u ∈ l, ¬ u.t < v.t) → plG v false l = l ++ [v]
  | [], _ => rfl
  | x :: l, h => by
    have hx := h x (by simp)
    simp [plG, hx, plG_end v l fun u hu => h u (by simp [hu])]
theorem less_app (k : Bs) : ∀ a b : Bs, Op.bytesLess (k ++ a) (k ++ b) = Op.bytesLess a b := by
  induction k with
  | nil => intro a b; rfl
  | cons c k ih =>
    intro a b
    simp [Op.bytesLess, ih]
theorem less_val : ∀ {a b : Bs}, a.length = b.length → Op.bytesLess a b = true → Batch.val a < Batch.val b := by
  have hv : ∀ (c : UInt8) (l : Bs), Batch.val (c :: l) = c.toNat * 256 ^ l.length + Batch.val l := by
    have : ∀ (l : Bs) (n : Nat), l.foldl (fun n c => n * 256 + c.toNat) n = n * 256 ^ l.length + l.foldl (fun n c => n * 256 + c.toNat) 0 := by
      intro l
      induction l with
      | nil => intro n; simp
      | cons c l ih =>
        intro n
        simp only [List.foldl_cons, List.length_cons]
        rw [ih (n * 256 + c.toNat), ih (0 * 256 + c.toNat), Nat.pow_succ, Nat.add_mul, Nat.zero_mul, Nat.zero_add]
        have e : n * 256 * 256 ^ l.length = n * (256 ^ l.length * 256) := by rw [Nat.mul_assoc, Nat.mul_comm 256]
        omega
    intro c l
    unfold Batch.val
    rw [List.foldl_cons, this l]
    simp
  intro a
  induction a with
  | nil => intro b h1 h2; cases b with
    | nil => simp [Op.bytesLess] at h2
    | cons => simp at h1
  | cons c a ih =>
    intro b h1 h2
    cases b with
    | nil => simp at h1
    | cons d b =>
      have hl : a.length = b.length := by simpa using h1
      rw [hv, hv, hl]
      have la := val_lt a
      have lb := val_lt b
      rw [hl] at la
      simp only [Op.bytesLess, Bool.or_eq_true, decide_eq_true_eq, Bool.and_eq_true, beq_iff_eq] at h2
      rcases h2 with h2 | ⟨h2, h3⟩
      · have h4 : c.toNat < d.toNat := h2
        have : (c.toNat + 1) * 256 ^ b.length ≤ d.toNat * 256 ^ b.length := Nat.mul_le_mul_right _ h4
        rw [Nat.add_mul] at this
        omega
      · subst h2
        have := ih hl h3
        omega
def chO (l : List Pr) (q : Bs) : List Ver := (l.filter fun p => decide (vK p = q)).map vV
theorem chO_snoc (l : List Pr) (p : Pr) (q : Bs) : chO (l ++ [p]) q = chO l q ++ (if vK p = q then [vV p] else []) := by
  unfold chO
  rw [List.filter_append, List.map_append]
  congr 1
  by_cases h : vK p = q <;> simp [h]
theorem chO_none {l : List Pr} {q : Bs} (h : ¬ ∃ p ∈ l, vK p = q) : chO l q = [] := by
  unfold chO
  rw [List.filter_eq_nil_iff.2 fun p hp => by simpa using fun e => h ⟨p, hp, e⟩]
  rfl
theorem vOkP_iff {p : Pr} : vOkP p = true ↔ 8 ≤ p.k.length ∧ p.v ≠ [] ∧ (p.v.getD 0 0).toNat ≤ 1 ∧ 0 ≤ vT p ∧ vT p < 1152921504606846976 := by
  simp only [vOkP, vFit, Bool.and_eq_true, decide_eq_true_eq, Bool.not_eq_true', decide_eq_false_iff_not]
  constructor
  · rintro ⟨⟨⟨⟨a, b⟩, c⟩, d⟩, e⟩; exact ⟨a, b, c, d, e⟩
  · rintro ⟨a, b, c, d, e⟩; exact ⟨⟨⟨⟨a, b⟩, c⟩, d⟩, e⟩
theorem vT_val {p : Pr} (h : 8 ≤ p.k.length) (h0 : 0 ≤ vT p) : vT p = (Batch.val (p.k.drop (vN p)) : Int) := i64_pos (by simp [vN]; omega) h0
theorem later {x p : Pr} (hx : vOkP x = true) (hp : vOkP p = true) (hk : vK x = vK p) (hl : Op.bytesLess x.k p.k = true) : vT x < vT p := by
  obtain ⟨x1, -, -, x2, -⟩ := vOkP_iff.1 hx
  obtain ⟨p1, -, -, p2, -⟩ := vOkP_iff.1 hp
  rw [vT_val x1 x2, vT_val p1 p2]
  have e1 : x.k = vK x ++ x.k.drop (vN x) := (List.take_append_drop _ _).symm
  have e2 : p.k = vK p ++ p.k.drop (vN p) := (List.take_append_drop _ _).symm
  rw [e1, e2, hk, less_app] at hl
  have := less_val (by simp [vN]; omega) hl
  omega
structure ItLaw (l : List Pr) (R : List It) : Prop where
  rise : R.Pairwise fun a b => Op.bytesLess a.1 b.1 = true
  ch : ∀ x ∈ R, x.2 = chO l x.1
  key : ∀ q, q ∈ R.map (·.1) ↔ ∃ p ∈ l, vK p = q
theorem not_less {a b : Bs} (h : Op.bytesLess a b = false) (hne : a ≠ b) : Op.bytesLess b a = true := by
  rcases less_total a b with h1 | h1 | h1
  · rw [h] at h1; cases h1
  · exact absurd h1 hne
  · exact h1
theorem itR_law {l : List Pr} (h1 : ∀ p ∈ l, vOkP p = true) (h2 : l.Pairwise fun x y => Op.bytesLess x.k y.k = true) : ItLaw l (itR l) := by
  revert h1 h2
  refine snocInd (P := fun l => (∀ p ∈ l, vOkP p = true) → (l.Pairwise fun x y => Op.bytesLess x.k y.k = true) → ItLaw l (itR l)) (fun _ _ => ⟨by simp [itR], by simp [itR], by simp [itR]⟩) (fun a p ih h1 h2 => ?_) l
  have hp2 := List.pairwise_append.1 h2
  obtain ⟨i1, i2, i3⟩ := ih (fun q hq => h1 q (by simp [hq])) hp2.1
  have hpo := h1 p (by simp)
  rw [itR_snoc]
  have key' : ∀ q, (∃ x ∈ a ++ [p], vK x = q) ↔ (∃ x ∈ a, vK x = q) ∨ vK p = q := fun q => by
    constructor
    · rintro ⟨x, hx, e⟩
      rcases List.mem_append.1 hx with hx | hx
      · exact .inl ⟨x, hx, e⟩
      · rw [List.mem_singleton.1 hx] at e; exact .inr e
    · rintro (⟨x, hx, e⟩ | e)
      · exact ⟨x, by simp [hx], e⟩
      · exact ⟨p, by simp, e⟩
  obtain ⟨A, B, e, hA, hB⟩ := wiG_split (vK p) (vV p) (itR a)
  unfold wiL
  rw [e] at i1 i2 i3
  have hpw := List.pairwise_append.1 i1
  have oth : ∀ x ∈ A ++ B, x.1 ≠ vK p → x.2 = chO (a ++ [p]) x.1 := fun x hx hne => by
    rw [chO_snoc, if_neg (fun h => hne h.symm), List.append_nil]; exact i2 x hx
  rcases hB with ⟨rfl, hB⟩ | ⟨y, b', rfl, hy, ⟨hyk, hB⟩ | ⟨hyk, hB⟩⟩
  · rw [hB]
    rw [List.append_nil] at i1 i2 i3 oth
    have hno : ¬ ∃ x ∈ a, vK x = vK p := fun h => by
      obtain ⟨x, hx, hxe⟩ := List.mem_map.1 ((i3 (vK p)).2 h)
      exact less_ne (hA x hx) hxe
    refine ⟨List.pairwise_append.2 ⟨i1, by simp, fun x hx y hy => ?_⟩, fun x hx => ?_, fun q => ?_⟩
    · rw [List.mem_singleton.1 hy]; exact hA x hx
    · rcases List.mem_append.1 hx with hx | hx
      · exact oth x hx (less_ne (hA x hx))
      · rw [List.mem_singleton.1 hx]
        simp only []
        rw [chO_snoc, chO_none hno, if_pos rfl]; rfl
    · rw [key', ← i3]
      simp only [List.map_append, List.map_cons, List.map_nil, List.mem_append, List.mem_singleton]
      exact ⟨fun h => h.imp_right fun h => h.symm, fun h => h.imp_right fun h => h.symm⟩
  · rw [hB]
    have hy2 := i2 y (by simp)
    have hyb := List.pairwise_cons.1 hpw.2.1
    have hpl : plV y.2 (vV p) = y.2 ++ [vV p] := by
      unfold plV
      refine plG_end _ _ fun u hu => ?_
      rw [hy2] at hu
      obtain ⟨x, hx, rfl⟩ := List.mem_map.1 hu
      have hx := List.mem_filter.1 hx
      have := later (h1 x (by simp [hx.1])) hpo (by rw [of_decide_eq_true hx.2, hyk]) (hp2.2.2 x hx.1 p (by simp))
      simp only [vV]; omega
    refine ⟨List.pairwise_append.2 ⟨hpw.1, List.pairwise_cons.2 ⟨fun z hz => ?_, hyb.2⟩, fun x hx z hz => ?_⟩, fun x hx => ?_, fun q => ?_⟩
    · rw [← hyk]; exact hyb.1 z hz
    · rcases List.mem_cons.1 hz with rfl | hz
      · exact hA x hx
      · exact hpw.2.2 x hx z (by simp [hz])
    · rcases List.mem_append.1 hx with hx | hx
      · exact oth x (by simp [hx]) (less_ne (hA x hx))
      · rcases List.mem_cons.1 hx with rfl | hx
        · simp only []
          rw [chO_snoc, if_pos rfl, hpl, hy2, hyk]
        · exact oth x (by simp [hx]) (fun h => by have := hyb.1 x hx; rw [h, hyk, less_irrefl] at this; cases this)
    · rw [key', ← i3]
      simp only [List.map_append, List.map_cons, List.mem_append, List.mem_cons, hyk]
      constructor
      · rintro (h | h | h)
        · exact .inl (.inl h)
        · exact .inr h.symm
        · exact .inl (.inr (.inr h))
      · rintro ((h | h | h) | h)
        · exact .inl h
        · exact .inr (.inl h)
        · exact .inr (.inr h)
        · exact .inr (.inl h.symm)
  · rw [hB]
    have hqy := not_less hy hyk
    have hyb := List.pairwise_cons.1 hpw.2.1
    have hqb : ∀ z ∈ y :: b', Op.bytesLess (vK p) z.1 = true := fun z hz => by
      rcases List.mem_cons.1 hz with rfl | hz
      · exact hqy
      · exact less_trans hqy (hyb.1 z hz)
    have hno : ¬ ∃ x ∈ a, vK x = vK p := fun h => by
      obtain ⟨x, hx, hxe⟩ := List.mem_map.1 ((i3 (vK p)).2 h)
      rcases List.mem_append.1 hx with hx | hx
      · exact less_ne (hA x hx) hxe
      · exact less_ne (hqb x hx) hxe.symm
    refine ⟨List.pairwise_append.2 ⟨hpw.1, List.pairwise_cons.2 ⟨hqb, hpw.2.1⟩, fun x hx z hz => ?_⟩, fun x hx => ?_, fun q => ?_⟩
    · rcases List.mem_cons.1 hz with rfl | hz
      · exact hA x hx
      · exact hpw.2.2 x hx z hz
    · rcases List.mem_append.1 hx with hx | hx
      · exact oth x (by simp [hx]) (less_ne (hA x hx))
      · rcases List.mem_cons.1 hx with rfl | hx
        · simp only []
          rw [chO_snoc, if_pos rfl, chO_none hno]; rfl
        · exact oth x (List.mem_append.2 (.inr hx)) (less_ne (hqb x hx)).symm
    · rw [key', ← i3]
      simp only [List.map_append, List.map_cons, List.mem_append, List.mem_cons]
      constructor
      · rintro (h | h | h | h)
        · exact .inl (.inl h)
        · exact .inr h.symm
        · exact .inl (.inr (.inl h))
        · exact .inl (.inr (.inr h))
      · rintro ((h | h | h) | h)
        · exact .inl h
        · exact .inr (.inr (.inl h))
        · exact .inr (.inr (.inr h))
        · exact .inr (.inl h.symm)
end Go.Proofs.Ytobokfclaooloaa.Space
end
section
set_option linter.unusedSimpArgs false
set_option linter.unusedVariables false
set_option maxRecDepth 100000
namespace Go.Proofs.Ytobokfclaooloaa.Batch
open Go Go.Proofs Go.Lib Go.RowKit Go.Shelf
def sort_ren : Go.Shelf.Ren := ⟨fun | 6 => 17 | 14 => 38 | 15 => 39 | 20 => 56 | 21 => 57 | 22 => 58 | 23 => 59 | 24 => 60 | 25 => 61 | 26 => 62 | 27 => 63 | 28 => 64 | 29 => 65 | 46 => 79 | 47 => 80 | 48 => 81 | 49 => 82 | 50 => 83 | 57 => 87 | n => n, fun | 0 => 0 | 3 => 3 | 4 => 4 | 5 => 5 | 9 => 9 | 22 => 23 | 24 => 42 | 25 => 58 | 39 => 84 | 45 => 103 | 46 => 104 | 50 => 108 | 53 => 111 | 55 => 88 | 66 => 120 | 70 => 124 | 76 => 128 | 77 => 129 | n => n, fun n => n⟩
theorem sort_lays : SlLaysF0.n6 Try.prog sort_ren where
  mixed := by kernel_rfl
  f6 := ⟨Try.f17.name, by kernel_rfl, Try.func17.trans (congrArg some (by kernel_rfl))⟩
  f14 := ⟨Try.f38.name, by kernel_rfl, Try.func38.trans (congrArg some (by kernel_rfl))⟩
  f15 := Try.func39.trans (congrArg some (by kernel_rfl))
  f20 := ⟨Try.f56.name, by kernel_rfl, Try.func56.trans (congrArg some (by kernel_rfl))⟩
  f21 := ⟨Try.f57.name, by kernel_rfl, Try.func57.trans (congrArg some (by kernel_rfl))⟩
  f22 := ⟨Try.f58.name, by kernel_rfl, Try.func58.trans (congrArg some (by kernel_rfl))⟩
  f23 := ⟨Try.f59.name, by kernel_rfl, Try.func59.trans (congrArg some (by kernel_rfl))⟩
  f24 := ⟨Try.f60.name, by kernel_rfl, Try.func60.trans (congrArg some (by kernel_rfl))⟩
  f25 := ⟨Try.f61.name, by kernel_rfl, Try.func61.trans (congrArg some (by kernel_rfl))⟩
  f26 := ⟨Try.f62.name, by kernel_rfl, Try.func62.trans (congrArg some (by kernel_rfl))⟩
  f27 := ⟨Try.f63.name, by kernel_rfl, Try.func63.trans (congrArg some (by kernel_rfl))⟩
  f28 := Try.func64.trans (congrArg some (by kernel_rfl))
  f29 := Try.func65.trans (congrArg some (by kernel_rfl))
  f46 := ⟨Try.f79.name, by kernel_rfl, Try.func79.trans (congrArg some (by kernel_rfl))⟩
  f47 := Try.func80.trans (congrArg some (by kernel_rfl))
  f48 := Try.func81.trans (congrArg some (by kernel_rfl))
  f49 := ⟨Try.f82.name, by kernel_rfl, Try.func82.trans (congrArg some (by kernel_rfl))⟩
  f50 := ⟨Try.f83.name, by kernel_rfl, Try.func83.trans (congrArg some (by kernel_rfl))⟩
  f57 := ⟨Try.f87.name, by kernel_rfl, Try.func87.trans (congrArg some (by kernel_rfl))⟩
  t0 := Try.underlying0
  a0 := Try.isAgg0
  z0 := Try.sizeOf0
  v0 := Try.zeroValue0
  t3 := Try.underlying3
  a3 := Try.isAgg3
  z3 := Try.sizeOf3
  v3 := Try.zeroValue3
  t4 := Try.underlying4
  a4 := Try.isAgg4
  z4 := Try.sizeOf4
  v4 := Try.zeroValue4
  t5 := Try.underlying5
  a5 := Try.isAgg5
  z5 := Try.sizeOf5
  v5 := Try.zeroValue5
  t9 := Try.underlying9
  a9 := Try.isAgg9
  z9 := Try.sizeOf9
  v9 := Try.zeroValue9
  t22 := Try.underlying23
  a22 := Try.isAgg23
  z22 := Try.sizeOf23
  v22 := Try.zeroValue23
  t25 := Try.underlying58
  a25 := Try.isAgg58
  z25 := Try.sizeOf58
  v25 := Try.zeroValue58
  t39 := Try.underlying84
  a39 := Try.isAgg84
  z39 := Try.sizeOf84
  v39 := Try.zeroValue84
  t45 := Try.underlying103
  a45 := Try.isAgg103
  z45 := Try.sizeOf103
  v45 := Try.zeroValue103
  t46 := Try.underlying104
  a46 := Try.isAgg104
  z46 := Try.sizeOf104
  v46 := Try.zeroValue104
  t50 := Try.underlying108
  a50 := Try.isAgg108
  z50 := Try.sizeOf108
  v50 := Try.zeroValue108
  t53 := Try.underlying111
  a53 := Try.isAgg111
  z53 := Try.sizeOf111
  v53 := Try.zeroValue111
  t55 := Try.underlying88
  a55 := Try.isAgg88
  z55 := Try.sizeOf88
  v55 := Try.zeroValue88
  t66 := Try.underlying120
  a66 := Try.isAgg120
  z66 := Try.sizeOf120
  v66 := Try.zeroValue120
  t70 := Try.underlying124
  a70 := Try.isAgg124
  z70 := Try.sizeOf124
  v70 := Try.zeroValue124
  t76 := Try.underlying128
  a76 := Try.isAgg128
  z76 := Try.sizeOf128
  v76 := Try.zeroValue128
  t77 := Try.underlying129
  a77 := Try.isAgg129
  z77 := Try.sizeOf129
  v77 := Try.zeroValue129
end Go.Proofs.Ytobokfclaooloaa.Batch
end
section
set_option linter.unusedSimpArgs false
set_option linter.unusedVariables false
set_option maxRecDepth 100000
namespace Go.Proofs.Ytobokfclaooloaa.Batch
open Go Go.Proofs Go.Lib Go.RowKit Go.Shelf
theorem isNaN_c (x : ByteArray) (w : World) : Calls Try.prog 40 #[.string x] w fun e w' => e = .returned (.bool false) ∧ w' = w := by
  go_enter Try.func40, Try.ntmps40
  go_wp2
  go_ret
  exact ⟨by simp, rfl⟩
def cmpB (x y : List UInt8) : Int := if Op.bytesLess x y = true then -1 else if Op.bytesLess y x = true then 1 else 0
theorem gtr_run {x y : List UInt8} {b : Bool} (h : Op.bytesLess x y = false) (h2 : Op.bytesLess y x = b) (he : b = false → x = y) (hn : b = true → x ≠ y) (w : World) :
    Sem.run Try.prog (binOp .gtr 9 (.string ⟨x.toArray⟩) (.string ⟨y.toArray⟩)) w = .ok (.bool b) w := by
  have hu := Try.underlying9
  have e : ((x == y) : Bool) = !b := by
    cases b with
    | true => simpa using hn rfl
    | false => simpa using he rfl
  simp [binOp, Op.stringOp, hu, ByteArray.toList_eq, h, h2, e]
set_option maxHeartbeats 1000000 in
theorem compare_c (x y : List UInt8) (w : World) : Calls Try.prog 19 #[.string ⟨x.toArray⟩, .string ⟨y.toArray⟩] w fun e w' => e = .returned (.int .i64 (cmpB x y)) ∧ w' = w := by
  unfold cmpB
  cases h1 : Op.bytesLess x y
  · have hg : ∀ w, Sem.run Try.prog (binOp .gtr 9 (.string ⟨x.toArray⟩) (.string ⟨y.toArray⟩)) w = .ok (.bool (Op.bytesLess y x)) w := fun w => by
      refine gtr_run h1 rfl (fun h2 => ?_) (fun h2 e => ?_) w
      · rcases less_total x y with h | h | h
        · rw [h1] at h; cases h
        · exact h
        · rw [h2] at h; cases h
      · rw [e, less_irrefl] at h2; cases h2
    cases h2 : Op.bytesLess y x
    all_goals
      rw [h2] at hg
      go_enter Try.func19, Try.ntmps19
      go_wp2_with (go_at_call 40; refine (isNaN_c _ _).mono ?_; rintro e w' ⟨rfl, hw⟩; rw [hw])
      go_ret
      exact ⟨by simp, rfl⟩
  · go_enter Try.func19, Try.ntmps19
    go_wp2_with (go_at_call 40; refine (isNaN_c _ _).mono ?_; rintro e w' ⟨rfl, hw⟩; rw [hw])
    go_ret
    exact ⟨by simp, rfl⟩
end Go.Proofs.Ytobokfclaooloaa.Batch
end
section
set_option linter.unusedSimpArgs false
set_option linter.unusedVariables false
set_option maxRecDepth 100000
namespace Go.Proofs.Ytobokfclaooloaa.Batch
open Go Go.Proofs Go.Lib Go.RowKit Go.Shelf Go.Sort
def encP (p : Pr) : List Value := [.string ⟨p.k.toArray⟩, .string ⟨p.v.toArray⟩]
def cfP (x y : Pr) : Int := cmpB x.k y.k
set_option maxHeartbeats 1000000 in
theorem closure_c (x y : Pr) (W : World) : Calls Try.prog 18 #[.agg #[.string ⟨x.k.toArray⟩, .string ⟨x.v.toArray⟩], .agg #[.string ⟨y.k.toArray⟩, .string ⟨y.v.toArray⟩]] W fun e w' => e = .returned (.int .i64 (cfP x y)) ∧ ∃ q os', w' = grow (W.drewN q) os' := by
  have hcon := fun W' => compare_c x.k y.k W'
  unfold cfP
  generalize cmpB x.k y.k = r at hcon ⊢
  go_enter Try.func18, Try.ntmps18
  go_wp2_with (go_at_call 19; refine (hcon _).mono ?_; rintro e w' ⟨rfl, rfl⟩)
  go_ret
  exact ⟨rfl, 0, _, by rw [alloc_eq_grow, alloc_eq_grow, grow_grow]; rfl⟩
theorem cmp_lays (blk off size : Nat) (w : World) : CmpLays Try.prog 18 #[] encP 2 cfP blk off size w :=
  fun _ _ _ _ x y => closure_c x y _
theorem cf_lt (x y : Pr) : ltOf cfP x y = Op.bytesLess x.k y.k := by
  unfold ltOf cfP cmpB
  cases h : Op.bytesLess x.k y.k <;> cases h2 : Op.bytesLess y.k x.k <;> simp
theorem cf_swo : SWO (ltOf cfP) where
  irrefl x := by rw [cf_lt, less_irrefl]
  trans x y z h1 h2 := by rw [cf_lt] at *; exact less_trans h1 h2
  ntrans x y z h1 h2 := by
    rw [cf_lt] at *
    cases h : Op.bytesLess x.k z.k with
    | false => rfl
    | true =>
      rcases less_total x.k y.k with h3 | h3 | h3
      · rw [h1] at h3; cases h3
      · rw [← h3, h] at h2; cases h2
      · rw [less_trans h3 h] at h2; cases h2
end Go.Proofs.Ytobokfclaooloaa.Batch
end
section
set_option linter.unusedSimpArgs false
set_option linter.unusedVariables false
set_option maxRecDepth 100000
namespace Go.Proofs.Ytobokfclaooloaa.Batch
open Go Go.Proofs Go.Lib Go.RowKit Go.Shelf Go.Sort Go.Av
def encA (p : Pr) : List AV := [.str p.k, .str p.v]
theorem encA_rel (p : Pr) (G : Ghost) (w : World) : VRels G w (encA p) (encP p) := by
  simp [encA, encP, VRels, VRel]
theorem rows_rel : ∀ (l : List Pr) (G : Ghost) (w : World), VRels G w (l.flatMap encA) (l.flatMap encP)
  | [], G, w => by simp [VRels]
  | p :: l, G, w => by
    have := rows_rel l G w
    simp only [List.flatMap_cons]
    exact (encA_rel p G w).append this
theorem rows_of : ∀ (l : List Pr) (G : Ghost) (w : World) (vs : List Value), VRels G w (l.flatMap encA) vs → vs = l.flatMap encP
  | [], G, w, vs, h => by simpa [VRels] using h
  | p :: l, G, w, vs, h => by
    simp only [List.flatMap_cons, encA, List.cons_append, List.nil_append, VRels, VRel] at h
    obtain ⟨v, us, rfl, rfl, v', us', rfl, rfl, h⟩ := h
    rw [rows_of l G w us' h]
    rfl
theorem rows_one (l : List Pr) : ∀ v ∈ l.flatMap encP, One v := by
  intro v hv
  obtain ⟨p, -, hp⟩ := List.mem_flatMap.1 hv
  simp only [encP, List.mem_cons, List.not_mem_nil, or_false] at hp
  rcases hp with rfl | rfl <;> exact ⟨(fun _ e => by cases e), (fun _ e => by cases e)⟩
theorem rows_len (l : List Pr) : (l.flatMap encA).length = l.length * 2 := by
  induction l with
  | nil => rfl
  | cons p l ih => simp only [List.flatMap_cons, List.length_append, ih, encA, List.length_cons, List.length_nil]; omega
theorem sort_a (l l' : List Pr) (h0 : 0 < l.length) (hl : l.length < 4611686018427387904) (hll : l'.length = l.length)
    (tot : ∀ x ∈ l, ∀ y ∈ l, x = y ∨ Op.bytesLess x.k y.k = true ∨ Op.bytesLess y.k x.k = true) (nd : l.Nodup) (hp : l'.Pairwise fun x y => Op.bytesLess x.k y.k = true) (hm : ∀ x, x ∈ l' ↔ x ∈ l)
    {id : Nat} {h : H} (ho : h.objs id = some (.cells (l.flatMap encA))) (htk : h.toks = []) :
    ACalls Try.prog 17 [.tsl 2 id 0 l.length none, .clo (.func 18) [] []] h (.tup []) { h with objs := upd h.objs id (some (.cells (l'.flatMap encA))) } := by
  have eg : ∀ args w, (callFunc 18 args).run Try.prog w = .ok (.enter 18 args) w := enters_of Try.func18 (by kernel_rfl) rfl
  have hlt : ltOf cfP = fun x y => Op.bytesLess x.k y.k := by funext x y; exact cf_lt x y
  refine sort_t (enc := encP) (encA := encA) (lt := ltOf cfP) (by omega) (fun _ => rfl) rows_len rows_rel rows_of rows_one l l' h0 hll (fun d' h1 h2 => ?_) (fun blk cap w hH hb => ?_) ho htk
  · refine sorted_one (lt := ltOf cfP) cf_swo.irrefl cf_swo.trans (fun x hx y hy => ?_) nd ?_ hm h1 h2
    · rw [cf_lt, cf_lt]; exact tot x hx y hy
    · rw [hlt]; exact hp
  · have := AnyQ.slices_SortFunc sort_lays 2 Try.isAgg42 Try.sizeOf42 encP (fun _ => rfl) (fun x v hv => by simp [encP] at hv; rcases hv with rfl | rfl <;> rfl) cfP cf_swo 18 #[] blk 0 cap l.toArray w eg (cmp_lays blk 0 l.toArray.size w) hH hb (by simpa using hl)
    exact this
end Go.Proofs.Ytobokfclaooloaa.Batch
end
section
set_option linter.unusedSimpArgs false
set_option linter.unusedVariables false
set_option maxRecDepth 100000
namespace Go.Av
section
variable {P : Program} {T : FT}
def runT0 (T : FT) (k f : Nat) (args : List AV) : Bool :=
  match allPure args, callF T noPrims (run T noPrims k) f args (H0 0 0) with
  | true, some (.tup [], _, _) => true
  | _, _ => false
theorem pcalls_runT0 (ok : T.Ok P) (nm : T.named P = true) {k f : Nat} {args : List AV} (h : runT0 T k f args = true) : PCalls P f args (.tup []) := by
  unfold runT0 at h
  split at h
  · rename_i h' en hp hc
    obtain ⟨⟨h1, h1', tc, ac⟩, -⟩ := callF_ok ok nm noPrims_ok (run_ok ok nm noPrims_ok k) hc
    have e : h1 = H0 0 0 := by
      refine H.ext (fun j => ?_) tc.n ?_ tc.m
      · cases hj : h1.objs j with
        | none => rfl
        | some o => have := tc.sub.1 j o hj; simp [H0, H.only, none'] at this
      · cases ht : h1.toks with
        | nil => rfl
        | cons t l => have := tc.sub.2 t (by rw [ht]; simp); simp [H0, H.only] at this
    subst e
    exact ac.pure0 (allPure_ok _ hp) (VSub.refl _) (isPure_ok _ rfl)
  · cases h
end
end Go.Av
namespace Go.Proofs.Ytobokfclaooloaa.Batch
open Go Go.Av Go.Proofs Go.Proofs.Ytobokfclaooloaa.C
theorem sort0_p : PCalls Try.prog 17 [.sl 2 [] .any, .clo (.func 18) [] []] (.tup []) :=
  pcalls_runT0 (k := 1000) tab_ok tab_named (by kernel_rfl)
theorem sortS0_p : PCalls Try.prog 24 [.sl 1 [] .any] (.tup []) :=
  pcalls_runT0 (k := 1000) tab_ok tab_named (by kernel_rfl)
end Go.Proofs.Ytobokfclaooloaa.Batch
end
section
set_option linter.unusedVariables false
set_option linter.unusedSimpArgs false
namespace Go.Av
section
variable {P : Program} {G : Ghost} {h : H} {w : World}
theorem elems_rows {sz : Nat} : ∀ (rows : List (List AV)) (vs : List Value), (∀ x ∈ rows, x.length = sz) → VRels G w rows.flatten vs → VElems G w sz (rows.map .agg) vs
  | [], vs, _, h => by simpa [VRels, VElems] using h
  | x :: rows, vs, hl, h => by
    have hx := hl x (by simp)
    have h1 := VRels.take sz h
    have h2 := VRels.drop sz h
    rw [List.flatten_cons, List.take_left' hx] at h1
    rw [List.flatten_cons, List.drop_left' hx] at h2
    have hn : (vs.take sz).length = sz := by have := VRels.length h1; omega
    simp only [List.map_cons, VElems]
    refine ⟨.agg (vs.take sz).toArray, vs.drop sz, by simp [Value.cells], by simpa [Value.cells] using hn, ?_, elems_rows rows _ (fun y hy => hl y (by simp [hy])) h2⟩
    simp only [VRel]
    exact ⟨_, rfl, h1⟩
theorem flatten_len {sz : Nat} : ∀ (rows : List (List AV)), (∀ x ∈ rows, x.length = sz) → rows.flatten.length = rows.length * sz
  | [], _ => by simp
  | x :: rows, h => by
    have := flatten_len rows fun y hy => h y (by simp [hy])
    have hx := h x (by simp)
    simp [this, hx, Nat.add_mul]; omega
open Classical in
theorem frz_tslK (R : RepH G h w) {d : Nat → Bool} {sz id : Nat} {rows : List (List AV)} {c : Option Nat} {v : Value} (hr : ∀ x ∈ rows, x.length = sz) (ho : h.objs id = some (.cells rows.flatten)) (hd : d id = true) (r : VRel G w (.tsl sz id 0 rows.length c) v) :
    VRel (G.frz h d) w (.sl sz (rows.map .agg) .any) v := by
  simp only [VRel] at r
  obtain ⟨-, ⟨C, cc, Tt, fr, rfl, ⟨h2, -⟩, -⟩ | ⟨h0, ⟨a, rfl⟩, -⟩⟩ := r
  · obtain ⟨-, r2, r3, vs, rest, T, fr', y1, y2, y3, y4⟩ := R.obj id _ ho
    have hlen := VRels.length y2
    have hfl := flatten_len rows hr
    have hx : VRels (G.frz h d) w rows.flatten vs := VRels.mono R (frz_trans d) _ _ y2
    unfold VRel
    refine .inr ⟨G.ι id, 0, C, vs, by simp, by simpa using h2, by simp; omega, elems_rows rows vs hr hx, ?_, trivial⟩
    intro i v hi
    have hi' := (List.getElem?_eq_some_iff.1 hi).1
    refine ⟨?_, y4 v (List.mem_of_getElem? hi), ?_, ?_⟩
    · unfold World.cell?
      simp only [y1, Nat.zero_add]
      simp [List.getElem?_append_left hi', hi]
    · exact fun x => x.2 ⟨id, _, hd, ho, rfl⟩
    · intro e he'
      have : h.DO G d (G.ι id) := ⟨id, _, hd, ho, rfl⟩
      simp [Ghost.frz, this] at he'
  · have : rows = [] := List.length_eq_zero_iff.1 h0
    subst this
    unfold VRel
    exact .inl ⟨by simp, ⟨_, rfl⟩, trivial⟩
def UpK (h : H) (q r : AV) : Prop := VSub q r ∨ ∃ (rows : List (List AV)) (id sz : Nat) (rest : List AV), q = .tup (.tsl sz id 0 rows.length none :: rest) ∧ (∀ x ∈ rows, x.length = sz) ∧ h.objs id = some (.cells rows.flatten) ∧ VSub (.tup (.sl sz (rows.map .agg) .any :: rest)) r
theorem ACalls.upK {f : FuncId} {args : List AV} {h h' : H} {q r : AV} (hc : ACalls P f args h q h') (u : UpK h' q r) : ACalls P f args h r (h'.drop fun _ => true) := by
  intro G w vs hv R F
  refine (hc G w vs hv R F).mono ?_
  rintro e w' ⟨v, G', rfl, T, R', V⟩
  refine ⟨v, G'.frz h' fun _ => true, rfl, T.trans R R' (frz_trans _), frz_rep R' _, ?_⟩
  rcases u with hs | ⟨rows, id, sz, rest, rfl, hr, ho, hs⟩
  · exact hs _ _ _ (VRel.mono R' (frz_trans _) _ _ V)
  · refine hs _ _ _ ?_
    simp only [VRel, VRels] at V ⊢
    obtain ⟨vs', e, v1, us, rfl, V1, V2⟩ := V
    exact ⟨_, e, v1, us, rfl, by simpa only [VRel] using frz_tslK R' hr ho rfl (by simpa only [VRel] using V1), VRels.mono R' (frz_trans _) _ _ V2⟩
theorem FnIs.pcallsK {f : FuncId} {N : Nat} {ac : AC} {args : List AV} {ds : List RV} {r : AV} (hF : FnIs P f N ac ds) (hl : args.length ≤ N) (ha : allPure args = true) (hp : isPure r = true) (hw : Wp P N ac ⟨initT args, H0 0 0⟩ fun e s' => isEnd e ∧ ∃ q, resOf ds s'.t s'.h = some q ∧ UpK s'.h q r) : PCalls P f args r := by
  obtain ⟨r', h', hcall, hs⟩ := hF.acalls (Q := fun r' h' => UpK h' r' r) hl hw
  exact (hcall.upK hs).pure0 (allPure_ok _ ha) (VSub.refl _) (isPure_ok _ hp)
end
end Go.Av
end
section
set_option linter.unusedVariables false
set_option linter.unusedSimpArgs false
namespace Go.Av
section
variable {P : Program} {N : Nat} {o : Oper} {t : Tm} {h : H} {en : Ent} {G : Ghost} {w : World}
theorem only1 {id n m : Nat} {c : Obj} {j : Nat} {o : Obj} (ho : (H.only (upd none' id (some c)) [] n m).objs j = some o) : j = id ∧ o = c := by
  simp only [H.only, upd, none'] at ho
  split at ho
  · cases ho; exact ⟨‹_›, rfl⟩
  · cases ho
theorem store_tail {id n m : Nat} {cs xs : List AV} {us : List Value} (R : RepH G (.only (upd none' id (some (.cells cs))) [] n m) w) (hn : ¬ G.dom n) (hr : VRels G w xs us) (h1 : ∀ v ∈ us, One v)
    {c : Array Value} {T0 : TypeId} {fr0 : Nat × Nat} (hc0 : w.heap[G.ι id]? = some (.cells c T0 fr0)) (hl : cs.length + xs.length ≤ c.size) :
    ∃ w' G', (storeCells ⟨G.ι id, cs.length, none⟩ us 0).run P w = .ok () w' ∧ Trans G w (.only (upd none' id (some (.cells cs))) [] n m) G' w' (.only (upd none' n (some (.cells (cs ++ xs)))) [] (n + 1) m) ∧ RepH G' (.only (upd none' n (some (.cells (cs ++ xs)))) [] (n + 1) m) w' ∧
      G'.dom n ∧ G'.ι n = G.ι id ∧ ∃ c' T' fr', w'.heap[G.ι id]? = some (.cells c' T' fr') ∧ c'.size = c.size := by
  have hme : (H.only (upd none' id (some (.cells cs))) [] n m).objs id = some (.cells cs) := by simp [H.only, upd]
  obtain ⟨d1, d2, d3, -⟩ := R.obj id _ hme
  obtain ⟨vs, rest, T, fr, hg, hvs, hfr, hone⟩ := obj_cells R hme
  have hlen := hvs.length
  have hul := hr.length
  have hcs : c.size = vs.length + rest.length := by
    rw [hg] at hc0
    cases hc0
    simp
  have hc : ∀ j, w.cell? ⟨G.ι id, j, none⟩ = (vs ++ rest)[j]? := by
    intro j; unfold World.cell?; simp only [hg]; simp
  have hcell : ∀ j, j < us.length → (w.cell? ⟨G.ι id, cs.length + 0 + j, none⟩).isSome = true := fun j hj => by rw [hc]; simp; omega
  have hfrz : ∀ j, j < us.length → w.frozen? ⟨G.ι id, cs.length + 0 + j, none⟩ = false := fun j hj => by
    unfold World.frozen?; simp only [hg]
    have : ¬ (fr.1 ≤ cs.length + 0 + j ∧ cs.length + 0 + j < fr.2) := fun h => by omega
    simpa using this
  have honec : ∀ v ∈ us, v.oneCell' = true := fun v hv => by
    obtain ⟨k1, k2⟩ := h1 v hv
    cases v with
    | agg a => exact absurd rfl (k1 a)
    | tuple a => exact absurd rfl (k2 a)
    | _ => rfl
  have hrun := run_storeCells_cells (P := P) (G.ι id) cs.length us 0 w hcell hfrz honec
  rw [Nat.add_zero] at hrun
  obtain ⟨a1, a2, a3, a4, a5⟩ := setCells_heap (G.ι id) T fr us cs.length (vs ++ rest) w hg (by simp; omega)
  have ecur : (vs ++ rest).take cs.length ++ us ++ (vs ++ rest).drop (cs.length + us.length) = (vs ++ us) ++ rest.drop us.length := by
    rw [List.take_append_of_le_length (by omega), List.take_of_length_le (by omega), List.drop_append, List.drop_of_length_le (by omega), hlen, List.nil_append]
    congr 2; omega
  rw [ecur] at a1
  clear hcell hfrz honec
  generalize w.setCells (G.ι id) cs.length us = w1 at *
  let G' : Ghost := { G with dom := fun j => G.dom j ∨ j = n, ι := upd G.ι n (G.ι id) }
  have hιn : G'.ι n = G.ι id := by simp [G', upd]
  have hι : ∀ j, G.dom j → G'.ι j = G.ι j := fun j hj => by
    simp only [G', upd]; rw [if_neg]; rintro rfl; exact hn hj
  refine ⟨w1, G', hrun, ?_⟩
  have T1 : Trans G w (.only (upd none' id (some (.cells cs))) [] n m) G' w1 (.only (upd none' n (some (.cells (cs ++ xs)))) [] (n + 1) m) := by
    constructor
    · exact fun _ x => .inl x
    · rintro j (x | rfl)
      · exact .inl x
      · exact .inr ⟨by simp [H.only], by simp [H.only]⟩
    · exact hι
    · exact fun _ x => x
    · exact fun _ => .inl
    · exact fun _ _ => rfl
    · simp [H.only]
    · exact Nat.le_refl _
    · rw [a3]; exact Nat.le_refl _
    · exact a4
    · exact a5
    · intro B hB
      by_cases hBi : B = G.ι id
      · subst hBi
        rw [a1, hg]
        exact ⟨_, _, rfl, by simp; omega, fun _ _ h => h⟩
      · rw [a2 B hBi]; exact SameForm.refl _
    · intro B hB hO _
      exact a2 B fun e => hO ⟨id, _, hme, e.symm⟩
    · exact fun _ _ _ => Iff.rfl
    · exact fun _ _ _ _ => rfl
    · rintro B hB ⟨t, ht, _⟩; simp [H.only] at ht
    · rintro B hB ⟨j, o, ho, e⟩
      obtain ⟨rfl, rfl⟩ := only1 ho
      exact ⟨id, _, hme, by rw [← e, hιn]⟩
    · rintro B hB ⟨t, ht, _⟩; simp [H.only] at ht
    · intro j o ho
      obtain ⟨rfl, rfl⟩ := only1 ho
      exact .inr ⟨by simp [H.only], by simp [H.only]⟩
    · intro t ht; simp [H.only] at ht
  refine ⟨T1, ⟨?_, ?_, ?_, ?_⟩, .inr rfl, hιn, _, T, fr, a1, ?_⟩
  · intro j o ho
    obtain ⟨rfl, rfl⟩ := only1 ho
    refine ⟨.inr rfl, by rw [hιn]; exact d2, by rw [hιn, a3]; exact d3, ?_⟩
    rw [hιn, a1]
    refine ⟨_, _, T, fr, rfl, (VRels.mono R T1 _ _ hvs).append (VRels.mono R T1 _ _ hr), hfr, ?_⟩
    intro v hv
    rcases List.mem_append.1 hv with hv | hv
    · exact hone v hv
    · exact h1 v hv
  · intro j j' o o' ho ho' _
    rw [(only1 ho).1, (only1 ho').1]
  · intro t ht; simp [H.only] at ht
  · intro t ht; simp [H.only] at ht
  · simp; omega
theorem Trans.weak1 {id n m : Nat} {c : Obj} {G' : Ghost} {w' : World} {h' : H} (T : Trans G w (.only none' [] n m) G' w' h') : Trans G w (.only (upd none' id (some c)) [] n m) G' w' h' := by
  constructor
  · exact T.dom_le
  · exact T.dom_new
  · exact T.ι_eq
  · exact T.tdom_le
  · exact T.tdom_new
  · exact T.τ_eq
  · exact T.n_le
  · exact T.m_le
  · exact T.size_le
  · exact T.os
  · exact T.output
  · exact T.form
  · exact fun B hB _ _ => T.keep B hB (only_O B) (only_T0 B)
  · exact fun B hB _ => T.own_keep B hB (only_O B)
  · exact fun B hB _ _ => T.lim_keep B hB (only_O B) (only_T0 B)
  · exact fun B hB x => absurd x (only_T0 B)
  · exact fun B hB x => absurd (T.O_new B hB x) (only_O B)
  · exact fun B hB x => absurd (T.T_new B hB x) (only_T0 B)
  · intro j o ho
    rcases T.objs_new j o ho with ⟨o', x⟩ | x
    · simp [H.only, none'] at x
    · exact .inr x
  · exact T.toks_new
theorem touch_next (h : H) {id : Nat} {ob ob' : Obj} (ho : h.objs id = some ob) : Touch h (.only (upd none' id (some ob)) [] h.n h.m) (.only (upd none' h.n (some ob')) [] (h.n + 1) h.m) { h with objs := upd (fun j => if j = id then none else h.objs j) h.n (some ob'), n := h.n + 1 } ⟨[], [id, h.n], []⟩ where
  sub := ⟨fun j o hj => by obtain ⟨rfl, rfl⟩ := only1 hj; exact ho, fun t ht => by simp [H.only] at ht⟩
  n := rfl
  m := rfl
  eq := by
    refine H.ext (fun j => ?_) rfl (by simp [H.patch, H.only]; exact (List.filter_eq_self.2 fun _ _ => rfl).symm) rfl
    simp only [H.patch, H.only, upd, none']
    by_cases e1 : j = h.n
    · subst e1; simp
    · by_cases e2 : j = id
      · subst e2; simp [e1]
      · have : ¬ (h.n ≤ j ∧ j < h.n + 1) := by omega
        simp [e1, e2, this]
  rd j x := by
    right
    simp only [H.only, upd, none'] at x
    split at x
    · rename_i e; simp [e]
    · simp at x
  wr j a b := by simp only [H.only] at a b; simp; omega
  chg j x hx := by
    simp only [H.only, upd, none'] at x
    split at x
    · rename_i e; subst e; simp at hx
    · simp at x
  tk t x := by simp [H.only] at x
  tn t x := by simp [H.only] at x
  le := by simp [H.only]
  lem := Nat.le_refl _
theorem appK_loc {c : Call} {zs zx : Operand} {ys yx : Opd} {T U e : TypeId} {d : TypeDesc} {i : TypeInfo} {id len : Nat} {cap : Option Nat} {cs els : List AV} (hop : o.op = .call c) (hc : c.callee = .builtin .append) (ha : c.args.toList = [zs, zx]) (hta : c.argTypes.toList = [T, U])
    (hT : P.underlying T = some (.slice e)) (hU : P.underlying U = some d) (hd : (∃ e', d = .slice e') ∨ d = .string) (hi : P.info? e = some i) (hz : i.zero.any (fun z => z.cells.size == i.size) = true) (hsz : 0 < i.size)
    (hys : opd P T zs = some ys) (hyx : opd P U zx = some yx) (hs : ev t ys = .tsl i.size id 0 len cap) (ho : h.objs id = some (.cells cs)) (hcl : cs.length = len * i.size) (hx : ∃ s' c', ev t yx = .sl s' els c' ∧ s' = i.size) (hsh : els.all shaped = true)
    (hb : (len + els.length) * i.bytes ≤ 140737488355328) (hlen : len + els.length < 4611686018427387904) :
    Loc P o t h (.tsl i.size h.n 0 (len + els.length) none) { h with objs := upd (fun j => if j = id then none else h.objs j) h.n (some (.cells (cs ++ els.flatMap cellsOf))), n := h.n + 1 } ⟨[], [id, h.n], []⟩ := by
  have ha' : c.args = #[zs, zx] := by rw [← Array.toArray_toList (xs := c.args), ha]
  have hta' : c.argTypes = #[T, U] := by rw [← Array.toArray_toList (xs := c.argTypes), hta]
  obtain ⟨z, hz1, hz2⟩ : ∃ z, i.zero = some z ∧ z.cells.size = i.size := by
    cases hzz : i.zero with
    | none => rw [hzz] at hz; simp at hz
    | some z => rw [hzz] at hz; exact ⟨z, rfl, by simpa using hz⟩
  refine ⟨_, _, touch_next h ho, fun G w a ht R F => ?_⟩
  have r1 := opd_rel hys ht
  have r2 := opd_rel hyx ht
  rw [hs] at r1
  obtain ⟨s', c', hx, hs'⟩ := hx
  rw [hx] at r2
  obtain ⟨news, n1, n2, n3⟩ := src_slice (P := P) (.inl hs') r2
  have hnl := n2.length
  have hnr := rels_of_elems n2 hsh
  have hnrl := hnr.length
  have hdn : ¬ G.dom h.n := F.1 h.n (by simp [H.only]) (by simp [H.only])
  have hme : (H.only (upd none' id (some (.cells cs))) [] h.n h.m).objs id = some (.cells cs) := by simp [H.only, upd]
  obtain ⟨d1, d2, d3, -⟩ := R.obj id _ hme
  obtain ⟨vs, rest, T0, fr, hg, hvs, hfr, hone⟩ := obj_cells R hme
  have hvl := hvs.length
  have hmul : (len + els.length) * i.size = len * i.size + els.length * i.size := Nat.add_mul _ _ _
  have fin : ∀ v w' G', (execOp a.eval o).run P w = .ok (.value v) w' → Trans G w (.only (upd none' id (some (.cells cs))) [] h.n h.m) G' w' (.only (upd none' h.n (some (.cells (cs ++ els.flatMap cellsOf)))) [] (h.n + 1) h.m) → RepH G' (.only (upd none' h.n (some (.cells (cs ++ els.flatMap cellsOf)))) [] (h.n + 1) h.m) w' → VRel G' w' (.tsl i.size h.n 0 (len + els.length) none) v →
      ∃ nx v w' G', (execOp a.eval o).run P w = .ok nx w' ∧ (nx = .value v ∨ nx = .skip ∧ v = undef) ∧ Trans G w (.only (upd none' id (some (.cells cs))) [] h.n h.m) G' w' (.only (upd none' h.n (some (.cells (cs ++ els.flatMap cellsOf)))) [] (h.n + 1) h.m) ∧ RepH G' (.only (upd none' h.n (some (.cells (cs ++ els.flatMap cellsOf)))) [] (h.n + 1) h.m) w' ∧ VRel G' w' (.tsl i.size h.n 0 (len + els.length) none) v :=
    fun v w' G' a b c d => ⟨_, v, w', G', a, .inl rfl, b, c, d⟩
  have hex : ∀ {va vx r : Value} {w' : World}, a.eval zs = va → (Builtin.append_ #[T, U] o.type #[va, a.eval zx]).run P w = .ok r w' → (execOp a.eval o).run P w = .ok (.value r) w' := by
    intro va vx r w' h1 h2
    simp [execOp, hop, resolve, hc, ha', hta', invoke, builtin, h1, h2]
  simp only [VRel] at r1
  obtain ⟨-, ⟨C, c1, T1, fr1, hv, ⟨hC, hC2⟩, -, hg1, hroom⟩ | ⟨rfl, ⟨a0, hv⟩, -⟩⟩ := r1
  · have hc1 : c1.size = vs.length + rest.length := by rw [hg] at hg1; cases hg1; simp
    by_cases hfit : len + els.length ≤ C
    · have hCs : (len + els.length) * i.size ≤ C * i.size := Nat.mul_le_mul_right _ hfit
      obtain ⟨w', G', q1, q2, q3, q4, q5, c', T', fr', q6, q7⟩ := store_tail (P := P) R hdn hnr n3 hg1 (by omega)
      have hst : (storeCells ((⟨G.ι id, 0, none⟩ : Addr).add (len * i.size)) news).run P w = .ok () w' := by
        have e : (⟨G.ι id, 0, none⟩ : Addr).add (len * i.size) = ⟨G.ι id, cs.length, none⟩ := by rw [add_plain, hcl, Nat.zero_add]
        rw [e]; exact q1
      refine fin _ w' G' (hex (vx := .nilIface) hv (run_append_fits (ty := o.type) hT hU hd hi n1 hfit hst)) q2 q3 ?_
      unfold VRel
      refine ⟨q4, .inl ⟨C, c', T', fr', by rw [q5], ⟨hfit, hC2⟩, (fun _ h => by cases h), by rw [q5]; exact q6, by omega⟩⟩
    · have hsrc : Src P w i.size (.slice (some ⟨G.ι id, 0, none⟩) len C) len vs := by
        refine ⟨by simp [Builtin.lenOf], fun w' hw => ?_⟩
        have := run_loadCells_list (P := P) w' ⟨G.ι id, 0, none⟩ vs (fun j u hu => by
          rw [add_plain, cell_of_heap hw]
          unfold World.cell?
          simp only [hg]
          have hj := (List.getElem?_eq_some_iff.1 hu).1
          simp [List.getElem?_append_left hj, hu])
        simp only [Builtin.firstCells]
        rw [← hcl, ← hvl]; exact this
      obtain ⟨w', C', rest', e1, e2, e3, e4⟩ := run_append_grows (ty := o.type) hT hU hd hi hz1 hz2 hsz n1 hsrc hfit hC hb hlen
      obtain ⟨G', T2, R2, V⟩ := new_tsl (m := h.m) (sz := i.size) (cs := cs ++ els.flatMap cellsOf) e2 (hvs.append hnr) (fun u hu => by
        rcases List.mem_append.1 hu with h | h
        · exact hone u h
        · exact n3 u h) hdn e3 (by simp only [List.length_append]; omega)
      exact fin _ w' G' (hex (vx := .nilIface) hv e1) T2.weak1 R2 V
  · by_cases hk : els = []
    · subst hk
      have hnn : news = [] := by simpa [VElems] using n2
      subst hnn
      have hcs0 : cs = [] := by
        cases cs with
        | nil => rfl
        | cons x l => simp at hcl
      subst hcs0
      obtain ⟨w', G', q1, q2, q3, q4, q5, -⟩ := store_tail (P := P) (xs := []) (us := []) R hdn .nil (by simp) hg (by simp)
      have hw' : w' = w := by simpa [storeCells] using q1.symm
      subst hw'
      refine fin _ w' G' (hex (vx := .nilIface) hv (run_append_fits (ty := o.type) hT hU hd hi n1 (Nat.le_refl _) (w' := w') (by cases a0 <;> rfl))) q2 q3 ?_
      unfold VRel
      exact ⟨q4, .inr ⟨rfl, ⟨a0, rfl⟩, fun _ h => by cases h⟩⟩
    · have hpos : 0 < els.length := List.length_pos_iff.2 hk
      have hcs0 : cs = [] := by
        cases cs with
        | nil => rfl
        | cons x l => simp at hcl
      subst hcs0
      obtain ⟨w', C', rest', e1, e2, e3, e4⟩ := run_append_grows (ty := o.type) hT hU hd hi hz1 hz2 hsz n1 (src_none (some a0)) (by omega) (Nat.le_refl _) (by simpa using hb) (by simpa using hlen)
      rw [List.nil_append] at e2
      obtain ⟨G', T2, R2, V⟩ := new_tsl (m := h.m) (sz := i.size) e2 hnr n3 hdn e3 (by omega)
      exact fin _ w' G' (hex (vx := .nilIface) hv e1) T2.weak1 R2 V
def aopK (ρ : Opd → AV) (h : H) : AOp → Option (AV × H × Ent)
  | .app false sz bytes s x => match ρ s, ρ x with
    | .tsl z id 0 len _, .sl s' els _ => match h.objs id with
      | some (.cells cs) => if z = sz ∧ s' = sz ∧ cs.length = len * sz ∧ els.all shaped = true ∧ (len + els.length) * bytes ≤ 140737488355328 ∧ len + els.length < 4611686018427387904 then
          some (.tsl sz h.n 0 (len + els.length) none, { h with objs := upd (fun j => if j = id then none else h.objs j) h.n (some (.cells (cs ++ els.flatMap cellsOf))), n := h.n + 1 }, ⟨[], [id, h.n], []⟩) else none
      | _ => none
    | _, _ => none
  | _ => none
theorem aopK_loc {op : AOp} {x : AV} {h' : H} (hc : cOp P o = some op) (hx : aopK (ev t) h op = some (x, h', en)) : Loc P o t h x h' en := by
  cases op <;> (try (simp [aopK] at hx; done))
  case app str sz bytes s x0 =>
    cases str <;> (try (simp [aopK] at hx; done))
    obtain ⟨c, zs, zx, T, U, e, e', i, hop, hcal, ha, hta, hys, hyx, hT, hU, hi, hs1, hs2, rfl, rfl⟩ := cOp_app hc
    simp only [aopK] at hx
    split at hx
    · split at hx
      · split at hx
        · rename_i hq
          obtain ⟨q1, q2, q3, q4, q5, q6⟩ := hq
          subst q1
          cases hx
          exact appK_loc hop hcal ha hta hT hU (.inl ⟨_, rfl⟩) hi hs2 hs1 hys hyx ‹_› ‹_› q3 ⟨_, _, ‹_›, q2⟩ q4 q5 q6
        · cases hx
      · cases hx
    · cases hx
theorem aopK_congr {ρ ρ' : Opd → AV} {op : AOp} (hx : ∀ y ∈ opdsOf op, ρ y = ρ' y) : aopK ρ h op = aopK ρ' h op := by
  cases op <;> (try rfl)
  case app str sz bytes s x0 =>
    cases str
    · simp only [aopK, hx s (by simp [opdsOf]), hx x0 (by simp [opdsOf])]
    · rfl
theorem itrun_opK {ops : Array Oper} {i : Nat} {o : Oper} {it : AItem} {t : Tm} {h h' : H} {x : AV} {en : Ent} (ho : ops[i]? = some o) (hit : cItem P N ops o = some it) (hg : guardOf t it.guard = some true) (hx : aopK (ev t) h it.op = some (x, h', en)) :
    ∃ h1 h1', Touch h h1 h1' h' en ∧ ItRun P ops i o t h1 x h1' := by
  unfold cItem at hit
  split at hit
  · rename_i op g hop hgd
    split at hit <;> cases hit
    rename_i hcond
    simp only [Bool.and_eq_true] at hcond
    have hop := cOpD_of hop (by rintro rfl; simp [aopK] at hx)
    have hx' : aopK (ev (cutTo (names ops o) t)) h op = some (x, h', en) := by
      rw [aopK_congr (cut_ev hcond.2)]; exact hx
    obtain ⟨h1, h1', tc, loc⟩ := aopK_loc hop hx'
    refine ⟨h1, h1', tc, fun G w a ht R F K Q hK ro => ?_⟩
    obtain ⟨nx, v, w', G', e1, e2, T1, R1, V⟩ := loc G w a (cut_rel ht) R F
    unfold wpOpIn
    rw [ho]
    simp only [guard_wanted hgd ht hg, if_true]
    refine ⟨fun _ _ => trivial, ?_⟩
    rw [Oper.semAt_eq _ _ _ (cOp_plain hop), e1]
    rcases e2 with rfl | ⟨rfl, rfl⟩
    · rw [Oper.uponIn_value]; exact hK G' w' v T1 R1 V
    · rw [Oper.uponIn_skip]; exact hK G' w' undef T1 R1 V
  · cases hit
theorem WpItems.opK {dst : Option Nat} {g : Option (Nat × Bool)} {op : AOp} {its : List AItem} {t : Tm} {h h' : H} {log : List Ent} {en : Ent} {K : Tm → H → List Ent → Prop} {x : AV} (hg : guardOf t g = some true) (hx : aopK (ev t) h op = some (x, h', en)) (ht : touchy op = true)
    (rest : WpItems P N its (putT t dst x) h' (en :: log) K) : WpItems P N (⟨dst, g, op⟩ :: its) t h log K := by
  intro ops i hi hc
  obtain ⟨o, ho, hit, hi', hc'⟩ := items_cons hi hc
  obtain ⟨h1, h1', tc, run⟩ := itrun_opK ho hit hg hx
  obtain ⟨recs, t', hh', ch, hk, hen⟩ := rest ops (i + 1) hi' hc'
  have hdst : dst = o.dst := by
    unfold cItem at hit
    split at hit
    · split at hit <;> cases hit; rfl
    · cases hit
  refine ⟨⟨t, h, h1, h1', h', x, en⟩ :: recs, t', hh', .cons ho rfl rfl tc run (by rw [← hdst]; exact ch), by simpa using hk, ?_⟩
  intro k r it' hr hit' ht'
  cases k with
  | zero =>
    simp at hr hit'; subst hr hit'
    rw [ht] at ht'; cases ht'
  | succ k => simp at hr hit'; exact hen k r it' hr hit' ht'
theorem WpItemsN.opK {dst : Option Nat} {g : Option (Nat × Bool)} {op : AOp} {its : List AItem} {t : Tm} {h h' : H} {en : Ent} {K : Tm → H → Prop} {x : AV} (hg : guardOf t g = some true) (hx : aopK (ev t) h op = some (x, h', en))
    (rest : WpItemsN P N its (putT t dst x) h' K) : WpItemsN P N (⟨dst, g, op⟩ :: its) t h K :=
  WpItemsN.step (it := ⟨dst, g, op⟩) (fun ops i o ho hit => itrun_opK ho hit hg hx) rest
end
end Go.Av
end
section
set_option linter.unusedSimpArgs false
set_option linter.unusedVariables false
set_option maxRecDepth 10000
namespace Go.Av
theorem OLe.refl' (f : Nat → Option Obj) : OLe f f := fun j o h => ⟨o, h, OSub.refl o⟩
end Go.Av
namespace Go.Proofs.Ytobokfclaooloaa.Space
open Go Go.Av Go.Proofs Go.Proofs.Ytobokfclaooloaa.C Go.Proofs.Ytobokfclaooloaa.Batch
def cellsP (o : List Pr) : Av.Obj := .cells (o.flatMap encA)
def pO (o : List Pr) (k : Nat) (f : Nat → Option Av.Obj) : Nat → Option Av.Obj := if o = [] then f else upd f k (some (cellsP o))
def pV (o : List Pr) (k : Nat) : AV := if o = [] then .sl 2 [] (.exact 0) else .tsl 2 k 0 o.length none
theorem pO_upd {o : List Pr} {k n : Nat} {f : Nat → Option Av.Obj} {X : Option Av.Obj} (h : o ≠ [] → k ≠ n) : upd (pO o k f) n X = pO o k (upd f n X) := by
  unfold pO
  split
  · rfl
  · rename_i ho
    have h := h ho
    funext j
    simp only [upd]
    by_cases h1 : j = n
    · subst h1; simp [Ne.symm h]
    · simp [h1]
theorem pO_at {o : List Pr} {k n : Nat} {f : Nat → Option Av.Obj} (h : n ≠ k) : pO o k f n = f n := by
  unfold pO
  split
  · rfl
  · simp [upd, h]
theorem pO_row {o : List Pr} {k : Nat} {f : Nat → Option Av.Obj} (h : o ≠ []) : pO o k f k = some (cellsP o) := by
  unfold pO
  rw [if_neg h]; simp [upd]
theorem pO_le {o : List Pr} {k : Nat} {g : Nat → Option Av.Obj} (h : o ≠ [] → g k = some (cellsP o)) : OLe g (pO o k none') := by
  intro j p hp
  unfold pO at hp
  split at hp
  · simp [none'] at hp
  · rename_i hne
    simp only [upd, none'] at hp
    split at hp
    · rename_i e; subst e; cases hp; exact ⟨_, h hne, OSub.refl _⟩
    · cases hp
theorem pO_le2 {o : List Pr} {k n : Nat} {g : Nat → Option Av.Obj} {X : Av.Obj} (h : o ≠ [] → g k = some (cellsP o)) (hn : g n = some X) : OLe g (pO o k (upd none' n (some X))) := by
  intro j p hp
  unfold pO at hp
  split at hp
  · simp only [upd, none'] at hp
    split at hp
    · rename_i e; subst e; cases hp; exact ⟨_, hn, OSub.refl _⟩
    · cases hp
  · rename_i hne
    simp only [upd, none'] at hp
    split at hp
    · rename_i e; subst e; cases hp; exact ⟨_, h hne, OSub.refl _⟩
    · split at hp
      · rename_i e; subst e; cases hp; exact ⟨_, hn, OSub.refl _⟩
      · cases hp
theorem cells_snoc (o : List Pr) (p : Pr) : o.flatMap encA ++ ([encPr p] : List AV).flatMap cellsOf = (o ++ [p]).flatMap encA := by simp [encA, encPr, cellsOf]
theorem cellsP_len (o : List Pr) : (o.flatMap encA).length = o.length * 2 := rows_len o
set_option maxHeartbeats 4000000 in
theorem pairs_p (l : List It) (sl : SmI l) (hp : (prL l).length ≤ 100000) : PCalls Try.prog 7 [.sl 2 (l.map encI) .any] (.tup [.sl 2 (prs (if okL l then sortedP (prL l) else [])) .any, .int .i64 (if okL l then 0 else 2)]) := by
  refine f7.pcallsK (by simp) (by simp [allPure, isPure, capPure, its_pure]) (by simp [isPure, allPure, capPure, prs_pure]) ?_
  unfold c7
  have hn := sl.n
  have hil : (l.map encI).length = l.length := by simp
  have bad : okL l = false → VSub (.tup [.sl 2 [] (.exact 0), .int .i64 2]) (.tup [.sl 2 (prs (if okL l then sortedP (prL l) else [])) .any, .int .i64 (if okL l then 0 else 2)]) := fun h => by
    rw [h]; exact VSub.tup (VSubs.cons VSub.cap (VSubs.refl _))
  repeat (first
    | ((first | apply Wp.seqItemsR | apply Wp.itemsR); (· simp only [go_sem, reduceIte, Nat.reduceEqDiff, Nat.reduceAdd, bx, ax, if_true, if_false, Nat.reduceMul, Nat.reduceLeDiff, hil]; exact rfl))
    | (refine WpItems.nil ⟨?_, ?_⟩; (· first | trivial | simp [pairsQ, pairsOk, apart, ent0]))
    | (apply Wp.cond_lit; (· simp only [go_sem, reduceIte, Nat.reduceEqDiff, Nat.reduceAdd, bx, ax, if_true, if_false, Nat.reduceMul, Nat.reduceLeDiff, hil]; exact rfl); (· rfl))
    | refine Wp.skip ?_
    | refine Wp.label ?_
    | refine Wp.block ?_
    | refine Wp.exit ?_
    | refine Wp.seq ?_)
  refine Wp.loopH (β := Nat × Nat × Nat) [0, 9, 10] (by simp only [go_sem, reduceIte, Nat.reduceEqDiff, List.map]; exact rfl) (fun b => [(4, pV (prL (l.take b.1)) b.2.1), (11, .int .i64 (b.1 : Nat))]) (fun b => ⟨pO (prL (l.take b.1)) b.2.1 none', b.2.2, [], 0⟩) (fun b => b.1 ≤ l.length ∧ (prL (l.take b.1) ≠ [] → b.2.1 < b.2.2) ∧ ∀ i, i < b.1 → itOk l i = true) (fun b => l.length - b.1) (0, 0, 0) ⟨Nat.zero_le _, fun h => absurd rfl h, fun i h => absurd h (by simp)⟩ ?_ ?_ ?_
  · simp [pO, prL, H0, H.only]
  · simp only [AllSub, go_sem, reduceIte, Nat.reduceEqDiff, Nat.reduceAdd, bx]; and_intros <;> first | exact trivial | exact VSub.refl _ | exact VSub.any _ | exact VSub.of_eq (by simp [pV, prL]) | (refine VSub.int ?_; omega)
  rintro ⟨i, k, n⟩ ⟨hi, hk, hs⟩
  simp only at hi hk hs ⊢
  by_cases hc : i < l.length
  · have g1 : decide (((i : Nat) : Int) < ((l.length : Nat) : Int)) = true := decide_eq_true (by omega)
    have h2 : (0 : Int) ≤ ((i : Nat) : Int) := by omega
    have h3 : ((i : Nat) : Int) < ((l.length : Nat) : Int) := by omega
    have e1 : IntKind.i64.wrap (((i : Nat) : Int) + 1) = ((i + 1 : Nat) : Int) := by rw [IntWalk.i64_in _ (by omega)]; omega
    have hat := enc_at encI l i .any hc
    obtain ⟨lk, lv⟩ := sl.at hc
    have no : itOk l i = false → okL l = false := fun h => all_no hc h
    have htk := prL_take hc
    have hle := prL_le l (i + 1)
    rw [htk, List.length_append] at hle
    have hpi : (prI (l.getD i default)).length = (l.getD i default).2.length := by simp [prI]
    have hmy := bmay_p (l.getD i default) (by omega)
    cases hm : mayI (l.getD i default) with
    | false =>
      rw [hm] at hmy
      have nm := no (itOk_may hm)
      generalize l.getD i default = x at *
      simp only [encI, vAV] at hmy
      repeat (first
        | ((first | apply Wp.seqItemsR | apply Wp.itemsR | ((first
            | (refine WpItems.pcall ?_ ?_ (hmy) ?_; (· simp only [go_sem, reduceIte, Nat.reduceEqDiff, Nat.reduceAdd, bx]); (· simp only [go_sem, reduceIte, Nat.reduceEqDiff, Nat.reduceAdd, bx, List.map]; first | exact VSubs.refl _ | (repeat (first | exact VSubs.nil | refine VSubs.cons (by first | exact VSub.refl _ | assumption | exact VSub.cap | exact VSub.any _) ?_))))); apply WpItems.evR)); (· simp only [go_sem, reduceIte, Nat.reduceEqDiff, Nat.reduceAdd, bx, ax, if_true, if_false, Nat.reduceMul, Nat.reduceLeDiff, hil, g1, h2, h3, hat, encI, vAV, Bool.not_false]; exact rfl))
        | (refine WpItems.nil ⟨?_, ?_⟩; (· first | trivial | simp [pairsQ, pairsOk, apart, ent0]))
        | (apply Wp.cond_lit; (· simp only [go_sem, reduceIte, Nat.reduceEqDiff, Nat.reduceAdd, bx, ax, if_true, if_false, Nat.reduceMul, Nat.reduceLeDiff, hil, g1, h2, h3, hat, encI, vAV, Bool.not_false]; exact rfl); (· rfl))
        | refine Wp.skip ?_
        | refine Wp.label ?_
        | refine Wp.block ?_
        | refine Wp.exit ?_
        | refine Wp.seq ?_)
      refine Wp.ret ⟨trivial, _, rfl, ?_⟩
      simp only [go_sem, reduceIte, Nat.reduceEqDiff, Nat.reduceAdd, bx]
      exact .inl (bad nm)
    | true =>
      rw [hm] at hmy
      by_cases hz : i = 0
      · have g2 : decide ((0 : Int) < (i : Int)) = false := decide_eq_false (by omega)
        have hit : itOk l i = true := (itOk_zero hz).trans hm
        obtain ⟨m1, m2, m3, m4⟩ := mayI_iff.1 hm
        generalize l.getD i default = x at *
        simp only [encI, vAV] at hmy
        repeat (first
          | ((first | apply Wp.seqItemsR | apply Wp.itemsR | ((first
              | (refine WpItems.pcall ?_ ?_ (hmy) ?_; (· simp only [go_sem, reduceIte, Nat.reduceEqDiff, Nat.reduceAdd, bx]); (· simp only [go_sem, reduceIte, Nat.reduceEqDiff, Nat.reduceAdd, bx, List.map]; first | exact VSubs.refl _ | (repeat (first | exact VSubs.nil | refine VSubs.cons (by first | exact VSub.refl _ | assumption | exact VSub.cap | exact VSub.any _) ?_))))); apply WpItems.evR)); (· simp only [go_sem, reduceIte, Nat.reduceEqDiff, Nat.reduceAdd, bx, ax, if_true, if_false, Nat.reduceMul, Nat.reduceLeDiff, hil, g1, h2, h3, hat, encI, vAV, List.length_map, Bool.not_true, g2]; exact rfl))
          | (refine WpItems.nil ⟨?_, ?_⟩; (· first | trivial | simp [pairsQ, pairsOk, apart, ent0]))
          | (apply Wp.cond_lit; (· simp only [go_sem, reduceIte, Nat.reduceEqDiff, Nat.reduceAdd, bx, ax, if_true, if_false, Nat.reduceMul, Nat.reduceLeDiff, hil, g1, h2, h3, hat, encI, vAV, List.length_map, Bool.not_true, g2]; exact rfl); (· rfl))
          | refine Wp.skip ?_
          | refine Wp.label ?_
          | refine Wp.block ?_
          | refine Wp.exit ?_
          | refine Wp.seq ?_)
        rw [pO_upd (fun h => Nat.ne_of_lt (hk h)), pO_upd (fun h => Nat.ne_of_lt (hk h)), upd_upd']
        refine Wp.loopH (β := Nat × Nat × Nat) [0, 6, 9, 10, 11, 35, 36] (by simp only [go_sem, reduceIte, Nat.reduceEqDiff, List.map]; exact rfl) (fun b => [(4, pV (prL (l.take i) ++ (x.2.take b.1).map (prV x.1)) b.2.1), (37, .int .i64 (b.1 : Nat))]) (fun b => ⟨pO (prL (l.take i) ++ (x.2.take b.1).map (prV x.1)) b.2.1 (upd none' n (some (.cells [.str x.1, .sl 3 (x.2.map encV) .any]))), b.2.2, [], 0⟩) (fun b => b.1 ≤ x.2.length ∧ n < b.2.2 ∧ (prL (l.take i) ++ (x.2.take b.1).map (prV x.1) ≠ [] → b.2.1 < b.2.2 ∧ b.2.1 ≠ n)) (fun b => x.2.length - b.1) (0, k, n + 1) ⟨Nat.zero_le _, by simp only; omega, fun h => ?_⟩ ?_ ?_ ?_
        · simp only [List.take_zero, List.map_nil, List.append_nil] at h
          have := hk h
          exact ⟨by simp only; omega, by simp only; omega⟩
        · simp
        · simp only [AllSub, go_sem, reduceIte, Nat.reduceEqDiff, Nat.reduceAdd, bx]; and_intros <;> first | exact trivial | exact VSub.refl _ | exact VSub.any _ | exact VSub.of_eq (by simp) | (refine VSub.int ?_; omega)
        rintro ⟨j, k', n'⟩ ⟨hj, hn', hk'⟩
        simp only at hj hn' hk' ⊢
        have hol : (prL (l.take i) ++ (x.2.take j).map (prV x.1)).length ≤ 100000 := by
          simp only [List.length_append, List.length_map, List.length_take]; omega
        by_cases hjc : j < x.2.length
        · have kg1 : decide (((j : Nat) : Int) < ((x.2.length : Nat) : Int)) = true := decide_eq_true (by omega)
          have kh2 : (0 : Int) ≤ ((j : Nat) : Int) := by omega
          have kh3 : ((j : Nat) : Int) < ((x.2.length : Nat) : Int) := by omega
          have ke1 : IntKind.i64.wrap (((j : Nat) : Int) + 1) = ((j + 1 : Nat) : Int) := by rw [IntWalk.i64_in _ (by omega)]; omega
          have kat := enc_at encV x.2 j .any hjc
          have hv := okV_iff.1 (chB_ok m3 hjc)
          have htv : x.2.take (j + 1) = x.2.take j ++ [x.2.getD j default] := Av.take_snoc default hjc
          have hpr := pair_p x.1 (by omega) (x.2.getD j default) (by omega) hv.2.1 (by omega)
          have hsn : prL (l.take i) ++ (x.2.take (j + 1)).map (prV x.1) = (prL (l.take i) ++ (x.2.take j).map (prV x.1)) ++ [prV x.1 (x.2.getD j default)] := by
            rw [htv, List.map_append, List.append_assoc]; rfl
          generalize prL (l.take i) ++ (x.2.take j).map (prV x.1) = o at *
          generalize x.2.getD j default = v at *
          simp only [encV] at hpr
          have n1 : ¬ (n = n') := by omega
          have n2 : ¬ (n = n' + 1) := by omega
          have n3 : ¬ (n' = n' + 1) := by omega
          have hFn : pO o k' (upd none' n (some (Av.Obj.cells [.str x.1, .sl 3 (x.2.map encV) .any]))) n = some (Av.Obj.cells [.str x.1, .sl 3 (x.2.map encV) .any]) := by
            by_cases ho : o = []
            · rw [pO, if_pos ho]; simp [upd]
            · rw [pO_at (fun e => (hk' ho).2 e.symm)]; simp [upd]
          have hFk : o ≠ [] → pO o k' (upd none' n (some (Av.Obj.cells [.str x.1, .sl 3 (x.2.map encV) .any]))) k' = some (cellsP o) := pO_row
          generalize pO o k' (upd none' n (some (Av.Obj.cells [.str x.1, .sl 3 (x.2.map encV) .any]))) = F at *
          refine Wp.seqReg (by simp only [go_sem, reduceIte, Nat.reduceEqDiff, Nat.reduceAdd, bx, kg1]; exact rfl) (by trivial) ?_
          refine Wp.seq ?_
          refine Wp.cond_true (by simp only [go_sem, reduceIte, Nat.reduceEqDiff, Nat.reduceAdd, bx]) ?_
          refine Wp.skip ?_
          refine Wp.seq ?_
          refine Wp.block ?_
          refine Wp.seqReg (by simp only [go_sem, reduceIte, Nat.reduceEqDiff, Nat.reduceAdd, bx, kh2, kh3, kat, List.length_map, encV, and_self, if_true, Int.toNat_natCast]; exact rfl) (by trivial) ?_
          by_cases ho : o = []
          · subst ho
            have hv0 : pV [] k' = .sl 2 [] (.exact 0) := rfl
            rw [hv0]
            refine Wp.reg ?_
            refine WpItems.part 4 (by simp only [go_sem, reduceIte, Nat.reduceEqDiff, Nat.reduceAdd, bx, ax, if_true, if_false, Nat.reduceMul, Nat.reduceLeDiff, n1, hFn]; exact rfl) ?_
            simp only [List.drop_succ_cons, List.drop_zero, List.drop_nil]
            refine WpItems.pcall (by simp only [go_sem, reduceIte, Nat.reduceEqDiff, Nat.reduceAdd, bx]) (by simp only [go_sem, reduceIte, Nat.reduceEqDiff, Nat.reduceAdd, bx, List.map]; exact VSubs.refl _) (hpr) ?_
            refine WpItems.part 1 (by simp only [go_sem, reduceIte, Nat.reduceEqDiff, Nat.reduceAdd, bx, ax, encPr, if_true, if_false, Nat.reduceMul, Nat.reduceLeDiff]; exact rfl) ?_
            simp only [List.drop_succ_cons, List.drop_zero, List.drop_nil]
            refine WpItems.opT (by simp only [go_sem, reduceIte, Nat.reduceEqDiff, Nat.reduceAdd, bx]) (by simp only [aopT, go_sem, reduceIte, Nat.reduceEqDiff, Nat.reduceAdd, bx, encPr, List.all_cons, List.all_nil, List.length_cons, List.length_nil, Nat.reduceMul, Nat.reduceLeDiff, Nat.reduceLT, Nat.zero_lt_succ, and_self, if_true, decide_true, Bool.and_self]; exact rfl) rfl ?_
            refine WpItems.part 1 (by simp only [go_sem, reduceIte, Nat.reduceEqDiff, Nat.reduceAdd, bx]; exact rfl) ?_
            simp only [List.drop_succ_cons, List.drop_zero, List.drop_nil]
            refine WpItems.nil ⟨by simp [pairsQ, pairsOk, apart, ent0], ?_⟩
            refine Wp.reg1 (by simp only [go_sem, reduceIte, Nat.reduceEqDiff, Nat.reduceAdd, bx, ke1]; exact rfl) (by trivial) ?_
            refine ⟨(j + 1, n' + 1, n' + 2), ⟨by simp only; omega, by simp only; omega, fun _ => ⟨by simp only; omega, by simp only; omega⟩⟩, by simp only; omega, ?_⟩
            simp only []
            rw [hsn]
            refine StLe.of (tm_le ?_) (pO_le2 (fun _ => ?_) ?_) (fun _ h => h) (Nat.le_refl _) (Nat.le_refl _)
            · simp only [pV, List.nil_append, List.cons_ne_nil, if_false]
              simp only [AllSub, go_sem, reduceIte, Nat.reduceEqDiff, Nat.reduceAdd, bx]; and_intros <;> first | exact trivial | exact VSub.refl _ | exact VSub.any _ | (refine VSub.int ?_; omega)
            · simp [upd, cellsP, encA, prV, cellsOf]
            · simp only [upd, n1, n2, if_false]; exact hFn
          · have hv0 : pV o k' = .tsl 2 k' 0 o.length none := by rw [pV, if_neg ho]
            obtain ⟨hk1, hk2⟩ := hk' ho
            have hFk := hFk ho
            have n4 : ¬ (k' = n') := by omega
            have n5 : ¬ (n = k') := by omega
            have hcl := cellsP_len o
            have r1 : (o.length + 1) * 32 ≤ 140737488355328 := by omega
            have r2 : o.length + 1 < 4611686018427387904 := by omega
            have hcs := cells_snoc o (prV x.1 v)
            simp only [encPr] at hcs
            rw [hv0]
            refine Wp.reg ?_
            refine WpItems.part 4 (by simp only [go_sem, reduceIte, Nat.reduceEqDiff, Nat.reduceAdd, bx, ax, if_true, if_false, Nat.reduceMul, Nat.reduceLeDiff, n1, hFn]; exact rfl) ?_
            simp only [List.drop_succ_cons, List.drop_zero, List.drop_nil]
            refine WpItems.pcall (by simp only [go_sem, reduceIte, Nat.reduceEqDiff, Nat.reduceAdd, bx]) (by simp only [go_sem, reduceIte, Nat.reduceEqDiff, Nat.reduceAdd, bx, List.map]; exact VSubs.refl _) (hpr) ?_
            refine WpItems.part 1 (by simp only [go_sem, reduceIte, Nat.reduceEqDiff, Nat.reduceAdd, bx, ax, encPr, if_true, if_false, Nat.reduceMul, Nat.reduceLeDiff]; exact rfl) ?_
            simp only [List.drop_succ_cons, List.drop_zero, List.drop_nil]
            refine WpItems.opK (by simp only [go_sem, reduceIte, Nat.reduceEqDiff, Nat.reduceAdd, bx]) (by simp only [aopK, go_sem, reduceIte, Nat.reduceEqDiff, Nat.reduceAdd, bx, encPr, List.all_cons, List.all_nil, List.length_cons, List.length_nil, n4, hFk, cellsP, hcl, r1, r2, and_self, if_true, if_false, decide_true, Bool.and_self, hcs]; exact rfl) rfl ?_
            refine WpItems.part 1 (by simp only [go_sem, reduceIte, Nat.reduceEqDiff, Nat.reduceAdd, bx]; exact rfl) ?_
            simp only [List.drop_succ_cons, List.drop_zero, List.drop_nil]
            refine WpItems.nil ⟨by simp [pairsQ, pairsOk, apart, ent0], ?_⟩
            refine Wp.reg1 (by simp only [go_sem, reduceIte, Nat.reduceEqDiff, Nat.reduceAdd, bx, ke1]; exact rfl) (by trivial) ?_
            refine ⟨(j + 1, n' + 1, n' + 2), ⟨by simp only; omega, by simp only; omega, fun _ => ⟨by simp only; omega, by simp only; omega⟩⟩, by simp only; omega, ?_⟩
            simp only []
            rw [hsn]
            refine StLe.of (tm_le ?_) (pO_le2 (fun _ => ?_) ?_) (fun _ h => h) (Nat.le_refl _) (Nat.le_refl _)
            · have : o ++ [prV x.1 v] ≠ [] := by simp
              simp only [pV, this, if_false, List.length_append, List.length_cons, List.length_nil]
              simp only [AllSub, go_sem, reduceIte, Nat.reduceEqDiff, Nat.reduceAdd, bx]; and_intros <;> first | exact trivial | exact VSub.refl _ | exact VSub.any _ | (refine VSub.int ?_; omega)
            · simp [upd, cellsP, encA]
            · simp only [upd, n1, n2, n5, if_false]; exact hFn
        · obtain rfl : j = x.2.length := by omega
          have kg1 : decide ((x.2.length : Int) < (x.2.length : Int)) = false := decide_eq_false (by omega)
          rw [List.take_length] at hk' hol ⊢
          repeat (first
            | ((first | apply Wp.seqItemsR | apply Wp.itemsR); (· simp only [go_sem, reduceIte, Nat.reduceEqDiff, Nat.reduceAdd, bx, ax, if_true, if_false, Nat.reduceMul, Nat.reduceLeDiff, kg1, e1]; exact rfl))
            | (refine WpItems.nil ⟨?_, ?_⟩; (· first | trivial | simp [pairsQ, pairsOk, apart, ent0]))
            | (apply Wp.cond_lit; (· simp only [go_sem, reduceIte, Nat.reduceEqDiff, Nat.reduceAdd, bx, ax, if_true, if_false, Nat.reduceMul, Nat.reduceLeDiff, kg1, e1]; exact rfl); (· rfl))
            | refine Wp.skip ?_
            | refine Wp.label ?_
            | refine Wp.block ?_
            | refine Wp.exit ?_
            | refine Wp.seq ?_)
          refine ⟨(i + 1, k', n'), ⟨by simp only; omega, fun h => ?_, all_step hs hit⟩, by simp only; omega, ?_⟩
          · simp only [htk] at h
            exact (hk' h).1
          · rw [htk]
            refine StLe.of (tm_le ?_) (pO_le fun h => pO_row h) (fun _ h => h) (Nat.le_refl _) (Nat.le_refl _)
            simp only [AllSub, go_sem, reduceIte, Nat.reduceEqDiff, Nat.reduceAdd, bx]; and_intros <;> first | exact trivial | exact VSub.refl _ | exact VSub.any _ | (refine VSub.int ?_; omega)
      · have g2 : decide ((0 : Int) < (i : Int)) = true := decide_eq_true (by omega)
        have e2 : IntKind.i64.wrap ((i : Int) - 1) = ((i - 1 : Nat) : Int) := by rw [IntWalk.i64_in _ (by omega)]; omega
        have h4 : (0 : Int) ≤ ((i - 1 : Nat) : Int) := by omega
        have h5 : ((i - 1 : Nat) : Int) < (l.length : Int) := by omega
        have hat2 := enc_at encI l (i - 1) .any (by omega)
        cases hb : Op.bytesLess (l.getD (i - 1) default).1 (l.getD i default).1 with
        | false =>
          have hit := no ((itOk_pos hz).trans (by rw [hb, Bool.and_false]))
          generalize l.getD i default = x at *
          generalize l.getD (i - 1) default = y at *
          simp only [encI, vAV] at hmy
          repeat (first
            | ((first | apply Wp.seqItemsR | apply Wp.itemsR | ((first
                | (refine WpItems.pcall ?_ ?_ (hmy) ?_; (· simp only [go_sem, reduceIte, Nat.reduceEqDiff, Nat.reduceAdd, bx]); (· simp only [go_sem, reduceIte, Nat.reduceEqDiff, Nat.reduceAdd, bx, List.map]; first | exact VSubs.refl _ | (repeat (first | exact VSubs.nil | refine VSubs.cons (by first | exact VSub.refl _ | assumption | exact VSub.cap | exact VSub.any _) ?_))))); apply WpItems.evR)); (· simp only [go_sem, reduceIte, Nat.reduceEqDiff, Nat.reduceAdd, bx, ax, if_true, if_false, Nat.reduceMul, Nat.reduceLeDiff, hil, g1, g2, h2, h3, e2, h4, h5, hat, hat2, hb, encI, vAV, Bool.not_true, Bool.not_false]; exact rfl))
            | (refine WpItems.nil ⟨?_, ?_⟩; (· first | trivial | simp [pairsQ, pairsOk, apart, ent0]))
            | (apply Wp.cond_lit; (· simp only [go_sem, reduceIte, Nat.reduceEqDiff, Nat.reduceAdd, bx, ax, if_true, if_false, Nat.reduceMul, Nat.reduceLeDiff, hil, g1, g2, h2, h3, e2, h4, h5, hat, hat2, hb, encI, vAV, Bool.not_true, Bool.not_false]; exact rfl); (· rfl))
            | refine Wp.skip ?_
            | refine Wp.label ?_
            | refine Wp.block ?_
            | refine Wp.exit ?_
            | refine Wp.seq ?_)
          refine Wp.ret ⟨trivial, _, rfl, ?_⟩
          simp only [go_sem, reduceIte, Nat.reduceEqDiff, Nat.reduceAdd, bx]
          exact .inl (bad hit)
        | true =>
          have hit : itOk l i = true := (itOk_pos hz).trans (by rw [hb, hm]; rfl)
          generalize l.getD (i - 1) default = y at *
          obtain ⟨m1, m2, m3, m4⟩ := mayI_iff.1 hm
          generalize l.getD i default = x at *
          simp only [encI, vAV] at hmy
          repeat (first
            | ((first | apply Wp.seqItemsR | apply Wp.itemsR | ((first
                | (refine WpItems.pcall ?_ ?_ (hmy) ?_; (· simp only [go_sem, reduceIte, Nat.reduceEqDiff, Nat.reduceAdd, bx]); (· simp only [go_sem, reduceIte, Nat.reduceEqDiff, Nat.reduceAdd, bx, List.map]; first | exact VSubs.refl _ | (repeat (first | exact VSubs.nil | refine VSubs.cons (by first | exact VSub.refl _ | assumption | exact VSub.cap | exact VSub.any _) ?_))))); apply WpItems.evR)); (· simp only [go_sem, reduceIte, Nat.reduceEqDiff, Nat.reduceAdd, bx, ax, if_true, if_false, Nat.reduceMul, Nat.reduceLeDiff, hil, g1, h2, h3, hat, encI, vAV, List.length_map, Bool.not_true, g2, e2, h4, h5, hat2, hb]; exact rfl))
            | (refine WpItems.nil ⟨?_, ?_⟩; (· first | trivial | simp [pairsQ, pairsOk, apart, ent0]))
            | (apply Wp.cond_lit; (· simp only [go_sem, reduceIte, Nat.reduceEqDiff, Nat.reduceAdd, bx, ax, if_true, if_false, Nat.reduceMul, Nat.reduceLeDiff, hil, g1, h2, h3, hat, encI, vAV, List.length_map, Bool.not_true, g2, e2, h4, h5, hat2, hb]; exact rfl); (· rfl))
            | refine Wp.skip ?_
            | refine Wp.label ?_
            | refine Wp.block ?_
            | refine Wp.exit ?_
            | refine Wp.seq ?_)
          rw [pO_upd (fun h => Nat.ne_of_lt (hk h)), pO_upd (fun h => Nat.ne_of_lt (hk h)), upd_upd']
          refine Wp.loopH (β := Nat × Nat × Nat) [0, 6, 9, 10, 11, 35, 36] (by simp only [go_sem, reduceIte, Nat.reduceEqDiff, List.map]; exact rfl) (fun b => [(4, pV (prL (l.take i) ++ (x.2.take b.1).map (prV x.1)) b.2.1), (37, .int .i64 (b.1 : Nat))]) (fun b => ⟨pO (prL (l.take i) ++ (x.2.take b.1).map (prV x.1)) b.2.1 (upd none' n (some (.cells [.str x.1, .sl 3 (x.2.map encV) .any]))), b.2.2, [], 0⟩) (fun b => b.1 ≤ x.2.length ∧ n < b.2.2 ∧ (prL (l.take i) ++ (x.2.take b.1).map (prV x.1) ≠ [] → b.2.1 < b.2.2 ∧ b.2.1 ≠ n)) (fun b => x.2.length - b.1) (0, k, n + 1) ⟨Nat.zero_le _, by simp only; omega, fun h => ?_⟩ ?_ ?_ ?_
          · simp only [List.take_zero, List.map_nil, List.append_nil] at h
            have := hk h
            exact ⟨by simp only; omega, by simp only; omega⟩
          · simp
          · simp only [AllSub, go_sem, reduceIte, Nat.reduceEqDiff, Nat.reduceAdd, bx]; and_intros <;> first | exact trivial | exact VSub.refl _ | exact VSub.any _ | exact VSub.of_eq (by simp) | (refine VSub.int ?_; omega)
          rintro ⟨j, k', n'⟩ ⟨hj, hn', hk'⟩
          simp only at hj hn' hk' ⊢
          have hol : (prL (l.take i) ++ (x.2.take j).map (prV x.1)).length ≤ 100000 := by
            simp only [List.length_append, List.length_map, List.length_take]; omega
          by_cases hjc : j < x.2.length
          · have kg1 : decide (((j : Nat) : Int) < ((x.2.length : Nat) : Int)) = true := decide_eq_true (by omega)
            have kh2 : (0 : Int) ≤ ((j : Nat) : Int) := by omega
            have kh3 : ((j : Nat) : Int) < ((x.2.length : Nat) : Int) := by omega
            have ke1 : IntKind.i64.wrap (((j : Nat) : Int) + 1) = ((j + 1 : Nat) : Int) := by rw [IntWalk.i64_in _ (by omega)]; omega
            have kat := enc_at encV x.2 j .any hjc
            have hv := okV_iff.1 (chB_ok m3 hjc)
            have htv : x.2.take (j + 1) = x.2.take j ++ [x.2.getD j default] := Av.take_snoc default hjc
            have hpr := pair_p x.1 (by omega) (x.2.getD j default) (by omega) hv.2.1 (by omega)
            have hsn : prL (l.take i) ++ (x.2.take (j + 1)).map (prV x.1) = (prL (l.take i) ++ (x.2.take j).map (prV x.1)) ++ [prV x.1 (x.2.getD j default)] := by
              rw [htv, List.map_append, List.append_assoc]; rfl
            generalize prL (l.take i) ++ (x.2.take j).map (prV x.1) = o at *
            generalize x.2.getD j default = v at *
            simp only [encV] at hpr
            have n1 : ¬ (n = n') := by omega
            have n2 : ¬ (n = n' + 1) := by omega
            have n3 : ¬ (n' = n' + 1) := by omega
            have hFn : pO o k' (upd none' n (some (Av.Obj.cells [.str x.1, .sl 3 (x.2.map encV) .any]))) n = some (Av.Obj.cells [.str x.1, .sl 3 (x.2.map encV) .any]) := by
              by_cases ho : o = []
              · rw [pO, if_pos ho]; simp [upd]
              · rw [pO_at (fun e => (hk' ho).2 e.symm)]; simp [upd]
            have hFk : o ≠ [] → pO o k' (upd none' n (some (Av.Obj.cells [.str x.1, .sl 3 (x.2.map encV) .any]))) k' = some (cellsP o) := pO_row
            generalize pO o k' (upd none' n (some (Av.Obj.cells [.str x.1, .sl 3 (x.2.map encV) .any]))) = F at *
            refine Wp.seqReg (by simp only [go_sem, reduceIte, Nat.reduceEqDiff, Nat.reduceAdd, bx, kg1]; exact rfl) (by trivial) ?_
            refine Wp.seq ?_
            refine Wp.cond_true (by simp only [go_sem, reduceIte, Nat.reduceEqDiff, Nat.reduceAdd, bx]) ?_
            refine Wp.skip ?_
            refine Wp.seq ?_
            refine Wp.block ?_
            refine Wp.seqReg (by simp only [go_sem, reduceIte, Nat.reduceEqDiff, Nat.reduceAdd, bx, kh2, kh3, kat, List.length_map, encV, and_self, if_true, Int.toNat_natCast]; exact rfl) (by trivial) ?_
            by_cases ho : o = []
            · subst ho
              have hv0 : pV [] k' = .sl 2 [] (.exact 0) := rfl
              rw [hv0]
              refine Wp.reg ?_
              refine WpItems.part 4 (by simp only [go_sem, reduceIte, Nat.reduceEqDiff, Nat.reduceAdd, bx, ax, if_true, if_false, Nat.reduceMul, Nat.reduceLeDiff, n1, hFn]; exact rfl) ?_
              simp only [List.drop_succ_cons, List.drop_zero, List.drop_nil]
              refine WpItems.pcall (by simp only [go_sem, reduceIte, Nat.reduceEqDiff, Nat.reduceAdd, bx]) (by simp only [go_sem, reduceIte, Nat.reduceEqDiff, Nat.reduceAdd, bx, List.map]; exact VSubs.refl _) (hpr) ?_
              refine WpItems.part 1 (by simp only [go_sem, reduceIte, Nat.reduceEqDiff, Nat.reduceAdd, bx, ax, encPr, if_true, if_false, Nat.reduceMul, Nat.reduceLeDiff]; exact rfl) ?_
              simp only [List.drop_succ_cons, List.drop_zero, List.drop_nil]
              refine WpItems.opT (by simp only [go_sem, reduceIte, Nat.reduceEqDiff, Nat.reduceAdd, bx]) (by simp only [aopT, go_sem, reduceIte, Nat.reduceEqDiff, Nat.reduceAdd, bx, encPr, List.all_cons, List.all_nil, List.length_cons, List.length_nil, Nat.reduceMul, Nat.reduceLeDiff, Nat.reduceLT, Nat.zero_lt_succ, and_self, if_true, decide_true, Bool.and_self]; exact rfl) rfl ?_
              refine WpItems.part 1 (by simp only [go_sem, reduceIte, Nat.reduceEqDiff, Nat.reduceAdd, bx]; exact rfl) ?_
              simp only [List.drop_succ_cons, List.drop_zero, List.drop_nil]
              refine WpItems.nil ⟨by simp [pairsQ, pairsOk, apart, ent0], ?_⟩
              refine Wp.reg1 (by simp only [go_sem, reduceIte, Nat.reduceEqDiff, Nat.reduceAdd, bx, ke1]; exact rfl) (by trivial) ?_
              refine ⟨(j + 1, n' + 1, n' + 2), ⟨by simp only; omega, by simp only; omega, fun _ => ⟨by simp only; omega, by simp only; omega⟩⟩, by simp only; omega, ?_⟩
              simp only []
              rw [hsn]
              refine StLe.of (tm_le ?_) (pO_le2 (fun _ => ?_) ?_) (fun _ h => h) (Nat.le_refl _) (Nat.le_refl _)
              · simp only [pV, List.nil_append, List.cons_ne_nil, if_false]
                simp only [AllSub, go_sem, reduceIte, Nat.reduceEqDiff, Nat.reduceAdd, bx]; and_intros <;> first | exact trivial | exact VSub.refl _ | exact VSub.any _ | (refine VSub.int ?_; omega)
              · simp [upd, cellsP, encA, prV, cellsOf]
              · simp only [upd, n1, n2, if_false]; exact hFn
            · have hv0 : pV o k' = .tsl 2 k' 0 o.length none := by rw [pV, if_neg ho]
              obtain ⟨hk1, hk2⟩ := hk' ho
              have hFk := hFk ho
              have n4 : ¬ (k' = n') := by omega
              have n5 : ¬ (n = k') := by omega
              have hcl := cellsP_len o
              have r1 : (o.length + 1) * 32 ≤ 140737488355328 := by omega
              have r2 : o.length + 1 < 4611686018427387904 := by omega
              have hcs := cells_snoc o (prV x.1 v)
              simp only [encPr] at hcs
              rw [hv0]
              refine Wp.reg ?_
              refine WpItems.part 4 (by simp only [go_sem, reduceIte, Nat.reduceEqDiff, Nat.reduceAdd, bx, ax, if_true, if_false, Nat.reduceMul, Nat.reduceLeDiff, n1, hFn]; exact rfl) ?_
              simp only [List.drop_succ_cons, List.drop_zero, List.drop_nil]
              refine WpItems.pcall (by simp only [go_sem, reduceIte, Nat.reduceEqDiff, Nat.reduceAdd, bx]) (by simp only [go_sem, reduceIte, Nat.reduceEqDiff, Nat.reduceAdd, bx, List.map]; exact VSubs.refl _) (hpr) ?_
              refine WpItems.part 1 (by simp only [go_sem, reduceIte, Nat.reduceEqDiff, Nat.reduceAdd, bx, ax, encPr, if_true, if_false, Nat.reduceMul, Nat.reduceLeDiff]; exact rfl) ?_
              simp only [List.drop_succ_cons, List.drop_zero, List.drop_nil]
              refine WpItems.opK (by simp only [go_sem, reduceIte, Nat.reduceEqDiff, Nat.reduceAdd, bx]) (by simp only [aopK, go_sem, reduceIte, Nat.reduceEqDiff, Nat.reduceAdd, bx, encPr, List.all_cons, List.all_nil, List.length_cons, List.length_nil, n4, hFk, cellsP, hcl, r1, r2, and_self, if_true, if_false, decide_true, Bool.and_self, hcs]; exact rfl) rfl ?_
              refine WpItems.part 1 (by simp only [go_sem, reduceIte, Nat.reduceEqDiff, Nat.reduceAdd, bx]; exact rfl) ?_
              simp only [List.drop_succ_cons, List.drop_zero, List.drop_nil]
              refine WpItems.nil ⟨by simp [pairsQ, pairsOk, apart, ent0], ?_⟩
              refine Wp.reg1 (by simp only [go_sem, reduceIte, Nat.reduceEqDiff, Nat.reduceAdd, bx, ke1]; exact rfl) (by trivial) ?_
              refine ⟨(j + 1, n' + 1, n' + 2), ⟨by simp only; omega, by simp only; omega, fun _ => ⟨by simp only; omega, by simp only; omega⟩⟩, by simp only; omega, ?_⟩
              simp only []
              rw [hsn]
              refine StLe.of (tm_le ?_) (pO_le2 (fun _ => ?_) ?_) (fun _ h => h) (Nat.le_refl _) (Nat.le_refl _)
              · have : o ++ [prV x.1 v] ≠ [] := by simp
                simp only [pV, this, if_false, List.length_append, List.length_cons, List.length_nil]
                simp only [AllSub, go_sem, reduceIte, Nat.reduceEqDiff, Nat.reduceAdd, bx]; and_intros <;> first | exact trivial | exact VSub.refl _ | exact VSub.any _ | (refine VSub.int ?_; omega)
              · simp [upd, cellsP, encA]
              · simp only [upd, n1, n2, n5, if_false]; exact hFn
          · obtain rfl : j = x.2.length := by omega
            have kg1 : decide ((x.2.length : Int) < (x.2.length : Int)) = false := decide_eq_false (by omega)
            rw [List.take_length] at hk' hol ⊢
            repeat (first
              | ((first | apply Wp.seqItemsR | apply Wp.itemsR); (· simp only [go_sem, reduceIte, Nat.reduceEqDiff, Nat.reduceAdd, bx, ax, if_true, if_false, Nat.reduceMul, Nat.reduceLeDiff, kg1, e1]; exact rfl))
              | (refine WpItems.nil ⟨?_, ?_⟩; (· first | trivial | simp [pairsQ, pairsOk, apart, ent0]))
              | (apply Wp.cond_lit; (· simp only [go_sem, reduceIte, Nat.reduceEqDiff, Nat.reduceAdd, bx, ax, if_true, if_false, Nat.reduceMul, Nat.reduceLeDiff, kg1, e1]; exact rfl); (· rfl))
              | refine Wp.skip ?_
              | refine Wp.label ?_
              | refine Wp.block ?_
              | refine Wp.exit ?_
              | refine Wp.seq ?_)
            refine ⟨(i + 1, k', n'), ⟨by simp only; omega, fun h => ?_, all_step hs hit⟩, by simp only; omega, ?_⟩
            · simp only [htk] at h
              exact (hk' h).1
            · rw [htk]
              refine StLe.of (tm_le ?_) (pO_le fun h => pO_row h) (fun _ h => h) (Nat.le_refl _) (Nat.le_refl _)
              simp only [AllSub, go_sem, reduceIte, Nat.reduceEqDiff, Nat.reduceAdd, bx]; and_intros <;> first | exact trivial | exact VSub.refl _ | exact VSub.any _ | (refine VSub.int ?_; omega)
  · obtain rfl : i = l.length := by omega
    have g1 : decide (((l.length : Nat) : Int) < ((l.length : Nat) : Int)) = false := decide_eq_false (by omega)
    have hok : okL l = true := all_yes hs
    rw [List.take_length] at hk ⊢
    rw [hok]
    simp only [if_true]
    by_cases ho : prL l = []
    · have hv : pV (prL l) k = .sl 2 [] (.exact 0) := by rw [pV, if_pos ho]
      have he : sortedP (prL l) = [] := by rw [ho]; rfl
      rw [hv, he]
      repeat (first
        | ((first | apply Wp.seqItemsR | apply Wp.itemsR | ((first
            | (refine WpItems.pcall ?_ ?_ (sort0_p) ?_; (· simp only [go_sem, reduceIte, Nat.reduceEqDiff, Nat.reduceAdd, bx]); (· simp only [go_sem, reduceIte, Nat.reduceEqDiff, Nat.reduceAdd, bx, List.map]; exact VSubs.cons VSub.cap (VSubs.refl _)))); apply WpItems.evR)); (· simp only [go_sem, reduceIte, Nat.reduceEqDiff, Nat.reduceAdd, bx, ax, if_true, if_false, Nat.reduceMul, Nat.reduceLeDiff, g1]; exact rfl))
        | (refine WpItems.nil ⟨?_, ?_⟩; (· first | trivial | simp [pairsQ, pairsOk, apart, ent0]))
        | (apply Wp.cond_lit; (· simp only [go_sem, reduceIte, Nat.reduceEqDiff, Nat.reduceAdd, bx, ax, if_true, if_false, Nat.reduceMul, Nat.reduceLeDiff, g1]; exact rfl); (· rfl))
        | refine Wp.skip ?_
        | refine Wp.label ?_
        | refine Wp.block ?_
        | refine Wp.exit ?_
        | refine Wp.seq ?_)
      refine Wp.ret ⟨trivial, _, rfl, ?_⟩
      simp only [go_sem, reduceIte, Nat.reduceEqDiff, Nat.reduceAdd, bx]
      exact .inl (VSub.tup (VSubs.cons VSub.cap (VSubs.refl _)))
    · have hv : pV (prL l) k = .tsl 2 k 0 (prL l).length none := by rw [pV, if_neg ho]
      have ho2 : pO (prL l) k none' = upd none' k (some (cellsP (prL l))) := by rw [pO, if_neg ho]
      obtain ⟨q1, q2⟩ := sorted_new (prL_keys hok) (prL_shut hok)
      rw [hv, ho2]
      have hl0 : 0 < (prL l).length := List.length_pos_iff.2 ho
      have hsort := sort_a (prL l) (sortedP (prL l)) hl0 (by omega) q1 (sort_tot hok) (keys_nodup (prL_keys hok)) (sorted_rise _) q2 (id := k) (h := .only (upd none' k (some (cellsP (prL l)))) [] n 0) (by simp [H.only, upd, cellsP]) rfl
      have hsort' : ACalls Try.prog 17 [.tsl 2 k 0 (prL l).length none, .clo (.func 18) [] []] (.only (upd none' k (some (cellsP (prL l)))) [] n 0) (.tup []) (.only (upd none' k (some (cellsP (sortedP (prL l))))) [] n 0) := by
        simpa only [H.only, upd_upd', cellsP] using hsort
      repeat (first
        | ((first | apply Wp.seqItemsR | apply Wp.itemsR); (· simp only [go_sem, reduceIte, Nat.reduceEqDiff, Nat.reduceAdd, bx, ax, if_true, if_false, Nat.reduceMul, Nat.reduceLeDiff, g1]; exact rfl))
        | (refine WpItems.nil ⟨?_, ?_⟩; (· first | trivial | simp [pairsQ, pairsOk, apart, ent0]))
        | (apply Wp.cond_lit; (· simp only [go_sem, reduceIte, Nat.reduceEqDiff, Nat.reduceAdd, bx, ax, if_true, if_false, Nat.reduceMul, Nat.reduceLeDiff, g1]; exact rfl); (· rfl))
        | refine Wp.skip ?_
        | refine Wp.label ?_
        | refine Wp.block ?_
        | refine Wp.exit ?_
        | refine Wp.seq ?_)
      refine WpItems.acall (by simp only [go_sem]) (by simp only [go_sem, reduceIte, Nat.reduceEqDiff, List.map]; exact VSubs.refl _) hsort' (touch_write _ (by simp [upd])) ?_
      refine WpItems.eval (by simp only [go_sem, reduceIte, Nat.reduceEqDiff, Nat.reduceAdd, bx]; exact rfl) ?_
      refine WpItems.nil ⟨by trivial, ?_⟩
      repeat (first
        | ((first | apply Wp.seqItemsR | apply Wp.itemsR); (· simp only [go_sem, reduceIte, Nat.reduceEqDiff, Nat.reduceAdd, bx, ax, if_true, if_false, Nat.reduceMul, Nat.reduceLeDiff]; exact rfl))
        | (refine WpItems.nil ⟨?_, ?_⟩; (· first | trivial | simp [pairsQ, pairsOk, apart, ent0]))
        | (apply Wp.cond_lit; (· simp only [go_sem, reduceIte, Nat.reduceEqDiff, Nat.reduceAdd, bx, ax, if_true, if_false, Nat.reduceMul, Nat.reduceLeDiff]; exact rfl); (· rfl))
        | refine Wp.skip ?_
        | refine Wp.label ?_
        | refine Wp.block ?_
        | refine Wp.exit ?_
        | refine Wp.seq ?_)
      refine Wp.ret ⟨trivial, _, rfl, ?_⟩
      simp only [go_sem, reduceIte, Nat.reduceEqDiff, Nat.reduceAdd, bx]
      refine .inr ⟨(sortedP (prL l)).map encA, k, 2, [.int .i64 0], by rw [List.length_map, q1], fun x hx => ?_, ?_, ?_⟩
      · obtain ⟨p, -, rfl⟩ := List.mem_map.1 hx
        rfl
      · simp [upd, cellsP, List.flatMap]
      · refine VSub.of_eq ?_
        simp [prs, encPr, encA]
end Go.Proofs.Ytobokfclaooloaa.Space
end
section
set_option linter.unusedSimpArgs false
set_option linter.unusedVariables false
set_option maxRecDepth 100000
namespace Go.Proofs.Ytobokfclaooloaa.Batch
open Go Go.Proofs Go.Lib Go.RowKit Go.Shelf
def sortS_ren : Go.Shelf.Ren := ⟨fun | 125 => 39 | 128 => 64 | 129 => 65 | 190 => 24 | 258 => 43 | 302 => 67 | 303 => 68 | 304 => 69 | 305 => 70 | 306 => 71 | 307 => 72 | 308 => 73 | 309 => 74 | 310 => 75 | 329 => 80 | 330 => 81 | 333 => 84 | 334 => 85 | 335 => 86 | 336 => 40 | 344 => 88 | n => n, fun | 0 => 0 | 3 => 3 | 4 => 4 | 5 => 5 | 9 => 9 | 31 => 62 | 46 => 84 | 51 => 111 | 53 => 88 | 131 => 108 | 182 => 103 | 183 => 104 | 218 => 120 | 222 => 124 | 228 => 128 | 229 => 129 | n => n, fun n => n⟩
theorem sortS_lays : Lays.n190 Try.prog sortS_ren where
  mixed := by kernel_rfl
  f125 := Try.func39.trans (congrArg some (by kernel_rfl))
  f128 := Try.func64.trans (congrArg some (by kernel_rfl))
  f129 := Try.func65.trans (congrArg some (by kernel_rfl))
  f190 := Try.func24.trans (congrArg some (by kernel_rfl))
  f258 := Try.func43.trans (congrArg some (by kernel_rfl))
  f302 := Try.func67.trans (congrArg some (by kernel_rfl))
  f303 := Try.func68.trans (congrArg some (by kernel_rfl))
  f304 := Try.func69.trans (congrArg some (by kernel_rfl))
  f305 := Try.func70.trans (congrArg some (by kernel_rfl))
  f306 := Try.func71.trans (congrArg some (by kernel_rfl))
  f307 := Try.func72.trans (congrArg some (by kernel_rfl))
  f308 := Try.func73.trans (congrArg some (by kernel_rfl))
  f309 := Try.func74.trans (congrArg some (by kernel_rfl))
  f310 := Try.func75.trans (congrArg some (by kernel_rfl))
  f329 := Try.func80.trans (congrArg some (by kernel_rfl))
  f330 := Try.func81.trans (congrArg some (by kernel_rfl))
  f333 := Try.func84.trans (congrArg some (by kernel_rfl))
  f334 := Try.func85.trans (congrArg some (by kernel_rfl))
  f335 := Try.func86.trans (congrArg some (by kernel_rfl))
  f336 := Try.func40.trans (congrArg some (by kernel_rfl))
  f344 := Try.func88.trans (congrArg some (by kernel_rfl))
  t0 := Try.underlying0
  a0 := Try.isAgg0
  z0 := Try.sizeOf0
  v0 := Try.zeroValue0
  t3 := Try.underlying3
  a3 := Try.isAgg3
  z3 := Try.sizeOf3
  v3 := Try.zeroValue3
  t4 := Try.underlying4
  a4 := Try.isAgg4
  z4 := Try.sizeOf4
  v4 := Try.zeroValue4
  t5 := Try.underlying5
  a5 := Try.isAgg5
  z5 := Try.sizeOf5
  v5 := Try.zeroValue5
  t9 := Try.underlying9
  a9 := Try.isAgg9
  z9 := Try.sizeOf9
  v9 := Try.zeroValue9
  t31 := Try.underlying62
  a31 := Try.isAgg62
  z31 := Try.sizeOf62
  v31 := Try.zeroValue62
  t46 := Try.underlying84
  a46 := Try.isAgg84
  z46 := Try.sizeOf84
  v46 := Try.zeroValue84
  t51 := Try.underlying111
  a51 := Try.isAgg111
  z51 := Try.sizeOf111
  v51 := Try.zeroValue111
  t53 := Try.underlying88
  a53 := Try.isAgg88
  z53 := Try.sizeOf88
  v53 := Try.zeroValue88
  t131 := Try.underlying108
  a131 := Try.isAgg108
  z131 := Try.sizeOf108
  v131 := Try.zeroValue108
  t182 := Try.underlying103
  a182 := Try.isAgg103
  z182 := Try.sizeOf103
  v182 := Try.zeroValue103
  t183 := Try.underlying104
  a183 := Try.isAgg104
  z183 := Try.sizeOf104
  v183 := Try.zeroValue104
  t218 := Try.underlying120
  a218 := Try.isAgg120
  z218 := Try.sizeOf120
  v218 := Try.zeroValue120
  t222 := Try.underlying124
  a222 := Try.isAgg124
  z222 := Try.sizeOf124
  v222 := Try.zeroValue124
  t228 := Try.underlying128
  a228 := Try.isAgg128
  z228 := Try.sizeOf128
  v228 := Try.zeroValue128
  t229 := Try.underlying129
  a229 := Try.isAgg129
  z229 := Try.sizeOf129
  v229 := Try.zeroValue129
end Go.Proofs.Ytobokfclaooloaa.Batch
end
section
set_option linter.unusedSimpArgs false
set_option linter.unusedVariables false
set_option maxRecDepth 100000
namespace Go.Av
open Go.Sort Go.Proofs
section
variable {α : Type} [Inhabited α]
theorem sort_t1 {P : Program} {f : Nat} {enc : α → List Value} {encA : α → List AV} {k : Nat} (k0 : 0 < k) (hk : ∀ x, (enc x).length = k) (hkA : ∀ l : List α, (l.flatMap encA).length = l.length * k)
    (hE : ∀ (l : List α) G w, VRels G w (l.flatMap encA) (l.flatMap enc)) (hD : ∀ (l : List α) G w vs, VRels G w (l.flatMap encA) vs → vs = l.flatMap enc) (h1 : ∀ l : List α, ∀ v ∈ l.flatMap enc, One v)
    (l l' : List α) (hln : 0 < l.length) (hll : l'.length = l.length)
    (hcon : ∀ (blk cap : Nat) (w : World), HoldsK enc k w blk 0 l.toArray → blk < w.heap.size → Calls P f #[.slice (some ⟨blk, 0, none⟩) l.length cap] w fun e w' => e = .returned (.tuple #[]) ∧ ∃ n os, w' = sortWorldK enc k w blk 0 n l'.toArray os)
    {id : Nat} {h : H} (ho : h.objs id = some (.cells (l.flatMap encA))) (htk : h.toks = []) :
    ACalls P f [.tsl k id 0 l.length none] h (.tup []) { h with objs := upd h.objs id (some (.cells (l'.flatMap encA))) } := by
  intro G w vs hv R F
  simp only [VRels, VRel] at hv
  obtain ⟨v1, _, rfl, ⟨hd1, hv1⟩, rfl⟩ := hv
  obtain ⟨C, c, T, fr, rfl, ⟨hnC, hc63⟩, -, hg, hroom⟩ | ⟨hz, -⟩ := hv1
  rotate_left
  · omega
  obtain ⟨-, hown, hB, us, rest, T', fr', hg', hvs, hfr, -⟩ := R.obj id _ ho
  have hus := hD l G w us hvs
  subst hus
  have hH : HoldsK enc k w (G.ι id) 0 l.toArray := by
    intro j hj
    rw [flat_eq k0 hk] at hj ⊢
    have hj' : j < (l.flatMap enc).length := by simpa using hj
    constructor
    · unfold World.cell?
      simp only [hg', Nat.zero_add]
      simp [List.getElem?_append_left hj', getElem!_def, hj', List.getElem?_eq_getElem hj']
    · unfold World.frozen?
      simp only [hg']
      have := hfr
      simp; omega
  refine (hcon (G.ι id) C w hH hB).mono fun e w' ⟨he, n, os, hw⟩ => ?_
  subst he hw
  obtain ⟨w1, w2, w3⟩ := sorted_world k0 hk (n := n) (os := os) hB hll hg'
  obtain ⟨T1, R1⟩ := row_put R ho htk w3 (by rfl) (by rfl) w2 (by rw [hg', w1]; exact ⟨_, _, rfl, by simp [flat_len hk, hll], fun _ _ h => h⟩) (by rw [hkA, flat_len hk]) (hE l') (h1 l') w1 hfr
  exact ⟨_, G, rfl, T1, R1, by simp [VRel, VRels]⟩
end
end Go.Av
namespace Go.Proofs.Ytobokfclaooloaa.Batch
open Go Go.Proofs Go.Lib Go.RowKit Go.Shelf Go.Sort Go.Av
theorem msort_one {l l' : List (List UInt8)} (nd : l.Nodup) (hp : l'.Pairwise fun x y => Op.bytesLess x y = true) (hm : ∀ x, x ∈ l' ↔ x ∈ l) : l.mergeSort (fun x y => decide (x ≤ y)) = l' := by
  have pm := List.mergeSort_perm l (fun x y => decide (x ≤ y))
  have pw := List.pairwise_mergeSort (le := fun x y : List UInt8 => decide (x ≤ y)) (fun a b c h1 h2 => decide_eq_true (List.le_trans (of_decide_eq_true h1) (of_decide_eq_true h2))) (fun a b => by simpa using List.le_total a b) l
  have nd' : (l.mergeSort (fun x y => decide (x ≤ y))).Nodup := pm.nodup_iff.2 nd
  refine pw_eq (r := fun x y => Op.bytesLess x y = true) (fun x => by rw [less_irrefl]; simp) (fun x y z h1 h2 => less_trans h1 h2) ?_ hp fun x => by rw [pm.mem_iff, hm]
  refine (List.pairwise_and_iff.2 ⟨pw, List.nodup_iff_pairwise_ne.1 nd'⟩).imp fun {a b} ⟨h1, h2⟩ => ?_
  rcases less_total a b with h | h | h
  · exact h
  · exact absurd h h2
  · rw [bytesLess_eq] at h
    exact absurd (of_decide_eq_true h) (of_decide_eq_true h1)
def encT (s : List UInt8) : List Value := [.string ⟨s.toArray⟩]
def encTA (s : List UInt8) : List AV := [.str s]
theorem flatT_eq (d : Array (List UInt8)) : flatK encT 1 d = d.map encStr := by
  refine ext_get! (by simp) fun t ht => ?_
  have ht' : t < d.size := by simpa using ht
  rw [get_flatK _ _ _ t (by simpa using ht')]
  simp [encT, Nat.mod_one, getElem!_def, ht', encStr]
theorem holdsT {w : World} {blk off : Nat} {d : Array (List UInt8)} (h : HoldsK encT 1 w blk off d) : Holds encStr w blk off d := by
  intro j hj
  have := h j (by simpa using hj)
  rw [flatT_eq] at this
  refine ⟨?_, this.2⟩
  rw [this.1]
  simp [getElem!_def, hj]
theorem putT (w : World) (blk off : Nat) (d : Array (List UInt8)) : putRow encStr w blk off d = putRowK encT 1 w blk off d := by
  unfold putRowK putRow
  rw [flatT_eq]
  congr 1
  funext c
  unfold putCells
  simp only [Array.size_map, id]
  congr 1
  funext k x
  split
  · rename_i h
    have hk : k - off < d.size := by omega
    simp [getElem!_def, hk]
  · rfl
theorem sortS_a (l l' : List (List UInt8)) (h0 : 0 < l.length) (hl : l.length < 4611686018427387904) (hll : l'.length = l.length)
    (nd : l.Nodup) (hp : l'.Pairwise fun x y => Op.bytesLess x y = true) (hm : ∀ x, x ∈ l' ↔ x ∈ l)
    {id : Nat} {h : H} (ho : h.objs id = some (.cells (strs l))) (htk : h.toks = []) :
    ACalls Try.prog 24 [.tsl 1 id 0 l.length none] h (.tup []) { h with objs := upd h.objs id (some (.cells (strs l'))) } := by
  have es : ∀ l : List (List UInt8), strs l = l.flatMap encTA := fun l => by
    induction l with
    | nil => rfl
    | cons x l ih => rw [List.flatMap_cons, ← ih]; rfl
  rw [es] at ho
  rw [es]
  refine sort_t1 (k := 1) (enc := encT) (encA := encTA) (by omega) (fun _ => rfl) (fun l => by rw [← es, strs_length]; omega) (fun l G w => ?_) (fun l G w vs h => ?_) (fun l v hv => ?_) l l' h0 hll (fun blk cap w hH hb => ?_) ho htk
  · induction l with
    | nil => simp [VRels]
    | cons x l ih => simp only [List.flatMap_cons]; exact (show VRels G w (encTA x) (encT x) by simp [encTA, encT, VRels, VRel]).append ih
  · induction l generalizing vs with
    | nil => simpa [VRels] using h
    | cons x l ih =>
      simp only [List.flatMap_cons, encTA, List.cons_append, List.nil_append, VRels, VRel] at h
      obtain ⟨v, us, rfl, rfl, h⟩ := h
      rw [ih us h]; rfl
  · obtain ⟨p, -, hp⟩ := List.mem_flatMap.1 hv
    simp only [encT, List.mem_cons, List.not_mem_nil, or_false] at hp
    subst hp
    exact ⟨(fun _ e => by cases e), (fun _ e => by cases e)⟩
  · refine (Any.slices_Sort_string sortS_lays blk 0 cap l w (holdsT hH) hb hl).mono fun e w' ⟨he, n, os, hw⟩ => ⟨he, n, os, ?_⟩
    rw [hw, msort_one nd hp hm, putT]; rfl
end Go.Proofs.Ytobokfclaooloaa.Batch
end
section
set_option linter.unusedSimpArgs false
set_option linter.unusedVariables false
set_option maxRecDepth 10000
namespace Go.Proofs.Ytobokfclaooloaa.Space
open Go Go.Av Go.Proofs Go.Proofs.Ytobokfclaooloaa.C Go.Proofs.Ytobokfclaooloaa.Batch
abbrev MT := Bs × (List Ver × Nat)
def encMt (M : List MT) : List (AV × AV) := M.map fun p => (.str p.1, .sl 3 (p.2.1.map encV) (.own p.2.2))
def ksT (M : List MT) : List Bs := M.map (·.1)
def mF (M : List MT) (k : Nat) : Nat → Option Av.Obj := if M = [] then upd none' 0 (some (.map [])) else upd (upd none' 0 (some (.map (encMt M)))) k (some (.cells (strs (ksT M))))
def keysV (M : List MT) (k : Nat) : AV := if M = [] then .sl 1 [] (.exact 0) else .tsl 1 k 0 M.length none
theorem mF_zero {M : List MT} {k : Nat} (h : M ≠ [] → k ≠ 0) : mF M k 0 = some (.map (encMt M)) := by
  unfold mF
  split
  · rename_i e; subst e; simp [upd, encMt]
  · rename_i e; simp [upd, Ne.symm (h e)]
theorem mF_row {M : List MT} {k : Nat} (h : M ≠ []) : mF M k k = some (.cells (strs (ksT M))) := by
  unfold mF
  rw [if_neg h]; simp [upd]
theorem mF_le {M : List MT} {k : Nat} {g : Nat → Option Av.Obj} (h0 : g 0 = some (.map (encMt M))) (hk : M ≠ [] → g k = some (.cells (strs (ksT M)))) : OLe g (mF M k) := by
  intro j p hp
  unfold mF at hp
  split at hp
  · rename_i e
    subst e
    simp only [upd, none'] at hp
    split at hp
    · rename_i e; subst e; cases hp; exact ⟨_, h0, OSub.refl _⟩
    · cases hp
  · rename_i hne
    simp only [upd, none'] at hp
    split at hp
    · rename_i e; subst e; cases hp; exact ⟨_, hk hne, OSub.refl _⟩
    · split at hp
      · rename_i e; subst e; cases hp; exact ⟨_, h0, OSub.refl _⟩
      · cases hp
theorem mfindT_none {q : Bs} : ∀ {M : List MT}, q ∉ ksT M → mfind q (encMt M) = some none
  | [], _ => rfl
  | p :: M, h => by
    simp only [ksT, List.map_cons, List.mem_cons, not_or] at h
    have ih := mfindT_none (q := q) (M := M) h.2
    simp only [encMt, List.map_cons, mfind] at ih ⊢
    rw [if_neg (fun e => h.1 e.symm), ih]; rfl
theorem mfindT_mid {q : Bs} {x : List Ver × Nat} {B : List MT} : ∀ {A : List MT}, q ∉ ksT A → mfind q (encMt (A ++ (q, x) :: B)) = some (some (A.length, .sl 3 (x.1.map encV) (.own x.2)))
  | [], _ => by simp [encMt, mfind]
  | p :: A, h => by
    simp only [ksT, List.map_cons, List.mem_cons, not_or] at h
    have ih := mfindT_mid (q := q) (x := x) (B := B) (A := A) h.2
    simp only [encMt, List.cons_append, List.map_cons, mfind] at ih ⊢
    rw [if_neg (fun e => h.1 e.symm), ih]; rfl
theorem putT_mid {q : Bs} {x : List Ver × Nat} {B : List MT} {v : List Ver} {t : Nat} (A : List MT) (y : AV) : putEs (encMt (A ++ (q, x) :: B)) q (.sl 3 (v.map encV) (.own t)) (some (A.length, y)) = encMt (A ++ (q, (v, t)) :: B) := by
  simp [putEs, encMt]
theorem putT_new {q : Bs} {M : List MT} {v : List Ver} {t : Nat} : putEs (encMt M) q (.sl 3 (v.map encV) (.own t)) none = encMt (M ++ [(q, (v, t))]) := by
  simp [putEs, encMt]
structure IT (P : List Pr) (M : List MT) (T : List Nat) (m : Nat) : Prop where
  nd : (ksT M).Nodup
  ch : ∀ p ∈ M, p.2.1 = chO P p.1
  key : ∀ q, q ∈ ksT M ↔ ∃ p ∈ P, vK p = q
  tk : ∀ p ∈ M, p.2.2 ∈ T
  td : (M.map (·.2.2)).Nodup
  tb : ∀ p ∈ M, p.2.2 < m
  len : ∀ p ∈ M, p.2.1.length ≤ P.length
  n : M.length ≤ P.length
theorem key_snoc (P : List Pr) (p : Pr) (q : Bs) : (∃ x ∈ P ++ [p], vK x = q) ↔ (∃ x ∈ P, vK x = q) ∨ vK p = q := by
  constructor
  · rintro ⟨x, hx, e⟩
    rcases List.mem_append.1 hx with hx | hx
    · exact .inl ⟨x, hx, e⟩
    · rw [List.mem_singleton.1 hx] at e; exact .inr e
  · rintro (⟨x, hx, e⟩ | e)
    · exact ⟨x, by simp [hx], e⟩
    · exact ⟨p, by simp, e⟩
theorem IT.new {P : List Pr} {M : List MT} {T : List Nat} {m : Nat} (h : IT P M T m) {p : Pr} (hq : vK p ∉ ksT M) : IT (P ++ [p]) (M ++ [(vK p, ([vV p], m))]) (m :: T) (m + 1) := by
  have hno : ¬ ∃ x ∈ P, vK x = vK p := fun e => hq ((h.key _).2 e)
  have hne : ∀ y ∈ M, vK p ≠ y.1 := fun y hy e => hq (by rw [e]; exact List.mem_map.2 ⟨y, hy, rfl⟩)
  refine ⟨?_, fun y hy => ?_, fun q => ?_, fun y hy => ?_, ?_, fun y hy => ?_, fun y hy => ?_, by have := h.n; simp; omega⟩
  · simp only [ksT, List.map_append, List.map_cons, List.map_nil]
    refine List.nodup_append.2 ⟨h.nd, by simp, fun a ha b hb => ?_⟩
    rw [List.mem_singleton.1 hb]; exact fun e => hq (by rw [← e]; exact ha)
  · rw [chO_snoc]
    rcases List.mem_append.1 hy with hy | hy
    · rw [if_neg (hne y hy), List.append_nil]; exact h.ch y hy
    · rw [List.mem_singleton.1 hy]; simp only []; rw [if_pos trivial, chO_none hno]; rfl
  · rw [key_snoc, ← h.key]
    simp only [ksT, List.map_append, List.map_cons, List.map_nil, List.mem_append, List.mem_singleton]
    exact ⟨fun h => h.imp_right fun h => h.symm, fun h => h.imp_right fun h => h.symm⟩
  · rcases List.mem_append.1 hy with hy | hy
    · exact List.mem_cons_of_mem _ (h.tk y hy)
    · rw [List.mem_singleton.1 hy]; simp
  · simp only [List.map_append, List.map_cons, List.map_nil]
    refine List.nodup_append.2 ⟨h.td, by simp, fun a ha b hb => ?_⟩
    obtain ⟨y, hy, rfl⟩ := List.mem_map.1 ha
    have := h.tb y hy
    rw [List.mem_singleton.1 hb]; omega
  · rcases List.mem_append.1 hy with hy | hy
    · have := h.tb y hy; omega
    · rw [List.mem_singleton.1 hy]; simp only []; omega
  · rcases List.mem_append.1 hy with hy | hy
    · have := h.len y hy; simp; omega
    · rw [List.mem_singleton.1 hy]; simp
theorem IT.old {P : List Pr} {A B : List MT} {T : List Nat} {m t : Nat} {vs : List Ver} {p : Pr} (h : IT P (A ++ (vK p, (vs, t)) :: B) T m) : IT (P ++ [p]) (A ++ (vK p, (vs ++ [vV p], m)) :: B) (m :: T.filter (· ≠ t)) (m + 1) := by
  have nd := h.nd
  simp only [ksT, List.map_append, List.map_cons] at nd
  have nd2 := List.nodup_append.1 nd
  have nd3 := List.nodup_cons.1 nd2.2.1
  have td := h.td
  simp only [List.map_append, List.map_cons] at td
  have td2 := List.nodup_append.1 td
  have td3 := List.nodup_cons.1 td2.2.1
  have oth : ∀ y, y ∈ A ∨ y ∈ B → y ∈ A ++ (vK p, (vs, t)) :: B ∧ y.1 ≠ vK p ∧ y.2.2 ≠ t := fun y hy => by
    rcases hy with hy | hy
    · exact ⟨by simp [hy], nd2.2.2 _ (List.mem_map.2 ⟨y, hy, rfl⟩) _ (by simp), td2.2.2 _ (List.mem_map.2 ⟨y, hy, rfl⟩) _ (by simp)⟩
    · refine ⟨by simp [hy], fun e => nd3.1 ?_, fun e => td3.1 ?_⟩
      · rw [← e]; exact List.mem_map.2 ⟨y, hy, rfl⟩
      · rw [← e]; exact List.mem_map.2 ⟨y, hy, rfl⟩
  have cs : ∀ {y : MT}, y ∈ A ++ (vK p, (vs ++ [vV p], m)) :: B → (y ∈ A ∨ y ∈ B) ∨ y = (vK p, (vs ++ [vV p], m)) := fun {y} hy => by
    rcases List.mem_append.1 hy with hy | hy
    · exact .inl (.inl hy)
    · rcases List.mem_cons.1 hy with hy | hy
      · exact .inr hy
      · exact .inl (.inr hy)
  refine ⟨?_, fun y hy => ?_, fun q => ?_, fun y hy => ?_, ?_, fun y hy => ?_, fun y hy => ?_, by have := h.n; simp at this ⊢; omega⟩
  · simp only [ksT, List.map_append, List.map_cons]; exact nd
  · rw [chO_snoc]
    rcases cs hy with hy | rfl
    · obtain ⟨a, b, c⟩ := oth y hy
      rw [if_neg (fun e => b e.symm), List.append_nil]; exact h.ch y a
    · simp only []; rw [if_pos trivial, ← h.ch (vK p, (vs, t)) (by simp)]
  · rw [key_snoc, ← h.key]
    simp only [ksT, List.map_append, List.map_cons, List.mem_append, List.mem_cons]
    constructor
    · exact .inl
    · rintro (h | h)
      · exact h
      · exact .inr (.inl h.symm)
  · rcases cs hy with hy | rfl
    · obtain ⟨a, b, c⟩ := oth y hy
      exact List.mem_cons_of_mem _ (List.mem_filter.2 ⟨h.tk y a, by simpa using c⟩)
    · simp
  · simp only [List.map_append, List.map_cons]
    refine List.nodup_append.2 ⟨td2.1, List.nodup_cons.2 ⟨fun e => ?_, td3.2⟩, fun a ha b hb => ?_⟩
    · obtain ⟨y, hy, e⟩ := List.mem_map.1 e
      have := h.tb y (by simp [hy]); omega
    · rcases List.mem_cons.1 hb with rfl | hb
      · obtain ⟨y, hy, rfl⟩ := List.mem_map.1 ha
        have := h.tb y (by simp [hy]); omega
      · exact td2.2.2 a ha b (by simp [hb])
  · rcases cs hy with hy | rfl
    · have := h.tb y (oth y hy).1; omega
    · simp only []; omega
  · rcases cs hy with hy | rfl
    · have := h.len y (oth y hy).1; simp; omega
    · have := h.len (vK p, (vs, t)) (by simp)
      simp at this ⊢; omega
theorem mid_of {M : List MT} {q : Bs} (h : q ∈ ksT M) (nd : (ksT M).Nodup) : ∃ A x B, M = A ++ (q, x) :: B ∧ q ∉ ksT A := by
  obtain ⟨y, hy, rfl⟩ := List.mem_map.1 h
  obtain ⟨A, B, rfl⟩ := List.append_of_mem hy
  refine ⟨A, y.2, B, rfl, fun e => ?_⟩
  simp only [ksT, List.map_append, List.map_cons] at nd
  exact (List.nodup_append.1 nd).2.2 _ e _ (by simp) rfl
def stepI (l : List Pr) (i : Nat) : Bool := vOkP (l.getD i default) && (decide (i = 0) || Op.bytesLess (l.getD (i - 1) default).k (l.getD i default).k)
def bOkI (l : List Pr) : Bool := (List.range l.length).all (stepI l) && okL (itR l)
theorem stepI_zero {l : List Pr} {j : Nat} (h : j = 0) : stepI l j = vOkP (l.getD j default) := by simp [stepI, h]
theorem stepI_pos {l : List Pr} {j : Nat} (h : j ≠ 0) : stepI l j = (vOkP (l.getD j default) && Op.bytesLess (l.getD (j - 1) default).k (l.getD j default).k) := by simp [stepI, h]
end Go.Proofs.Ytobokfclaooloaa.Space
end
section
set_option linter.unusedSimpArgs false
set_option linter.unusedVariables false
set_option maxRecDepth 10000
namespace Go.Proofs.Ytobokfclaooloaa.Space
open Go Go.Av Go.Proofs Go.Proofs.Ytobokfclaooloaa.C Go.Proofs.Ytobokfclaooloaa.Batch
theorem prV_back {p : Pr} (h : vOkP p = true) (hv : okV (vV p) = true) : prV (vK p) (vV p) = p := by
  obtain ⟨h1, h2, h3, h4, h5⟩ := vOkP_iff.1 h
  have e1 : (1152921504606846976 - (vV p).t).toNat = Batch.val (p.k.drop (vN p)) := by
    have := vT_val h1 h4
    simp only [vV]; omega
  have l8 : (p.k.drop (vN p)).length = 8 := by simp [vN]; omega
  have e2 : be 8 (Batch.val (p.k.drop (vN p))) = p.k.drop (vN p) := by
    have := be_val (p.k.drop (vN p))
    rwa [l8] at this
  have ek : (prV (vK p) (vV p)).k = p.k := by
    simp only [prV]
    rw [e1, e2]
    exact List.take_append_drop _ _
  have hd := (okV_iff.1 hv).2.2.2
  have ev : (prV (vK p) (vV p)).v = p.v := by
    obtain ⟨c, r, hc⟩ : ∃ c r, p.v = c :: r := by
      cases hpv : p.v with
      | nil => exact absurd hpv h2
      | cons c r => exact ⟨c, r, rfl⟩
    have hdv : (vV p).d = decide (c = 0) := by simp [vV, hc]
    have hvv : (vV p).v = r := by simp [vV, hc]
    rw [hc] at h3
    simp only [List.getD_cons_zero] at h3
    show vval (vV p) = p.v
    unfold vval
    by_cases h0 : c = 0
    · have h1 : (vV p).d = true := by rw [hdv, h0]; rfl
      rw [if_pos h1, hc, h0, ← hvv, hd h1]
    · have h1 : ¬ (vV p).d = true := by rw [hdv]; simpa using h0
      have : c = 1 := by
        have h6 : c.toNat ≠ 0 := fun e => h0 (UInt8.toNat_inj.1 (by simpa using e))
        exact UInt8.toNat_inj.1 (by rw [show c.toNat = 1 by omega]; rfl)
      rw [if_neg h1, hc, this, hvv]
  have ext : ∀ a b : Pr, a.k = b.k → a.v = b.v → a = b := by rintro ⟨_, _⟩ ⟨_, _⟩ h1 h2; simp only at h1 h2; rw [h1, h2]
  exact ext _ _ ek ev
theorem i64_time {t : Int} (h : 1 ≤ t ∧ t ≤ 1152921504606846976) : i64 (be 8 (1152921504606846976 - t).toNat) = 1152921504606846976 - t := by
  rw [i64_be _ (by omega)]; omega
theorem vT_pr {k : Bs} {v : Ver} (h : 1 ≤ v.t ∧ v.t ≤ 1152921504606846976) : vT (prV k v) = 1152921504606846976 - v.t := by
  have : (prV k v).k.drop (vN (prV k v)) = be 8 (1152921504606846976 - v.t).toNat := by
    unfold vN
    simp only [prV, List.length_append, be_length, Nat.add_sub_cancel]
    exact List.drop_left' rfl
  unfold vT
  rw [this, i64_time h]
theorem items_same (l : List Pr) : bOkI l = rOkI l := by
  cases hok : okL (itR l) with
  | false => simp [bOkI, rOkI, hok]
  | true =>
    have hmays := okL_all hok
    rw [Bool.eq_iff_iff]
    simp only [bOkI, rOkI, hok, Bool.and_true, Bool.and_eq_true, decide_eq_true_eq]
    constructor
    · intro h
      have hs : ∀ i, i < l.length → stepI l i = true := fun i hi => List.all_eq_true.1 h i (List.mem_range.2 hi)
      have hall : ∀ p ∈ l, vOkP p = true := fun p hp => by
        obtain ⟨j, hj, rfl⟩ := List.mem_iff_getElem.1 hp
        have := hs j hj
        rw [stepI, Bool.and_eq_true, Av.getD_el hj] at this
        exact this.1
      have hrise : l.Pairwise fun x y => Op.bytesLess x.k y.k = true := pw_adj (r := fun x y : Pr => Op.bytesLess x.k y.k = true) (fun x y z h1 h2 => less_trans h1 h2) fun j hj => by
        have := hs (j + 1) hj
        rw [stepI_pos (by omega), Bool.and_eq_true, Nat.add_sub_cancel] at this
        exact this.2
      have law := itR_law hall hrise
      refine ⟨List.all_eq_true.2 fun p hp => ?_, rise_ext (sorted_rise _) hrise fun x => ?_⟩
      · obtain ⟨h1, h2, h3, h4, h5⟩ := vOkP_iff.1 (hall p hp)
        simp [vOkR, vFit, h1, h2, h4]
        exact ⟨by simpa using h3, by omega⟩
      · rw [(sorted_new (prL_keys hok) (prL_shut hok)).2]
        simp only [prL, prI, List.mem_flatMap, List.mem_map]
        constructor
        · rintro ⟨y, hy, v, hv, rfl⟩
          have hy2 := law.ch y hy
          have hov := chB_all (mayI_iff.1 (hmays y hy)).2.2.1 v hv
          rw [hy2] at hv
          obtain ⟨p, hp, rfl⟩ := List.mem_map.1 hv
          have hp := List.mem_filter.1 hp
          rw [← of_decide_eq_true hp.2, prV_back (hall p hp.1) hov]
          exact hp.1
        · intro hx
          obtain ⟨y, hy, hyk⟩ := List.mem_map.1 ((law.key (vK x)).2 ⟨x, hx, rfl⟩)
          have hv : vV x ∈ y.2 := by
            rw [law.ch y hy]
            exact List.mem_map.2 ⟨x, List.mem_filter.2 ⟨hx, by simpa using hyk.symm⟩, rfl⟩
          have hov := chB_all (mayI_iff.1 (hmays y hy)).2.2.1 _ hv
          exact ⟨y, hy, vV x, hv, by rw [show y.1 = vK x from hyk, prV_back (hall x hx) hov]⟩
    · rintro ⟨h1, h2⟩
      have hrise : l.Pairwise fun x y => Op.bytesLess x.k y.k = true := by rw [← h2]; exact sorted_rise _
      have hmem : ∀ x, x ∈ l → x ∈ prL (itR l) := fun x hx => by
        rw [← h2] at hx
        exact ((sorted_new (prL_keys hok) (prL_shut hok)).2 x).1 hx
      refine all_yes fun i hi => ?_
      have hx : l.getD i default ∈ l := by rw [Av.getD_el hi]; exact List.getElem_mem hi
      have hv : vOkP (l.getD i default) = true := by
        have hr := List.all_eq_true.1 h1 _ hx
        have hp := hmem _ hx
        simp only [prL, prI, List.mem_flatMap, List.mem_map] at hp
        obtain ⟨y, hy, v, hvm, e⟩ := hp
        have hov := okV_iff.1 (chB_all (mayI_iff.1 (hmays y hy)).2.2.1 v hvm)
        have ht : vT (l.getD i default) = 1152921504606846976 - v.t := by rw [← e]; exact vT_pr ⟨hov.1, hov.2.1⟩
        simp only [vOkR, Bool.and_eq_true, decide_eq_true_eq] at hr
        simp only [vOkP, Bool.and_eq_true, decide_eq_true_eq]
        exact ⟨hr.1, by omega⟩
      by_cases hz : i = 0
      · rw [stepI_zero hz]; exact hv
      · rw [stepI_pos hz, hv, Bool.true_and, Av.getD_el hi, Av.getD_el (show i - 1 < l.length by omega)]
        exact List.pairwise_iff_getElem.1 hrise (i - 1) i (by omega) hi (by omega)
end Go.Proofs.Ytobokfclaooloaa.Space
end
section
set_option linter.unusedSimpArgs false
set_option linter.unusedVariables false
set_option maxRecDepth 10000
namespace Go.Proofs.Ytobokfclaooloaa.Space
open Go Go.Av Go.Proofs Go.Proofs.Ytobokfclaooloaa.C Go.Proofs.Ytobokfclaooloaa.Batch
end Go.Proofs.Ytobokfclaooloaa.Space
end
section
set_option linter.unusedSimpArgs false
set_option linter.unusedVariables false
set_option maxRecDepth 10000
namespace Go.Proofs.Ytobokfclaooloaa.Space
open Go Go.Av Go.Proofs Go.Proofs.Ytobokfclaooloaa.C Go.Proofs.Ytobokfclaooloaa.Batch
theorem sub_len {α : Type} [DecidableEq α] : ∀ {a b : List α}, a.Nodup → (∀ x, x ∈ a → x ∈ b) → a.length ≤ b.length
  | [], b, _, _ => Nat.zero_le _
  | x :: a, b, h, hs => by
    have h' := List.nodup_cons.1 h
    have hx := hs x (by simp)
    have := sub_len (a := a) (b := b.erase x) h'.2 fun y hy => (List.mem_erase_of_ne (fun e => h'.1 (by rw [← e]; exact hy))).2 (hs y (by simp [hy]))
    rw [List.length_erase_of_mem hx] at this
    have := List.length_pos_of_mem hx
    simp only [List.length_cons]; omega
set_option maxHeartbeats 4000000 in
theorem items_p (l : List Pr) (hl : l.length ≤ 100000) (hsz : ∀ p ∈ l, p.k.length ≤ 140737488355328 ∧ p.v.length ≤ 140737488355328) : PCalls Try.prog 9 [.sl 2 (prs l) .any] (.tup [.sl 2 ((if bOkI l then itR l else []).map encI) .any, .int .i64 (if bOkI l then 0 else 4)]) := by
  refine f9.pcalls0 (by simp) (by simp [allPure, isPure, capPure, prs_pure]) (by simp [isPure, allPure, capPure, its_pure]) ?_
  unfold c9
  have bad : bOkI l = false → VSub (.tup [.sl 2 [] (.exact 0), .int .i64 4]) (.tup [.sl 2 ((if bOkI l then itR l else []).map encI) .any, .int .i64 (if bOkI l then 0 else 4)]) := fun h => by
    rw [h]; exact VSub.tup (VSubs.cons VSub.cap (VSubs.refl _))
  repeat (first
    | ((first | apply Wp.seqItemsR | apply Wp.itemsR); (· simp only [go_sem, reduceIte, Nat.reduceEqDiff, Nat.reduceAdd, bx, ax, if_true, if_false, Nat.reduceMul, Nat.reduceLeDiff, prs_length]; exact rfl))
    | (refine WpItems.nil ⟨?_, ?_⟩; (· first | trivial | simp [pairsQ, pairsOk, apart, ent0]))
    | (apply Wp.cond_lit; (· simp only [go_sem, reduceIte, Nat.reduceEqDiff, Nat.reduceAdd, bx, ax, if_true, if_false, Nat.reduceMul, Nat.reduceLeDiff, prs_length]; exact rfl); (· rfl))
    | refine Wp.skip ?_
    | refine Wp.label ?_
    | refine Wp.block ?_
    | refine Wp.exit ?_
    | refine Wp.seq ?_)
  refine Wp.loopH (β := Nat × List MT × List Nat × Nat × Nat × Nat) [0, 4, 18, 19] (by simp only [go_sem, reduceIte, Nat.reduceEqDiff, List.map]; exact rfl) (fun b => [(5, keysV b.2.1 b.2.2.2.1), (20, .int .i64 (b.1 : Nat))]) (fun b => ⟨mF b.2.1 b.2.2.2.1, b.2.2.2.2.1, b.2.2.1, b.2.2.2.2.2⟩) (fun b => b.1 ≤ l.length ∧ IT (l.take b.1) b.2.1 b.2.2.1 b.2.2.2.2.2 ∧ 0 < b.2.2.2.2.1 ∧ (b.2.1 ≠ [] → 0 < b.2.2.2.1 ∧ b.2.2.2.1 < b.2.2.2.2.1) ∧ ∀ i, i < b.1 → stepI l i = true) (fun b => l.length - b.1) (0, [], [], 0, 1, 0) ⟨Nat.zero_le _, ⟨by simp [ksT], by simp, by simp [ksT], by simp, by simp, by simp, by simp, by simp⟩, by simp, fun h => absurd rfl h, fun i h => absurd h (by simp)⟩ ?_ ?_ ?_
  · simp [mF, H0, H.only]
  · simp only [AllSub, go_sem, reduceIte, Nat.reduceEqDiff, Nat.reduceAdd, bx]; and_intros <;> first | exact trivial | exact VSub.refl _ | exact VSub.any _ | (refine VSub.int ?_; omega)
  rintro ⟨i, M, T, k, n, m⟩ ⟨hi, hI, hn, hk, hs⟩
  simp only at hi hI hn hk hs ⊢
  have hM := hI.n
  rw [List.length_take] at hM
  by_cases hc : i < l.length
  · have g1 : decide (((i : Nat) : Int) < ((l.length : Nat) : Int)) = true := decide_eq_true (by omega)
    have h2 : (0 : Int) ≤ ((i : Nat) : Int) := by omega
    have h3 : ((i : Nat) : Int) < ((l.length : Nat) : Int) := by omega
    have e1 : IntKind.i64.wrap (((i : Nat) : Int) + 1) = ((i + 1 : Nat) : Int) := by rw [IntWalk.i64_in _ (by omega)]; omega
    have hat : (prs l).getD i .any = encPr (l.getD i default) := prs_getD l i .any hc
    have hmem : l.getD i default ∈ l := by rw [Av.getD_el hc]; exact List.getElem_mem hc
    have no : stepI l i = false → bOkI l = false := fun h => by rw [bOkI, all_no hc h]; rfl
    obtain ⟨z1, z2⟩ := hsz _ hmem
    have hver := version_p (l.getD i default) z1 z2
    have htk : l.take (i + 1) = l.take i ++ [l.getD i default] := Av.take_snoc default hc
    have n1 : ¬ (n = 0) := by omega
    have n2 : ¬ (n = n + 1) := by omega
    have n3 : ¬ (n + 1 = 0) := by omega
    have n4 : ¬ (0 = n) := by omega
    have n5 : ¬ (0 = n + 1) := by omega
    cases hv : vOkP (l.getD i default) with
    | false =>
      have nm := no (by rw [stepI, hv]; rfl)
      rw [verR, hv] at hver
      simp only [Bool.false_eq_true, if_false] at hver
      generalize l.getD i default = p at *
      simp only [encPr] at hver
      repeat (first
        | ((first | apply Wp.seqItemsR | apply Wp.itemsR | ((first
            | (refine WpItems.pcall ?_ ?_ (hver) ?_; (· simp only [go_sem, reduceIte, Nat.reduceEqDiff, Nat.reduceAdd, bx]); (· simp only [go_sem, reduceIte, Nat.reduceEqDiff, Nat.reduceAdd, bx, List.map]; first | exact VSubs.refl _ | (repeat (first | exact VSubs.nil | refine VSubs.cons (by first | exact VSub.refl _ | assumption | exact VSub.cap | exact VSub.any _) ?_))))); apply WpItems.evR)); (· simp only [go_sem, reduceIte, Nat.reduceEqDiff, Nat.reduceAdd, bx, ax, if_true, if_false, Nat.reduceMul, Nat.reduceLeDiff, prs_length, g1, h2, h3, hat, encPr, n1, n2, n3, Bool.not_false]; exact rfl))
        | (refine WpItems.nil ⟨?_, ?_⟩; (· first | trivial | simp [pairsQ, pairsOk, apart, ent0]))
        | (apply Wp.cond_lit; (· simp only [go_sem, reduceIte, Nat.reduceEqDiff, Nat.reduceAdd, bx, ax, if_true, if_false, Nat.reduceMul, Nat.reduceLeDiff, prs_length, g1, h2, h3, hat, encPr, n1, n2, n3, Bool.not_false]; exact rfl); (· rfl))
        | refine Wp.skip ?_
        | refine Wp.label ?_
        | refine Wp.block ?_
        | refine Wp.exit ?_
        | refine Wp.seq ?_)
      refine Wp.ret ⟨trivial, _, rfl, ?_⟩
      simp only [go_sem, reduceIte, Nat.reduceEqDiff, Nat.reduceAdd, bx]
      exact bad nm
    | true =>
      rw [verR, hv] at hver
      simp only [if_true] at hver
      have hF0 := mF_zero (M := M) (k := k) (fun h => by have := (hk h).1; omega)
      have hFk := mF_row (M := M) (k := k)
      by_cases hz : i = 0
      · have g2 : decide ((0 : Int) < (i : Int)) = false := decide_eq_false (by omega)
        have hst : stepI l i = true := (stepI_zero hz).trans hv
        generalize l.getD i default = p at *
        simp only [encPr, encV] at hver
        have hL : (l.take i).length = i := by rw [List.length_take]; omega
        by_cases hq : vK p ∈ ksT M
        · obtain ⟨A, ⟨vs, t⟩, B, rfl, hA⟩ := mid_of hq hI.nd
          have hmf := mfindT_mid (q := vK p) (x := (vs, t)) (B := B) hA
          have ht : t ∈ T := hI.tk (vK p, (vs, t)) (by simp)
          have hvl := hI.len (vK p, (vs, t)) (by simp)
          rw [hL] at hvl
          simp only at hvl
          have hput := putT_mid (q := vK p) (x := (vs, t)) (B := B) (v := vs ++ [vV p]) (t := m) A (.sl 3 (vs.map encV) (.own t))
          have henc : vs.map encV ++ [.agg [.int .i64 (vV p).t, .str (vV p).v, .bool (vV p).d]] = (vs ++ [vV p]).map encV := encV_snoc vs (vV p)
          have hvm : (vs.map encV).length = vs.length := by simp
          have r1 : (vs.length + 1) * 32 ≤ 140737488355328 := by omega
          have r2 : vs.length + 1 < 4611686018427387904 := by omega
          have hnew := hI.old
          rw [← htk] at hnew
          have hkeys : ksT (A ++ (vK p, (vs ++ [vV p], m)) :: B) = ksT (A ++ (vK p, (vs, t)) :: B) := by simp [ksT]
          have hne : A ++ (vK p, (vs, t)) :: B ≠ [] := by simp
          obtain ⟨k1, k2⟩ := hk hne
          have hFk := hFk hne
          have k3 : ¬ (k = 0) := by omega
          have k4 : ¬ (k = n) := by omega
          have k5 : ¬ (k = n + 1) := by omega
          generalize hFd : mF (A ++ (vK p, (vs, t)) :: B) k = F at *
          repeat (first
            | ((first | apply Wp.seqItemsR | apply Wp.itemsR | ((first
                | (refine WpItems.pcall ?_ ?_ (hver) ?_; (· simp only [go_sem, reduceIte, Nat.reduceEqDiff, Nat.reduceAdd, bx]); (· simp only [go_sem, reduceIte, Nat.reduceEqDiff, Nat.reduceAdd, bx, List.map]; first | exact VSubs.refl _ | (repeat (first | exact VSubs.nil | refine VSubs.cons (by first | exact VSub.refl _ | assumption | exact VSub.cap | exact VSub.any _) ?_))))); apply WpItems.evR)); (· simp only [go_sem, reduceIte, Nat.reduceEqDiff, Nat.reduceAdd, bx, ax, if_true, if_false, Nat.reduceMul, Nat.reduceLeDiff, prs_length, g1, g2, h2, h3, hat, encPr, n1, n2, n3, n4, n5, Bool.not_true, Bool.not_false]; exact rfl))
            | (refine WpItems.nil ⟨?_, ?_⟩; (· first | trivial | simp [pairsQ, pairsOk, apart, ent0]))
            | (apply Wp.cond_lit; (· simp only [go_sem, reduceIte, Nat.reduceEqDiff, Nat.reduceAdd, bx, ax, if_true, if_false, Nat.reduceMul, Nat.reduceLeDiff, prs_length, g1, g2, h2, h3, hat, encPr, n1, n2, n3, n4, n5, Bool.not_true, Bool.not_false]; exact rfl); (· rfl))
            | refine Wp.skip ?_
            | refine Wp.label ?_
            | refine Wp.block ?_
            | refine Wp.exit ?_
            | refine Wp.seq ?_)
          repeat (first
            | ((first | apply Wp.seqItemsR | apply Wp.itemsR); (· simp only [go_sem, reduceIte, Nat.reduceEqDiff, Nat.reduceAdd, bx, ax, if_true, if_false, Nat.reduceMul, Nat.reduceLeDiff, hF0, hmf, n1, n2, n3, n4, n5, Bool.not_true]; exact rfl))
            | (refine WpItems.nil ⟨?_, ?_⟩; (· first | trivial | simp [pairsQ, pairsOk, apart, ent0]))
            | (apply Wp.cond_lit; (· simp only [go_sem, reduceIte, Nat.reduceEqDiff, Nat.reduceAdd, bx, ax, if_true, if_false, Nat.reduceMul, Nat.reduceLeDiff, hF0, hmf, n1, n2, n3, n4, n5, Bool.not_true]; exact rfl); (· rfl))
            | refine Wp.skip ?_
            | refine Wp.label ?_
            | refine Wp.block ?_
            | refine Wp.exit ?_
            | refine Wp.seq ?_)
          repeat (first
            | ((first | apply Wp.seqItemsR | apply Wp.itemsR); (· simp only [go_sem, reduceIte, Nat.reduceEqDiff, Nat.reduceAdd, bx, ax, if_true, if_false, Nat.reduceMul, Nat.reduceLeDiff, hF0, hmf, n1, n2, n3, n4, n5, ht, hvm, List.length_cons, List.length_nil, Nat.zero_add, r1, r2, henc, hput, e1]; exact rfl))
            | (refine WpItems.nil ⟨?_, ?_⟩; (· first | trivial | simp [pairsQ, pairsOk, apart, ent0]))
            | (apply Wp.cond_lit; (· simp only [go_sem, reduceIte, Nat.reduceEqDiff, Nat.reduceAdd, bx, ax, if_true, if_false, Nat.reduceMul, Nat.reduceLeDiff, hF0, hmf, n1, n2, n3, n4, n5, ht, hvm, List.length_cons, List.length_nil, Nat.zero_add, r1, r2, henc, hput, e1]; exact rfl); (· rfl))
            | refine Wp.skip ?_
            | refine Wp.label ?_
            | refine Wp.block ?_
            | refine Wp.exit ?_
            | refine Wp.seq ?_)
          refine ⟨(i + 1, A ++ (vK p, (vs ++ [vV p], m)) :: B, m :: T.filter (· ≠ t), k, n + 2, m + 1), ⟨by simp only; omega, hnew, by simp only; omega, fun _ => ⟨by simp only; omega, by simp only; omega⟩, all_step hs hst⟩, by simp only; omega, ?_⟩
          refine StLe.of (tm_le ?_) (mF_le ?_ fun _ => ?_) (fun _ h => h) (Nat.le_refl _) (Nat.le_refl _)
          · have e1 : keysV (A ++ (vK p, (vs ++ [vV p], m)) :: B) k = keysV (A ++ (vK p, (vs, t)) :: B) k := by simp [keysV]
            simp only [e1]
            simp only [AllSub, go_sem, reduceIte, Nat.reduceEqDiff, Nat.reduceAdd, bx]; and_intros <;> first | exact trivial | exact VSub.refl _ | exact VSub.any _ | (refine VSub.int ?_; omega)
          · have hset : (encMt (A ++ (vK p, (vs, t)) :: B)).set A.length (.str (vK p), .sl 3 (vs.map encV ++ [encV (vV p)]) (.own m)) = encMt (A ++ (vK p, (vs ++ [vV p], m)) :: B) := by simp [encMt]
            simp [upd]; exact hset
          · simp only [upd, k3, k4, k5, if_false, hkeys]; exact hFk
        · have hmf := mfindT_none hq
          have hput : putEs (encMt M) (vK p) (.sl 3 [.agg [.int .i64 (vV p).t, .str (vV p).v, .bool (vV p).d]] (.own m)) none = encMt (M ++ [(vK p, ([vV p], m))]) := putT_new (q := vK p) (M := M) (v := [vV p]) (t := m)
          have hnew := hI.new hq
          rw [← htk] at hnew
          have hcell : ∀ M : List MT, strs (ksT M) ++ ([AV.str (vK p)] : List AV).flatMap cellsOf = strs (ksT (M ++ [(vK p, ([vV p], m))])) := fun M => by simp [ksT, strs, cellsOf]
          have m6 : ¬ (n + 1 = n + 1 + 1) := by omega
          have m7 : ¬ (n = n + 1 + 1) := by omega
          have m8 : ¬ (0 = n + 1 + 1) := by omega
          have m9 : ¬ (n + 1 + 1 = 0) := by omega
          generalize hFd : mF M k = F at *
          repeat (first
            | ((first | apply Wp.seqItemsR | apply Wp.itemsR | ((first
                | (refine WpItems.pcall ?_ ?_ (hver) ?_; (· simp only [go_sem, reduceIte, Nat.reduceEqDiff, Nat.reduceAdd, bx]); (· simp only [go_sem, reduceIte, Nat.reduceEqDiff, Nat.reduceAdd, bx, List.map]; first | exact VSubs.refl _ | (repeat (first | exact VSubs.nil | refine VSubs.cons (by first | exact VSub.refl _ | assumption | exact VSub.cap | exact VSub.any _) ?_))))); apply WpItems.evR)); (· simp only [go_sem, reduceIte, Nat.reduceEqDiff, Nat.reduceAdd, bx, ax, if_true, if_false, Nat.reduceMul, Nat.reduceLeDiff, prs_length, g1, g2, h2, h3, hat, encPr, n1, n2, n3, n4, n5, Bool.not_true, Bool.not_false]; exact rfl))
            | (refine WpItems.nil ⟨?_, ?_⟩; (· first | trivial | simp [pairsQ, pairsOk, apart, ent0]))
            | (apply Wp.cond_lit; (· simp only [go_sem, reduceIte, Nat.reduceEqDiff, Nat.reduceAdd, bx, ax, if_true, if_false, Nat.reduceMul, Nat.reduceLeDiff, prs_length, g1, g2, h2, h3, hat, encPr, n1, n2, n3, n4, n5, Bool.not_true, Bool.not_false]; exact rfl); (· rfl))
            | refine Wp.skip ?_
            | refine Wp.label ?_
            | refine Wp.block ?_
            | refine Wp.exit ?_
            | refine Wp.seq ?_)
          refine Wp.reg1 (by simp only [go_sem, reduceIte, Nat.reduceEqDiff, Nat.reduceAdd, bx, ax, hF0, hmf, n1, n2, n3, n4, n5, if_true, if_false]; exact rfl) (by trivial) ?_
          refine Wp.seq ?_
          refine Wp.seqReg (by simp only [go_sem, reduceIte, Nat.reduceEqDiff, Nat.reduceAdd, bx, Bool.not_false]; exact rfl) (by trivial) ?_
          refine Wp.cond_true (by simp only [go_sem, reduceIte, Nat.reduceEqDiff, Nat.reduceAdd, bx]) ?_
          by_cases hM0 : M = []
          · subst hM0
            have hv0 : keysV [] k = .sl 1 [] (.exact 0) := rfl
            rw [hv0]
            refine Wp.reg ?_
            refine WpItems.part 3 (by simp only [go_sem, reduceIte, Nat.reduceEqDiff, Nat.reduceAdd, bx]; exact rfl) ?_
            simp only [List.drop_succ_cons, List.drop_zero, List.drop_nil]
            refine WpItems.opT (by simp only [go_sem, reduceIte, Nat.reduceEqDiff, Nat.reduceAdd, bx]) (by simp only [aopT, go_sem, reduceIte, Nat.reduceEqDiff, Nat.reduceAdd, bx, List.all_cons, List.all_nil, List.length_cons, List.length_nil, Nat.reduceMul, Nat.reduceLeDiff, Nat.reduceLT, Nat.zero_lt_succ, and_self, if_true, decide_true, Bool.and_self]; exact rfl) rfl ?_
            refine WpItems.part 1 (by simp only [go_sem, reduceIte, Nat.reduceEqDiff, Nat.reduceAdd, bx]; exact rfl) ?_
            simp only [List.drop_succ_cons, List.drop_zero, List.drop_nil]
            refine WpItems.nil ⟨by simp [pairsQ, pairsOk, apart, ent0], ?_⟩
            refine Wp.reg1 (by simp only [go_sem, reduceIte, Nat.reduceEqDiff, Nat.reduceAdd, bx, ax, if_true, if_false, hF0, n1, n2, n3, n4, n5, m6, m7, m8, m9, List.length_cons, List.length_nil, Nat.zero_add, Nat.reduceMul, Nat.reduceLeDiff, Nat.reduceLT, List.nil_append, hmf, hput]; exact rfl) (by trivial) ?_
            refine Wp.reg1 (by simp only [go_sem, reduceIte, Nat.reduceEqDiff, Nat.reduceAdd, bx, e1]; exact rfl) (by trivial) ?_
            refine ⟨(i + 1, [(vK p, ([vV p], m))], m :: T, n + 2, n + 3, m + 1), ⟨by simp only; omega, hnew, by simp only; omega, fun _ => ⟨by simp only; omega, by simp only; omega⟩, all_step hs hst⟩, by simp only; omega, ?_⟩
            refine StLe.of (tm_le ?_) (mF_le ?_ fun _ => ?_) (fun _ h => h) (Nat.le_refl _) (Nat.le_refl _)
            · simp only [keysV, List.cons_ne_nil, if_false, List.length_cons, List.length_nil]
              simp only [AllSub, go_sem, reduceIte, Nat.reduceEqDiff, Nat.reduceAdd, bx]; and_intros <;> first | exact trivial | exact VSub.refl _ | exact VSub.any _ | (refine VSub.int ?_; omega)
            · simp [upd, encMt, encV]
            · simp [upd, ksT, cellsOf, strs]
          · obtain ⟨k1, k2⟩ := hk hM0
            have hFk := hFk hM0
            have hv0 : keysV M k = .tsl 1 k 0 M.length none := by rw [keysV, if_neg hM0]
            have k3 : ¬ (k = 0) := by omega
            have k4 : ¬ (k = n) := by omega
            have k5 : ¬ (k = n + 1) := by omega
            have k6 : ¬ (0 = k) := by omega
            have k7 : ¬ (n = k) := by omega
            have k8 : ¬ (n + 1 = k) := by omega
            have hcl : (strs (ksT M)).length = M.length := by rw [strs_length]; simp [ksT]
            have r1 : (M.length + 1) * 16 ≤ 140737488355328 := by omega
            have r2 : M.length + 1 < 4611686018427387904 := by omega
            have hcellM := hcell M
            rw [hv0]
            refine Wp.reg ?_
            refine WpItems.part 3 (by simp only [go_sem, reduceIte, Nat.reduceEqDiff, Nat.reduceAdd, bx]; exact rfl) ?_
            simp only [List.drop_succ_cons, List.drop_zero, List.drop_nil]
            refine WpItems.opK (by simp only [go_sem, reduceIte, Nat.reduceEqDiff, Nat.reduceAdd, bx]) (by simp only [aopK, go_sem, reduceIte, Nat.reduceEqDiff, Nat.reduceAdd, bx, List.all_cons, List.all_nil, List.length_cons, List.length_nil, Nat.mul_one, k3, k4, k5, hFk, hcl, r1, r2, and_self, if_true, if_false, decide_true, Bool.and_self, hcellM]; exact rfl) rfl ?_
            refine WpItems.part 1 (by simp only [go_sem, reduceIte, Nat.reduceEqDiff, Nat.reduceAdd, bx]; exact rfl) ?_
            simp only [List.drop_succ_cons, List.drop_zero, List.drop_nil]
            refine WpItems.nil ⟨by simp [pairsQ, pairsOk, apart, ent0], ?_⟩
            refine Wp.reg1 (by simp only [go_sem, reduceIte, Nat.reduceEqDiff, Nat.reduceAdd, bx, ax, if_true, if_false, hF0, k6, k7, k8, n1, n2, n3, n4, n5, m6, m7, m8, m9, List.length_cons, List.length_nil, Nat.zero_add, Nat.reduceMul, Nat.reduceLeDiff, Nat.reduceLT, List.nil_append, hmf, hput]; exact rfl) (by trivial) ?_
            refine Wp.reg1 (by simp only [go_sem, reduceIte, Nat.reduceEqDiff, Nat.reduceAdd, bx, e1]; exact rfl) (by trivial) ?_
            refine ⟨(i + 1, M ++ [(vK p, ([vV p], m))], m :: T, n + 2, n + 3, m + 1), ⟨by simp only; omega, hnew, by simp only; omega, fun _ => ⟨by simp only; omega, by simp only; omega⟩, all_step hs hst⟩, by simp only; omega, ?_⟩
            refine StLe.of (tm_le ?_) (mF_le ?_ fun _ => ?_) (fun _ h => h) (Nat.le_refl _) (Nat.le_refl _)
            · have : M ++ [(vK p, ([vV p], m))] ≠ [] := by simp
              simp only [keysV, this, if_false, List.length_append, List.length_cons, List.length_nil]
              simp only [AllSub, go_sem, reduceIte, Nat.reduceEqDiff, Nat.reduceAdd, bx]; and_intros <;> first | exact trivial | exact VSub.refl _ | exact VSub.any _ | (refine VSub.int ?_; omega)
            · simp [upd, encMt, encV]
            · simp [upd]
      · have g2 : decide ((0 : Int) < (i : Int)) = true := decide_eq_true (by omega)
        have e2 : IntKind.i64.wrap ((i : Int) - 1) = ((i - 1 : Nat) : Int) := by rw [IntWalk.i64_in _ (by omega)]; omega
        have h4 : (0 : Int) ≤ ((i - 1 : Nat) : Int) := by omega
        have h5 : ((i - 1 : Nat) : Int) < (l.length : Int) := by omega
        have hat2 : (prs l).getD (i - 1) .any = encPr (l.getD (i - 1) default) := prs_getD l (i - 1) .any (by omega)
        cases hb : Op.bytesLess (l.getD (i - 1) default).k (l.getD i default).k with
        | false =>
          have hit := no ((stepI_pos hz).trans (by rw [hb, Bool.and_false]))
          generalize l.getD i default = p at *
          generalize l.getD (i - 1) default = y at *
          simp only [encPr, encV] at hver
          generalize hFd : mF M k = F at *
          repeat (first
            | ((first | apply Wp.seqItemsR | apply Wp.itemsR | ((first
                | (refine WpItems.pcall ?_ ?_ (hver) ?_; (· simp only [go_sem, reduceIte, Nat.reduceEqDiff, Nat.reduceAdd, bx]); (· simp only [go_sem, reduceIte, Nat.reduceEqDiff, Nat.reduceAdd, bx, List.map]; first | exact VSubs.refl _ | (repeat (first | exact VSubs.nil | refine VSubs.cons (by first | exact VSub.refl _ | assumption | exact VSub.cap | exact VSub.any _) ?_))))); apply WpItems.evR)); (· simp only [go_sem, reduceIte, Nat.reduceEqDiff, Nat.reduceAdd, bx, ax, if_true, if_false, Nat.reduceMul, Nat.reduceLeDiff, prs_length, g1, g2, h2, h3, e2, h4, h5, hat, hat2, hb, encPr, n1, n2, n3, n4, n5, Bool.not_true, Bool.not_false]; exact rfl))
            | (refine WpItems.nil ⟨?_, ?_⟩; (· first | trivial | simp [pairsQ, pairsOk, apart, ent0]))
            | (apply Wp.cond_lit; (· simp only [go_sem, reduceIte, Nat.reduceEqDiff, Nat.reduceAdd, bx, ax, if_true, if_false, Nat.reduceMul, Nat.reduceLeDiff, prs_length, g1, g2, h2, h3, e2, h4, h5, hat, hat2, hb, encPr, n1, n2, n3, n4, n5, Bool.not_true, Bool.not_false]; exact rfl); (· rfl))
            | refine Wp.skip ?_
            | refine Wp.label ?_
            | refine Wp.block ?_
            | refine Wp.exit ?_
            | refine Wp.seq ?_)
          refine Wp.ret ⟨trivial, _, rfl, ?_⟩
          simp only [go_sem, reduceIte, Nat.reduceEqDiff, Nat.reduceAdd, bx]
          exact bad hit
        | true =>
          have hst : stepI l i = true := (stepI_pos hz).trans (by rw [hb, hv]; rfl)
          generalize l.getD i default = p at *
          generalize l.getD (i - 1) default = y at *
          simp only [encPr, encV] at hver
          have hL : (l.take i).length = i := by rw [List.length_take]; omega
          by_cases hq : vK p ∈ ksT M
          · obtain ⟨A, ⟨vs, t⟩, B, rfl, hA⟩ := mid_of hq hI.nd
            have hmf := mfindT_mid (q := vK p) (x := (vs, t)) (B := B) hA
            have ht : t ∈ T := hI.tk (vK p, (vs, t)) (by simp)
            have hvl := hI.len (vK p, (vs, t)) (by simp)
            rw [hL] at hvl
            simp only at hvl
            have hput := putT_mid (q := vK p) (x := (vs, t)) (B := B) (v := vs ++ [vV p]) (t := m) A (.sl 3 (vs.map encV) (.own t))
            have henc : vs.map encV ++ [.agg [.int .i64 (vV p).t, .str (vV p).v, .bool (vV p).d]] = (vs ++ [vV p]).map encV := encV_snoc vs (vV p)
            have hvm : (vs.map encV).length = vs.length := by simp
            have r1 : (vs.length + 1) * 32 ≤ 140737488355328 := by omega
            have r2 : vs.length + 1 < 4611686018427387904 := by omega
            have hnew := hI.old
            rw [← htk] at hnew
            have hkeys : ksT (A ++ (vK p, (vs ++ [vV p], m)) :: B) = ksT (A ++ (vK p, (vs, t)) :: B) := by simp [ksT]
            have hne : A ++ (vK p, (vs, t)) :: B ≠ [] := by simp
            obtain ⟨k1, k2⟩ := hk hne
            have hFk := hFk hne
            have k3 : ¬ (k = 0) := by omega
            have k4 : ¬ (k = n) := by omega
            have k5 : ¬ (k = n + 1) := by omega
            generalize hFd : mF (A ++ (vK p, (vs, t)) :: B) k = F at *
            repeat (first
              | ((first | apply Wp.seqItemsR | apply Wp.itemsR | ((first
                  | (refine WpItems.pcall ?_ ?_ (hver) ?_; (· simp only [go_sem, reduceIte, Nat.reduceEqDiff, Nat.reduceAdd, bx]); (· simp only [go_sem, reduceIte, Nat.reduceEqDiff, Nat.reduceAdd, bx, List.map]; first | exact VSubs.refl _ | (repeat (first | exact VSubs.nil | refine VSubs.cons (by first | exact VSub.refl _ | assumption | exact VSub.cap | exact VSub.any _) ?_))))); apply WpItems.evR)); (· simp only [go_sem, reduceIte, Nat.reduceEqDiff, Nat.reduceAdd, bx, ax, if_true, if_false, Nat.reduceMul, Nat.reduceLeDiff, prs_length, g1, g2, e2, h4, h5, hat2, hb, h2, h3, hat, encPr, n1, n2, n3, n4, n5, Bool.not_true, Bool.not_false]; exact rfl))
              | (refine WpItems.nil ⟨?_, ?_⟩; (· first | trivial | simp [pairsQ, pairsOk, apart, ent0]))
              | (apply Wp.cond_lit; (· simp only [go_sem, reduceIte, Nat.reduceEqDiff, Nat.reduceAdd, bx, ax, if_true, if_false, Nat.reduceMul, Nat.reduceLeDiff, prs_length, g1, g2, e2, h4, h5, hat2, hb, h2, h3, hat, encPr, n1, n2, n3, n4, n5, Bool.not_true, Bool.not_false]; exact rfl); (· rfl))
              | refine Wp.skip ?_
              | refine Wp.label ?_
              | refine Wp.block ?_
              | refine Wp.exit ?_
              | refine Wp.seq ?_)
            repeat (first
              | ((first | apply Wp.seqItemsR | apply Wp.itemsR); (· simp only [go_sem, reduceIte, Nat.reduceEqDiff, Nat.reduceAdd, bx, ax, if_true, if_false, Nat.reduceMul, Nat.reduceLeDiff, hF0, hmf, n1, n2, n3, n4, n5, Bool.not_true]; exact rfl))
              | (refine WpItems.nil ⟨?_, ?_⟩; (· first | trivial | simp [pairsQ, pairsOk, apart, ent0]))
              | (apply Wp.cond_lit; (· simp only [go_sem, reduceIte, Nat.reduceEqDiff, Nat.reduceAdd, bx, ax, if_true, if_false, Nat.reduceMul, Nat.reduceLeDiff, hF0, hmf, n1, n2, n3, n4, n5, Bool.not_true]; exact rfl); (· rfl))
              | refine Wp.skip ?_
              | refine Wp.label ?_
              | refine Wp.block ?_
              | refine Wp.exit ?_
              | refine Wp.seq ?_)
            repeat (first
              | ((first | apply Wp.seqItemsR | apply Wp.itemsR); (· simp only [go_sem, reduceIte, Nat.reduceEqDiff, Nat.reduceAdd, bx, ax, if_true, if_false, Nat.reduceMul, Nat.reduceLeDiff, hF0, hmf, n1, n2, n3, n4, n5, ht, hvm, List.length_cons, List.length_nil, Nat.zero_add, r1, r2, henc, hput, e1]; exact rfl))
              | (refine WpItems.nil ⟨?_, ?_⟩; (· first | trivial | simp [pairsQ, pairsOk, apart, ent0]))
              | (apply Wp.cond_lit; (· simp only [go_sem, reduceIte, Nat.reduceEqDiff, Nat.reduceAdd, bx, ax, if_true, if_false, Nat.reduceMul, Nat.reduceLeDiff, hF0, hmf, n1, n2, n3, n4, n5, ht, hvm, List.length_cons, List.length_nil, Nat.zero_add, r1, r2, henc, hput, e1]; exact rfl); (· rfl))
              | refine Wp.skip ?_
              | refine Wp.label ?_
              | refine Wp.block ?_
              | refine Wp.exit ?_
              | refine Wp.seq ?_)
            refine ⟨(i + 1, A ++ (vK p, (vs ++ [vV p], m)) :: B, m :: T.filter (· ≠ t), k, n + 2, m + 1), ⟨by simp only; omega, hnew, by simp only; omega, fun _ => ⟨by simp only; omega, by simp only; omega⟩, all_step hs hst⟩, by simp only; omega, ?_⟩
            refine StLe.of (tm_le ?_) (mF_le ?_ fun _ => ?_) (fun _ h => h) (Nat.le_refl _) (Nat.le_refl _)
            · have e1 : keysV (A ++ (vK p, (vs ++ [vV p], m)) :: B) k = keysV (A ++ (vK p, (vs, t)) :: B) k := by simp [keysV]
              simp only [e1]
              simp only [AllSub, go_sem, reduceIte, Nat.reduceEqDiff, Nat.reduceAdd, bx]; and_intros <;> first | exact trivial | exact VSub.refl _ | exact VSub.any _ | (refine VSub.int ?_; omega)
            · have hset : (encMt (A ++ (vK p, (vs, t)) :: B)).set A.length (.str (vK p), .sl 3 (vs.map encV ++ [encV (vV p)]) (.own m)) = encMt (A ++ (vK p, (vs ++ [vV p], m)) :: B) := by simp [encMt]
              simp [upd]; exact hset
            · simp only [upd, k3, k4, k5, if_false, hkeys]; exact hFk
          · have hmf := mfindT_none hq
            have hput : putEs (encMt M) (vK p) (.sl 3 [.agg [.int .i64 (vV p).t, .str (vV p).v, .bool (vV p).d]] (.own m)) none = encMt (M ++ [(vK p, ([vV p], m))]) := putT_new (q := vK p) (M := M) (v := [vV p]) (t := m)
            have hnew := hI.new hq
            rw [← htk] at hnew
            have hcell : ∀ M : List MT, strs (ksT M) ++ ([AV.str (vK p)] : List AV).flatMap cellsOf = strs (ksT (M ++ [(vK p, ([vV p], m))])) := fun M => by simp [ksT, strs, cellsOf]
            have m6 : ¬ (n + 1 = n + 1 + 1) := by omega
            have m7 : ¬ (n = n + 1 + 1) := by omega
            have m8 : ¬ (0 = n + 1 + 1) := by omega
            have m9 : ¬ (n + 1 + 1 = 0) := by omega
            generalize hFd : mF M k = F at *
            repeat (first
              | ((first | apply Wp.seqItemsR | apply Wp.itemsR | ((first
                  | (refine WpItems.pcall ?_ ?_ (hver) ?_; (· simp only [go_sem, reduceIte, Nat.reduceEqDiff, Nat.reduceAdd, bx]); (· simp only [go_sem, reduceIte, Nat.reduceEqDiff, Nat.reduceAdd, bx, List.map]; first | exact VSubs.refl _ | (repeat (first | exact VSubs.nil | refine VSubs.cons (by first | exact VSub.refl _ | assumption | exact VSub.cap | exact VSub.any _) ?_))))); apply WpItems.evR)); (· simp only [go_sem, reduceIte, Nat.reduceEqDiff, Nat.reduceAdd, bx, ax, if_true, if_false, Nat.reduceMul, Nat.reduceLeDiff, prs_length, g1, g2, e2, h4, h5, hat2, hb, h2, h3, hat, encPr, n1, n2, n3, n4, n5, Bool.not_true, Bool.not_false]; exact rfl))
              | (refine WpItems.nil ⟨?_, ?_⟩; (· first | trivial | simp [pairsQ, pairsOk, apart, ent0]))
              | (apply Wp.cond_lit; (· simp only [go_sem, reduceIte, Nat.reduceEqDiff, Nat.reduceAdd, bx, ax, if_true, if_false, Nat.reduceMul, Nat.reduceLeDiff, prs_length, g1, g2, e2, h4, h5, hat2, hb, h2, h3, hat, encPr, n1, n2, n3, n4, n5, Bool.not_true, Bool.not_false]; exact rfl); (· rfl))
              | refine Wp.skip ?_
              | refine Wp.label ?_
              | refine Wp.block ?_
              | refine Wp.exit ?_
              | refine Wp.seq ?_)
            refine Wp.reg1 (by simp only [go_sem, reduceIte, Nat.reduceEqDiff, Nat.reduceAdd, bx, ax, hF0, hmf, n1, n2, n3, n4, n5, if_true, if_false]; exact rfl) (by trivial) ?_
            refine Wp.seq ?_
            refine Wp.seqReg (by simp only [go_sem, reduceIte, Nat.reduceEqDiff, Nat.reduceAdd, bx, Bool.not_false]; exact rfl) (by trivial) ?_
            refine Wp.cond_true (by simp only [go_sem, reduceIte, Nat.reduceEqDiff, Nat.reduceAdd, bx]) ?_
            by_cases hM0 : M = []
            · subst hM0
              have hv0 : keysV [] k = .sl 1 [] (.exact 0) := rfl
              rw [hv0]
              refine Wp.reg ?_
              refine WpItems.part 3 (by simp only [go_sem, reduceIte, Nat.reduceEqDiff, Nat.reduceAdd, bx]; exact rfl) ?_
              simp only [List.drop_succ_cons, List.drop_zero, List.drop_nil]
              refine WpItems.opT (by simp only [go_sem, reduceIte, Nat.reduceEqDiff, Nat.reduceAdd, bx]) (by simp only [aopT, go_sem, reduceIte, Nat.reduceEqDiff, Nat.reduceAdd, bx, List.all_cons, List.all_nil, List.length_cons, List.length_nil, Nat.reduceMul, Nat.reduceLeDiff, Nat.reduceLT, Nat.zero_lt_succ, and_self, if_true, decide_true, Bool.and_self]; exact rfl) rfl ?_
              refine WpItems.part 1 (by simp only [go_sem, reduceIte, Nat.reduceEqDiff, Nat.reduceAdd, bx]; exact rfl) ?_
              simp only [List.drop_succ_cons, List.drop_zero, List.drop_nil]
              refine WpItems.nil ⟨by simp [pairsQ, pairsOk, apart, ent0], ?_⟩
              refine Wp.reg1 (by simp only [go_sem, reduceIte, Nat.reduceEqDiff, Nat.reduceAdd, bx, ax, if_true, if_false, hF0, n1, n2, n3, n4, n5, m6, m7, m8, m9, List.length_cons, List.length_nil, Nat.zero_add, Nat.reduceMul, Nat.reduceLeDiff, Nat.reduceLT, List.nil_append, hmf, hput]; exact rfl) (by trivial) ?_
              refine Wp.reg1 (by simp only [go_sem, reduceIte, Nat.reduceEqDiff, Nat.reduceAdd, bx, e1]; exact rfl) (by trivial) ?_
              refine ⟨(i + 1, [(vK p, ([vV p], m))], m :: T, n + 2, n + 3, m + 1), ⟨by simp only; omega, hnew, by simp only; omega, fun _ => ⟨by simp only; omega, by simp only; omega⟩, all_step hs hst⟩, by simp only; omega, ?_⟩
              refine StLe.of (tm_le ?_) (mF_le ?_ fun _ => ?_) (fun _ h => h) (Nat.le_refl _) (Nat.le_refl _)
              · simp only [keysV, List.cons_ne_nil, if_false, List.length_cons, List.length_nil]
                simp only [AllSub, go_sem, reduceIte, Nat.reduceEqDiff, Nat.reduceAdd, bx]; and_intros <;> first | exact trivial | exact VSub.refl _ | exact VSub.any _ | (refine VSub.int ?_; omega)
              · simp [upd, encMt, encV]
              · simp [upd, ksT, cellsOf, strs]
            · obtain ⟨k1, k2⟩ := hk hM0
              have hFk := hFk hM0
              have hv0 : keysV M k = .tsl 1 k 0 M.length none := by rw [keysV, if_neg hM0]
              have k3 : ¬ (k = 0) := by omega
              have k4 : ¬ (k = n) := by omega
              have k5 : ¬ (k = n + 1) := by omega
              have k6 : ¬ (0 = k) := by omega
              have k7 : ¬ (n = k) := by omega
              have k8 : ¬ (n + 1 = k) := by omega
              have hcl : (strs (ksT M)).length = M.length := by rw [strs_length]; simp [ksT]
              have r1 : (M.length + 1) * 16 ≤ 140737488355328 := by omega
              have r2 : M.length + 1 < 4611686018427387904 := by omega
              have hcellM := hcell M
              rw [hv0]
              refine Wp.reg ?_
              refine WpItems.part 3 (by simp only [go_sem, reduceIte, Nat.reduceEqDiff, Nat.reduceAdd, bx]; exact rfl) ?_
              simp only [List.drop_succ_cons, List.drop_zero, List.drop_nil]
              refine WpItems.opK (by simp only [go_sem, reduceIte, Nat.reduceEqDiff, Nat.reduceAdd, bx]) (by simp only [aopK, go_sem, reduceIte, Nat.reduceEqDiff, Nat.reduceAdd, bx, List.all_cons, List.all_nil, List.length_cons, List.length_nil, Nat.mul_one, k3, k4, k5, hFk, hcl, r1, r2, and_self, if_true, if_false, decide_true, Bool.and_self, hcellM]; exact rfl) rfl ?_
              refine WpItems.part 1 (by simp only [go_sem, reduceIte, Nat.reduceEqDiff, Nat.reduceAdd, bx]; exact rfl) ?_
              simp only [List.drop_succ_cons, List.drop_zero, List.drop_nil]
              refine WpItems.nil ⟨by simp [pairsQ, pairsOk, apart, ent0], ?_⟩
              refine Wp.reg1 (by simp only [go_sem, reduceIte, Nat.reduceEqDiff, Nat.reduceAdd, bx, ax, if_true, if_false, hF0, k6, k7, k8, n1, n2, n3, n4, n5, m6, m7, m8, m9, List.length_cons, List.length_nil, Nat.zero_add, Nat.reduceMul, Nat.reduceLeDiff, Nat.reduceLT, List.nil_append, hmf, hput]; exact rfl) (by trivial) ?_
              refine Wp.reg1 (by simp only [go_sem, reduceIte, Nat.reduceEqDiff, Nat.reduceAdd, bx, e1]; exact rfl) (by trivial) ?_
              refine ⟨(i + 1, M ++ [(vK p, ([vV p], m))], m :: T, n + 2, n + 3, m + 1), ⟨by simp only; omega, hnew, by simp only; omega, fun _ => ⟨by simp only; omega, by simp only; omega⟩, all_step hs hst⟩, by simp only; omega, ?_⟩
              refine StLe.of (tm_le ?_) (mF_le ?_ fun _ => ?_) (fun _ h => h) (Nat.le_refl _) (Nat.le_refl _)
              · have : M ++ [(vK p, ([vV p], m))] ≠ [] := by simp
                simp only [keysV, this, if_false, List.length_append, List.length_cons, List.length_nil]
                simp only [AllSub, go_sem, reduceIte, Nat.reduceEqDiff, Nat.reduceAdd, bx]; and_intros <;> first | exact trivial | exact VSub.refl _ | exact VSub.any _ | (refine VSub.int ?_; omega)
              · simp [upd, encMt, encV]
              · simp [upd]
  · obtain rfl : i = l.length := by omega
    have g1 : decide (((l.length : Nat) : Int) < ((l.length : Nat) : Int)) = false := decide_eq_false (by omega)
    rw [List.take_length] at hI
    have hall : ∀ p ∈ l, vOkP p = true := fun p hp => by
      obtain ⟨j, hj, rfl⟩ := List.mem_iff_getElem.1 hp
      have := hs j hj
      rw [stepI, Bool.and_eq_true, Av.getD_el hj] at this
      exact this.1
    have hrise : l.Pairwise fun x y => Op.bytesLess x.k y.k = true := pw_adj (r := fun x y : Pr => Op.bytesLess x.k y.k = true) (fun x y z h1 h2 => less_trans h1 h2) fun j hj => by
      have := hs (j + 1) hj
      rw [stepI_pos (by omega), Bool.and_eq_true, Nat.add_sub_cancel] at this
      exact this.2
    have law := itR_law hall hrise
    have hb : bOkI l = okL (itR l) := by rw [bOkI, all_yes hs, Bool.true_and]
    have hRl : (itR l).length ≤ l.length := (itR_sm l fun p hp => by have := (hsz p hp).1; unfold Ls; omega).1
    have hRv : ∀ x ∈ itR l, x.2.length ≤ l.length := (itR_sm l fun p hp => by have := (hsz p hp).1; unfold Ls; omega).2.2.1
    by_cases hM0 : M = []
    · subst hM0
      have hl0 : l = [] := by
        cases l with
        | nil => rfl
        | cons p l =>
          have := (hI.key (vK p)).2 ⟨p, by simp, rfl⟩
          simp [ksT] at this
      subst hl0
      have hv0 : keysV [] k = .sl 1 [] (.exact 0) := rfl
      rw [hv0]
      have hlt0 : decide (((0 : Nat) : Int) < ((0 : Nat) : Int)) = false := rfl
      repeat (first
        | ((first | apply Wp.seqItemsR | apply Wp.itemsR | ((first
            | (refine WpItems.pcall ?_ ?_ (sortS0_p) ?_; (· simp only [go_sem, reduceIte, Nat.reduceEqDiff, Nat.reduceAdd, bx]); (· simp only [go_sem, reduceIte, Nat.reduceEqDiff, Nat.reduceAdd, bx, List.map]; exact VSubs.cons VSub.cap (VSubs.refl _)))); apply WpItems.evR)); (· simp only [go_sem, reduceIte, Nat.reduceEqDiff, Nat.reduceAdd, bx, ax, if_true, if_false, Nat.reduceMul, Nat.reduceLeDiff, g1, List.length_nil]; exact rfl))
        | (refine WpItems.nil ⟨?_, ?_⟩; (· first | trivial | simp [pairsQ, pairsOk, apart, ent0]))
        | (apply Wp.cond_lit; (· simp only [go_sem, reduceIte, Nat.reduceEqDiff, Nat.reduceAdd, bx, ax, if_true, if_false, Nat.reduceMul, Nat.reduceLeDiff, g1, List.length_nil]; exact rfl); (· rfl))
        | refine Wp.skip ?_
        | refine Wp.label ?_
        | refine Wp.block ?_
        | refine Wp.exit ?_
        | refine Wp.seq ?_)
      refine Wp.le (s' := ⟨_, ⟨none', n, [], m⟩⟩) (StLe.of (fun _ => VSub.refl _) (OLe.none _) (fun _ h => by simp at h) (Nat.le_refl _) (Nat.le_refl _)) ?_
      refine Wp.loopK [13, 69, 70] (by simp only [go_sem, reduceIte, Nat.reduceEqDiff, Nat.reduceAdd, bx, List.map]; exact rfl) (fun j : Nat => [(71, .int .i64 (j : Nat))]) (fun j => j = 0) (fun j => j) 0 rfl ?_ ?_
      · simp only [AllSub, go_sem, reduceIte, Nat.reduceEqDiff, Nat.reduceAdd, bx]; and_intros <;> first | exact trivial | exact VSub.refl _ | exact VSub.any _ | (refine VSub.int ?_; omega)
      rintro j rfl
      repeat (first
        | ((first | apply Wp.seqItemsR | apply Wp.itemsR); (· simp only [go_sem, reduceIte, Nat.reduceEqDiff, Nat.reduceAdd, bx, ax, if_true, if_false, Nat.reduceMul, Nat.reduceLeDiff, hlt0]; exact rfl))
        | (refine WpItems.nil ⟨?_, ?_⟩; (· first | trivial | simp [pairsQ, pairsOk, apart, ent0]))
        | (apply Wp.cond_lit; (· simp only [go_sem, reduceIte, Nat.reduceEqDiff, Nat.reduceAdd, bx, ax, if_true, if_false, Nat.reduceMul, Nat.reduceLeDiff, hlt0]; exact rfl); (· rfl))
        | refine Wp.skip ?_
        | refine Wp.label ?_
        | refine Wp.block ?_
        | refine Wp.exit ?_
        | refine Wp.seq ?_)
      refine Wp.ret ⟨trivial, _, rfl, ?_⟩
      simp only [go_sem, reduceIte, Nat.reduceEqDiff, Nat.reduceAdd, bx]
      exact VSub.tup (VSubs.cons VSub.cap (VSubs.refl _))
    · obtain ⟨k1, k2⟩ := hk hM0
      have hF0 := mF_zero (M := M) (k := k) (fun h => by omega)
      have hFk := mF_row (M := M) (k := k) hM0
      have hv0 : keysV M k = .tsl 1 k 0 (ksT M).length none := by rw [keysV, if_neg hM0]; simp [ksT]
      have hkl : (ksT M).length = M.length := by simp [ksT]
      have hMl : 0 < M.length := List.length_pos_iff.2 hM0
      have hrk : ((itR l).map (·.1)).Pairwise fun x y => Op.bytesLess x y = true := by rw [List.pairwise_map]; exact law.rise
      have hmem : ∀ x, x ∈ (itR l).map (·.1) ↔ x ∈ ksT M := fun x => by rw [law.key, hI.key]
      have hndR : ((itR l).map (·.1)).Nodup := hrk.imp fun h => less_ne h
      have hlen : ((itR l).map (·.1)).length = (ksT M).length := by
        refine Nat.le_antisymm ?_ ?_
        · exact sub_len hndR fun x hx => (hmem x).1 hx
        · exact sub_len hI.nd fun x hx => (hmem x).2 hx
      have hsort := sortS_a (ksT M) ((itR l).map (·.1)) (by omega) (by omega) hlen hI.nd hrk hmem (id := k) (h := .only (upd none' k (some (.cells (strs (ksT M))))) [] n m) (by simp [H.only, upd]) rfl
      have hsort' : ACalls Try.prog 24 [.tsl 1 k 0 (ksT M).length none] (.only (upd none' k (some (.cells (strs (ksT M))))) [] n m) (.tup []) (.only (upd none' k (some (.cells (strs ((itR l).map (·.1)))))) [] n m) := by
        simpa only [H.only, upd_upd'] using hsort
      rw [hv0]
      generalize hFd : mF M k = F at *
      repeat (first
        | ((first | apply Wp.seqItemsR | apply Wp.itemsR); (· simp only [go_sem, reduceIte, Nat.reduceEqDiff, Nat.reduceAdd, bx, ax, if_true, if_false, Nat.reduceMul, Nat.reduceLeDiff, g1]; exact rfl))
        | (refine WpItems.nil ⟨?_, ?_⟩; (· first | trivial | simp [pairsQ, pairsOk, apart, ent0]))
        | (apply Wp.cond_lit; (· simp only [go_sem, reduceIte, Nat.reduceEqDiff, Nat.reduceAdd, bx, ax, if_true, if_false, Nat.reduceMul, Nat.reduceLeDiff, g1]; exact rfl); (· rfl))
        | refine Wp.skip ?_
        | refine Wp.label ?_
        | refine Wp.block ?_
        | refine Wp.exit ?_
        | refine Wp.seq ?_)
      refine WpItems.acall (by simp only [go_sem]) (by simp only [go_sem, reduceIte, Nat.reduceEqDiff, List.map]; exact VSubs.refl _) hsort' (touch_write _ hFk) ?_
      refine WpItems.eval (by simp only [go_sem, reduceIte, Nat.reduceEqDiff, Nat.reduceAdd, bx]; exact rfl) ?_
      refine WpItems.nil ⟨by trivial, ?_⟩
      have kk : ¬ (0 = k) := by omega
      have hG0 : upd F k (some (Av.Obj.cells (strs ((itR l).map (·.1))))) 0 = some (.map (encMt M)) := by simp only [upd, kk, if_false]; exact hF0
      have hGk : upd F k (some (Av.Obj.cells (strs ((itR l).map (·.1))))) k = some (.cells (strs ((itR l).map (·.1)))) := by simp [upd]
      have hE : ∀ j, n ≤ j → upd F k (some (Av.Obj.cells (strs ((itR l).map (·.1))))) j = none := fun j hj => by
        rw [← hFd]
        simp only [upd, mF, if_neg hM0, none', show ¬ (j = k) by omega, show ¬ (j = 0) by omega, if_false]
      generalize upd F k (some (Av.Obj.cells (strs ((itR l).map (·.1))))) = E at *
      repeat (first
        | ((first | apply Wp.seqItemsR | apply Wp.itemsR); (· simp only [go_sem, reduceIte, Nat.reduceEqDiff, Nat.reduceAdd, bx, ax, if_true, if_false, Nat.reduceMul, Nat.reduceLeDiff]; exact rfl))
        | (refine WpItems.nil ⟨?_, ?_⟩; (· first | trivial | simp [pairsQ, pairsOk, apart, ent0]))
        | (apply Wp.cond_lit; (· simp only [go_sem, reduceIte, Nat.reduceEqDiff, Nat.reduceAdd, bx, ax, if_true, if_false, Nat.reduceMul, Nat.reduceLeDiff]; exact rfl); (· rfl))
        | refine Wp.skip ?_
        | refine Wp.label ?_
        | refine Wp.block ?_
        | refine Wp.exit ?_
        | refine Wp.seq ?_)
      refine Wp.le (s' := ⟨_, ⟨E, n, [], m⟩⟩) (StLe.of (fun _ => VSub.refl _) (OLe.refl' _) (fun _ h => by simp at h) (Nat.le_refl _) (Nat.le_refl _)) ?_
      refine Wp.le (StLe.tok _ _) ?_
      rw [← hlen]
      refine Wp.loopTokN [4, 69, 70] (by simp only [go_sem, reduceIte, Nat.reduceEqDiff, List.map]; exact rfl) (fun (j : Nat) tk => [(13, .sl 2 (((itR l).take j).map encI) (.own tk)), (71, .int .i64 (j : Nat))]) (fun j => j ≤ (itR l).length ∧ ∀ i, i < j → mayI ((itR l).getD i default) = true) (fun j => (itR l).length - j) 0 _ ⟨Nat.zero_le _, fun i h => absurd h (by omega)⟩ rfl ?_ ?_
      · simp only [AllSub, go_sem, reduceIte, Nat.reduceEqDiff, Nat.reduceAdd, bx]; and_intros <;> first | exact trivial | exact VSub.refl _ | exact VSub.any _ | exact VSub.own_of rfl | (refine VSub.int ?_; omega)
      rintro j tk n2 m2 hn2 ⟨hj, hms⟩
      have hn2' : n ≤ n2 := hn2
      have d0 : ¬ (0 = n2) := by omega
      have d1 : ¬ (k = n2) := by omega
      have hol : ((itR l).take j).length ≤ 100000 := by rw [List.length_take]; omega
      obtain ⟨g0, g0', -, -⟩ := rooms40 (show ((itR l).take j).length ≤ 2000000 by omega)
      by_cases hjc : j < (itR l).length
      · have kg1 : decide (((j : Nat) : Int) < (((itR l).map (·.1)).length : Int)) = true := decide_eq_true (by rw [List.length_map]; omega)
        have kh2 : (0 : Int) ≤ ((j : Nat) : Int) := by omega
        have kh3 : j < ((itR l).map (·.1)).length := by rw [List.length_map]; exact hjc
        have kh4 : ((j : Nat) : Int) < (((itR l).map (·.1)).length : Int) := by omega
        have ke1 : IntKind.i64.wrap (((j : Nat) : Int) + 1) = ((j + 1 : Nat) : Int) := by rw [IntWalk.i64_in _ (by omega)]; omega
        have hxm : (itR l).getD j default ∈ itR l := by rw [Av.getD_el hjc]; exact List.getElem_mem hjc
        have hsj : (strs ((itR l).map (·.1)))[j]? = some (.str ((itR l).getD j default).1) := by
          rw [Av.getD_el hjc]; simp [strs, hjc]
        have hq : ((itR l).getD j default).1 ∈ ksT M := (hmem _).1 (List.mem_map.2 ⟨_, hxm, rfl⟩)
        obtain ⟨A, ⟨vs, t⟩, B, hMe, hA⟩ := mid_of hq hI.nd
        have hvs : vs = ((itR l).getD j default).2 := by
          rw [law.ch _ hxm]
          exact hI.ch (((itR l).getD j default).1, (vs, t)) (by rw [hMe]; simp)
        have hmf : mfind ((itR l).getD j default).1 (encMt M) = some (some (A.length, .sl 3 (((itR l).getD j default).2.map encV) (.own t))) := by
          rw [← hvs, hMe]; exact mfindT_mid hA
        have hvl := hRv _ hxm
        have hmy := bmay_p ((itR l).getD j default) (by omega)
        have htk : (itR l).take (j + 1) = (itR l).take j ++ [(itR l).getD j default] := Av.take_snoc default hjc
        have hok : mayI ((itR l).getD j default) = false → bOkI l = false := fun h => by rw [hb]; exact all_no hjc (itOk_may h)
        cases hmm : mayI ((itR l).getD j default) with
        | false =>
          have nm := hok hmm
          rw [hmm] at hmy
          generalize (itR l).getD j default = x at *
          repeat (first
            | ((first | apply Wp.seqItemsR | apply Wp.itemsR); (· simp only [go_sem, reduceIte, Nat.reduceEqDiff, Nat.reduceAdd, bx, ax, if_true, if_false, Nat.reduceMul, Nat.reduceLeDiff, kg1, kh2, kh4, Int.toNat_natCast, Nat.mul_one, Nat.zero_add, hGk, hsj, hG0, hmf, d0, d1]; exact rfl))
            | (refine WpItems.nil ⟨?_, ?_⟩; (· first | trivial | simp [pairsQ, pairsOk, apart, ent0]))
            | (apply Wp.cond_lit; (· simp only [go_sem, reduceIte, Nat.reduceEqDiff, Nat.reduceAdd, bx, ax, if_true, if_false, Nat.reduceMul, Nat.reduceLeDiff, kg1, kh2, kh4, Int.toNat_natCast, Nat.mul_one, Nat.zero_add, hGk, hsj, hG0, hmf, d0, d1]; exact rfl); (· rfl))
            | refine Wp.skip ?_
            | refine Wp.label ?_
            | refine Wp.block ?_
            | refine Wp.exit ?_
            | refine Wp.seq ?_)
          refine WpItems.pcall (by simp only [go_sem, reduceIte, Nat.reduceEqDiff, Nat.reduceAdd, bx]) (by simp only [go_sem, reduceIte, Nat.reduceEqDiff, Nat.reduceAdd, bx, List.map]; exact VSubs.cons (subI _ _ _) VSubs.nil) (hmy) ?_
          refine WpItems.eval (by simp only [go_sem, reduceIte, Nat.reduceEqDiff, Nat.reduceAdd, bx, Bool.not_false]; exact rfl) ?_
          refine WpItems.nil ⟨by trivial, ?_⟩
          repeat (first
            | ((first | apply Wp.seqItemsR | apply Wp.itemsR); (· simp only [go_sem, reduceIte, Nat.reduceEqDiff, Nat.reduceAdd, bx, ax, if_true, if_false, Nat.reduceMul, Nat.reduceLeDiff]; exact rfl))
            | (refine WpItems.nil ⟨?_, ?_⟩; (· first | trivial | simp [pairsQ, pairsOk, apart, ent0]))
            | (apply Wp.cond_lit; (· simp only [go_sem, reduceIte, Nat.reduceEqDiff, Nat.reduceAdd, bx, ax, if_true, if_false, Nat.reduceMul, Nat.reduceLeDiff]; exact rfl); (· rfl))
            | refine Wp.skip ?_
            | refine Wp.label ?_
            | refine Wp.block ?_
            | refine Wp.exit ?_
            | refine Wp.seq ?_)
          refine Wp.ret ⟨trivial, _, rfl, ?_⟩
          simp only [go_sem, reduceIte, Nat.reduceEqDiff, Nat.reduceAdd, bx]
          exact bad nm
        | true =>
          rw [hmm] at hmy
          have hmsn : ∀ i, i < j + 1 → mayI ((itR l).getD i default) = true := fun i hi => by
            rcases Nat.lt_or_ge i j with h | h
            · exact hms i h
            · rw [show i = j by omega]; exact hmm
          generalize (itR l).getD j default = x at *
          repeat (first
            | ((first | apply Wp.seqItemsR | apply Wp.itemsR); (· simp only [go_sem, reduceIte, Nat.reduceEqDiff, Nat.reduceAdd, bx, ax, if_true, if_false, Nat.reduceMul, Nat.reduceLeDiff, kg1, kh2, kh4, Int.toNat_natCast, Nat.mul_one, Nat.zero_add, hGk, hsj, hG0, hmf, d0, d1]; exact rfl))
            | (refine WpItems.nil ⟨?_, ?_⟩; (· first | trivial | simp [pairsQ, pairsOk, apart, ent0]))
            | (apply Wp.cond_lit; (· simp only [go_sem, reduceIte, Nat.reduceEqDiff, Nat.reduceAdd, bx, ax, if_true, if_false, Nat.reduceMul, Nat.reduceLeDiff, kg1, kh2, kh4, Int.toNat_natCast, Nat.mul_one, Nat.zero_add, hGk, hsj, hG0, hmf, d0, d1]; exact rfl); (· rfl))
            | refine Wp.skip ?_
            | refine Wp.label ?_
            | refine Wp.block ?_
            | refine Wp.exit ?_
            | refine Wp.seq ?_)
          refine WpItems.pcall (by simp only [go_sem, reduceIte, Nat.reduceEqDiff, Nat.reduceAdd, bx]) (by simp only [go_sem, reduceIte, Nat.reduceEqDiff, Nat.reduceAdd, bx, List.map]; exact VSubs.cons (subI _ _ _) VSubs.nil) (hmy) ?_
          refine WpItems.eval (by simp only [go_sem, reduceIte, Nat.reduceEqDiff, Nat.reduceAdd, bx, Bool.not_true]; exact rfl) ?_
          refine WpItems.nil ⟨by trivial, ?_⟩
          repeat (first
            | ((first | apply Wp.seqItemsR | apply Wp.itemsR); (· simp only [go_sem, reduceIte, Nat.reduceEqDiff, Nat.reduceAdd, bx, ax, if_true, if_false, Nat.reduceMul, Nat.reduceLeDiff, d0, d1, List.length_map, List.length_cons, List.length_nil, Nat.zero_add, g0, g0', ke1]; exact rfl))
            | (refine WpItems.nil ⟨?_, ?_⟩; (· first | trivial | simp [pairsQ, pairsOk, apart, ent0]))
            | (apply Wp.cond_lit; (· simp only [go_sem, reduceIte, Nat.reduceEqDiff, Nat.reduceAdd, bx, ax, if_true, if_false, Nat.reduceMul, Nat.reduceLeDiff, d0, d1, List.length_map, List.length_cons, List.length_nil, Nat.zero_add, g0, g0', ke1]; exact rfl); (· rfl))
            | refine Wp.skip ?_
            | refine Wp.label ?_
            | refine Wp.block ?_
            | refine Wp.exit ?_
            | refine Wp.seq ?_)
          refine ⟨j + 1, m2, n2 + 1, m2 + 1, by omega, ⟨by omega, hmsn⟩, by omega, ?_⟩
          refine StLe.tmN (by omega) ?_ ?_
          · intro i o hi
            replace hi : E i = some o := hi
            refine ⟨o, ?_, OSub.refl _⟩
            have hne : ¬ (i = n2) := fun e => by rw [e, hE n2 hn2'] at hi; cases hi
            simp only [upd, hne, if_false]; exact hi
          · have hRm : ((itR l).map (·.1)).length = (itR l).length := List.length_map _
            simp only [AllSub, go_sem, reduceIte, Nat.reduceEqDiff, Nat.reduceAdd, bx]; and_intros <;> first | exact trivial | exact VSub.refl _ | exact VSub.any _ | (rw [htk]; exact rowI _ (subI _ _ _) _) | exact VSub.of_eq (by rw [hRm]) | (refine VSub.int ?_; omega)
      · obtain rfl : j = (itR l).length := by omega
        have kg1 : decide ((((itR l).length : Nat) : Int) < (((itR l).map (·.1)).length : Int)) = false := decide_eq_false (by rw [List.length_map]; omega)
        have hok : bOkI l = true := by
          rw [hb]
          refine okL_of law.rise fun x hx => ?_
          obtain ⟨i, hi, rfl⟩ := List.mem_iff_getElem.1 hx
          have := hms i hi
          rwa [Av.getD_el hi] at this
        repeat (first
          | ((first | apply Wp.seqItemsR | apply Wp.itemsR); (· simp only [go_sem, reduceIte, Nat.reduceEqDiff, Nat.reduceAdd, bx, ax, if_true, if_false, Nat.reduceMul, Nat.reduceLeDiff, kg1]; exact rfl))
          | (refine WpItems.nil ⟨?_, ?_⟩; (· first | trivial | simp [pairsQ, pairsOk, apart, ent0]))
          | (apply Wp.cond_lit; (· simp only [go_sem, reduceIte, Nat.reduceEqDiff, Nat.reduceAdd, bx, ax, if_true, if_false, Nat.reduceMul, Nat.reduceLeDiff, kg1]; exact rfl); (· rfl))
          | refine Wp.skip ?_
          | refine Wp.label ?_
          | refine Wp.block ?_
          | refine Wp.exit ?_
          | refine Wp.seq ?_)
        refine Wp.ret ⟨trivial, _, rfl, ?_⟩
        simp only [go_sem, reduceIte, Nat.reduceEqDiff, Nat.reduceAdd, bx]
        rw [hok, List.take_length]; exact VSub.tup (VSubs.cons VSub.cap (VSubs.refl _))
end Go.Proofs.Ytobokfclaooloaa.Space
end
section
set_option linter.unusedSimpArgs false
set_option linter.unusedVariables false
set_option maxRecDepth 100000
namespace Go.Proofs.Ytobokfclaooloaa.Space
open Go Go.Av Go.Proofs Go.Proofs.Ytobokfclaooloaa.C Go.Proofs.Ytobokfclaooloaa.Batch
theorem laid : laidOutB Try.prog = true := by kernel_rfl
theorem rowed : mapsRowed Try.prog = true := by kernel_rfl
theorem full : ∀ t e, t < Try.prog.types.size → Try.prog.underlying t = some (.slice e) → 0 < Try.prog.cellsOf e := slices_full_of Try.prog (by kernel_rfl)
theorem own : ownKnob Try.prog.godebug = none := by kernel_rfl
theorem bulk {H : Type} : Bulk (H := H) Rows.uptoBulk Rows.uptoBulkAll :=
  ⟨fun l => by simp [Rows.uptoBulk], fun k n => by simp [Rows.uptoBulk], fun b => by simp [Rows.uptoBulk], by simp [Rows.uptoBulk], fun a b => by simp [Rows.uptoBulk], fun a => by simp [Rows.uptoBulk], by simp [Rows.uptoBulkAll], fun d l => by simp [Rows.uptoBulkAll]⟩
theorem all_of {α : Type} {t : TypeId} {k : Nat} {enc : α → AV} {Q : α → Prop} (h1 : ∀ cs, Fits Try.prog k t cs → ∃ x, wrapE Try.prog t cs = enc x ∧ Q x) : ∀ {ys : List AV}, (∀ y ∈ ys, ∃ cs, Fits Try.prog k t cs ∧ y = wrapE Try.prog t cs) → ∃ l : List α, ys = l.map enc ∧ ∀ x ∈ l, Q x
  | [], _ => ⟨[], rfl, by simp⟩
  | y :: ys, h => by
    obtain ⟨l, rfl, hl⟩ := all_of h1 (ys := ys) (fun z hz => h z (by simp [hz]))
    obtain ⟨cs, g1, g2⟩ := h y (by simp)
    obtain ⟨x, e, q⟩ := h1 cs g1
    refine ⟨x :: l, by simp [g2, e], fun z hz => ?_⟩
    rcases List.mem_cons.1 hz with rfl | hz
    · exact q
    · exact hl z hz
theorem row_len {n b : Nat} (hb : 8 ≤ b) (h : n * b ≤ reachBytes) : n ≤ 35184372088832 := by
  have : n * 8 ≤ n * b := Nat.mul_le_mul_left n hb
  have e : reachBytes = 140737488351232 := rfl
  omega
theorem ver_fits {k : Nat} {cs : List AV} (h : Fits Try.prog (k + 2) 51 cs) : ∃ p : Ver, wrapE Try.prog 51 cs = encV p ∧ True := by
  have hw : ∀ cs, wrapE Try.prog 51 cs = .agg cs := fun cs => by
    unfold wrapE; rw [if_pos (by kernel_rfl)]
  rw [hw]
  unfold Fits at h
  rw [Try.underlying51] at h
  obtain ⟨xss, rfl, h⟩ := h
  cases h with | cons h0 h => cases h with | cons h1 h => cases h with | cons h2 h =>
  cases h
  unfold Fits at h0 h1 h2
  simp only at h0 h1 h2
  rw [Try.underlying3] at h0
  rw [Try.underlying9] at h1
  rw [Try.underlying4] at h2
  obtain ⟨n, rfl, hn⟩ := h0
  obtain ⟨v, rfl, hv⟩ := h1
  obtain ⟨d, rfl⟩ := h2
  exact ⟨⟨n, v, d⟩, rfl, trivial⟩
def ItOk (p : It) : Prop := p.1.length ≤ reachBytes ∧ p.2.length ≤ 4398046510976
theorem item_fits {k : Nat} {cs : List AV} (h : Fits Try.prog (k + 4) 40 cs) : ∃ p : It, wrapE Try.prog 40 cs = encI p ∧ ItOk p := by
  have hw : ∀ cs, wrapE Try.prog 40 cs = .agg cs := fun cs => by
    unfold wrapE; rw [if_pos (by kernel_rfl)]
  rw [hw]
  unfold Fits at h
  rw [Try.underlying40] at h
  obtain ⟨xss, rfl, h⟩ := h
  cases h with | cons h0 h => cases h with | cons h1 h =>
  cases h
  unfold Fits at h0 h1
  simp only at h0 h1
  rw [Try.underlying9] at h0
  rw [Try.underlying38] at h1
  obtain ⟨q, rfl, hq⟩ := h0
  obtain ⟨xs, rfl, hlx, hx⟩ := h1
  obtain ⟨l, rfl, -⟩ := all_of (fun cs h => ver_fits h) hx
  have c1 : Try.prog.cellsOf 51 = 3 := by kernel_rfl
  have c2 : Try.prog.bytesOf 51 = 32 := by kernel_rfl
  rw [List.length_map, c2] at hlx
  refine ⟨(q, l), ?_, hq, by have e : reachBytes = 140737488351232 := rfl; simp only; omega⟩
  simp [encI, vAV, c1]
theorem open_items {a : AV} (h : ArgFits Try.prog 5 22 a) : ∃ l : List It, a = .sl 2 (l.map encI) .any ∧ l.length ≤ 35184372088832 ∧ ∀ p ∈ l, ItOk p := by
  obtain ⟨cs, h, rfl⟩ := h
  unfold Fits at h
  rw [Try.underlying22] at h
  obtain ⟨xs, rfl, hlx, hx⟩ := h
  obtain ⟨l, rfl, hl⟩ := all_of (fun cs h => item_fits h) hx
  have c1 : Try.prog.cellsOf 40 = 2 := by kernel_rfl
  have c2 : Try.prog.bytesOf 40 = 40 := by kernel_rfl
  rw [List.length_map, c2] at hlx
  refine ⟨l, ?_, row_len (by decide) hlx, hl⟩
  unfold wrapE; rw [if_neg (by rw [show isAggT Try.prog 22 = false by kernel_rfl]; simp), c1]; rfl
end Go.Proofs.Ytobokfclaooloaa.Space
end
