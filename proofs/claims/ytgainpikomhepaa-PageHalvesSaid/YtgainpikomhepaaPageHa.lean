/- Chapter 08: the law of PageHalves in plain data. -/
import Derived.Test.YtgainpikomhepaaPagePe
import Derived.Test.YtgainpikomhepaaPageY
set_option linter.unusedSimpArgs false
set_option linter.unusedVariables false
set_option maxRecDepth 10000
namespace Go.Proofs.Ytgainpikomhepaa.Page
open Go Go.Av Go.Proofs Go.Proofs.Ytgainpikomhepaa.C

theorem size_leaf {n : Node} (hl : n.leaf = true) : size n = 3 + 3 * n.keys.length + tot n.keys + tot n.vals := by
  simp [size, hl]

theorem put_size {n : Node} {key val : List UInt8} (h : putOk n key val = true) : size (putN n key val) ≤ size n + 331 := by
  obtain ⟨hr, hl, hk, hv⟩ := ok_parts h
  obtain ⟨h1, h2, h3, h4⟩ := (right_leaf hl).1 hr
  obtain ⟨p1, -, -⟩ := leaf_place hl key
  rw [size_leaf (put_leaf h), size_leaf hl]
  unfold putN
  rw [if_pos h]
  split
  · have e := tot_split n.vals (place n key)
    have e2 := tot_drop (n.vals.drop (place n key)) 1
    rw [List.drop_drop] at e2
    simp only [setN, tot_append, tot_cons]
    omega
  · have e := tot_split n.vals (place n key)
    have e3 := tot_split n.keys (place n key)
    simp only [addN, tot_append, tot_cons, List.length_append, List.length_cons, List.length_take, List.length_drop]
    omega

/-- the two halves of a leaf that is not too large by much -/
theorem halves_leaf {m : Node} (hl : m.leaf = true) (hr : right m = true) (hm : 1 ≤ most m) (hs : size m ≤ 1355) : size (part m 0 (cut m)) ≤ 1024 ∧ size (part m (cut m + bet m) m.keys.length) ≤ 1024 := by
  obtain ⟨c1, c2⟩ := cut_le hm
  have hbt : bet m = 0 := by simp [bet, hl]
  obtain ⟨r1, r2, r3, r4⟩ := (right_leaf hl).1 hr
  have hmost : most m + 1 = m.keys.length := by unfold most at hm ⊢; omega
  have k128 : ∀ j, j < m.keys.length → (m.keys.getD j []).length ≤ 128 := fun j hj => by rw [getD_at hj]; exact r1.1 _ (List.getElem_mem hj)
  have v200 : ∀ j, j < m.vals.length → (m.vals.getD j []).length ≤ 200 := fun j hj => by rw [getD_at hj]; exact r4 _ (List.getElem_mem hj)
  have hsz := size_leaf hl
  constructor
  · rw [part0_size m _ (by omega), hl]
    simp only [if_true]
    have h1 := tot_snoc m.keys (cut m - 1) (by omega)
    have h2 := k128 (cut m - 1) (by omega)
    have h3 := tot_snoc m.vals (cut m - 1) (by omega)
    have h4 := v200 (cut m - 1) (by omega)
    rw [show cut m - 1 + 1 = cut m by omega] at h1 h3
    by_cases hc : cut m = 1
    · rw [hc] at h1 h2 h3 h4 ⊢
      have z1 : tot (m.keys.take 0) = 0 := by simp [tot]
      have z2 : tot (m.vals.take 0) = 0 := by simp [tot]
      rw [show 1 - 1 = 0 by rfl] at h1 h2 h3 h4
      omega
    · have hf := cut_before (n := m) (i := cut m - 2) (by omega)
      unfold fits at hf
      have hf := of_decide_eq_false hf
      rw [show 1 + (cut m - 2) = cut m - 1 by omega, part0_size m _ (by omega), hl] at hf
      simp only [if_true] at hf
      omega
  · have hb : size (part m (cut m) m.keys.length) = 3 + 3 * (m.keys.length - cut m) + tot (m.keys.drop (cut m)) + tot (m.vals.drop (cut m)) := by
      rw [size_leaf (n := part m (cut m) m.keys.length) hl]
      simp only [part, hl, if_true, List.take_length, List.length_drop]
      rw [← r2, List.take_length]
    rw [hbt, Nat.add_zero, hb]
    have h1 := tot_split m.keys (cut m)
    have h2 := tot_split m.vals (cut m)
    by_cases hc : cut m < most m
    · have hf := cut_at hc
      unfold fits at hf
      have hf := of_decide_eq_true hf
      rw [show 1 + (cut m - 1) = cut m by omega, part0_size m _ (by omega), hl] at hf
      simp only [if_true] at hf
      omega
    · have hd : m.keys.drop (cut m) = [m.keys.getD (cut m) []] := by
        rw [List.drop_eq_getElem_cons (show cut m < m.keys.length by omega), List.drop_eq_nil_of_le (by omega), getD_at (by omega)]
      have hd2 : m.vals.drop (cut m) = [m.vals.getD (cut m) []] := by
        rw [List.drop_eq_getElem_cons (show cut m < m.vals.length by omega), List.drop_eq_nil_of_le (by omega), getD_at (by omega)]
      have := k128 (cut m) (by omega)
      have := v200 (cut m) (by omega)
      rw [hd, hd2, tot_cons, tot_cons]
      simp only [tot, List.map_nil, List.sum_nil]
      omega

theorem joined_leaf {m : Node} (hl : m.leaf = true) (hr : right m = true) (hm : 1 ≤ most m) :
    (part m 0 (cut m)).keys ++ (part m (cut m + bet m) m.keys.length).keys = m.keys ∧ (part m 0 (cut m)).vals ++ (part m (cut m + bet m) m.keys.length).vals = m.vals ∧ m.kids = [] ∧ (part m 0 (cut m)).keys.length = cut m ∧ (part m (cut m + bet m) m.keys.length).keys.length = m.keys.length - cut m ∧ (part m (cut m + bet m) m.keys.length).keys.getD 0 [] = m.keys.getD (cut m) [] := by
  obtain ⟨c1, c2⟩ := cut_le hm
  have hbt : bet m = 0 := by simp [bet, hl]
  obtain ⟨-, r2, r3, -⟩ := (right_leaf hl).1 hr
  have hmost : most m + 1 = m.keys.length := by unfold most at hm ⊢; omega
  refine ⟨?_, ?_, r3, ?_, ?_, ?_⟩
  · simp only [part, hbt, List.drop_zero, Nat.add_zero]
    rw [List.take_length, List.take_append_drop]
  · simp only [part, hbt, hl, List.drop_zero, if_true, Nat.add_zero]
    rw [← r2, List.take_length, List.take_append_drop]
  · simp [part]; omega
  · simp [part, hbt]
  · simp only [part, hbt, Nat.add_zero, List.take_length]
    rw [List.getD_eq_getElem?_getD, List.getElem?_drop, ← List.getD_eq_getElem?_getD, Nat.add_zero]

/-- a leaf of one key is small -/
theorem one_small {m : Node} (hl : m.leaf = true) (hr : right m = true) (hm : m.keys.length < 2) : size m ≤ 1024 := by
  obtain ⟨r1, r2, r3, r4⟩ := (right_leaf hl).1 hr
  rw [size_leaf hl]
  have h1 := tot_split m.keys 0
  match hk : m.keys, hv : m.vals with
  | [], [] => simp [tot]
  | [a], [b] =>
    have := r1.1 a (by rw [hk]; simp)
    have := r4 b (by rw [hv]; simp)
    simp [tot]; omega
  | [], _ :: _ => rw [hk, hv] at r2; simp at r2
  | [_], [] => rw [hk, hv] at r2; simp at r2
  | [_], _ :: _ :: _ => rw [hk, hv] at r2; simp at r2
  | _ :: _ :: _, _ => rw [hk] at hm; simp only [List.length_cons] at hm; omega
end Go.Proofs.Ytgainpikomhepaa.Page
