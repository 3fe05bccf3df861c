/- Chapter 08: what Put puts: plain data. -/
import Derived.Test.YtgainpikomhepaaPagePd
set_option linter.unusedSimpArgs false
set_option linter.unusedVariables false
set_option maxRecDepth 10000
namespace Go.Proofs.Ytgainpikomhepaa.Page
open Go Go.Av Go.Proofs Go.Proofs.Ytgainpikomhepaa.C

theorem ok_parts {n : Node} {key val : List UInt8} (h : putOk n key val = true) : right n = true ∧ n.leaf = true ∧ key.length ≤ 128 ∧ val.length ≤ 200 := by
  simp only [putOk, Bool.and_eq_true, decide_eq_true_eq] at h
  exact ⟨h.1.1.1, h.1.1.2, h.1.2, h.2⟩

/-- the place of a key in a leaf: ahead of it less, from it on not -/
theorem leaf_place {n : Node} (hl : n.leaf = true) (key : List UInt8) : place n key ≤ n.keys.length ∧ (∀ j, j < place n key → Op.bytesLess (n.keys.getD j []) key = true) ∧ (place n key < n.keys.length → Op.bytesLess (n.keys.getD (place n key) []) key = false) := by
  have hp := place_stop n key
  rw [hl] at hp
  refine ⟨by rw [hp]; exact findIdx_le _ _, fun j hj => ?_, fun h => ?_⟩
  · rw [hp] at hj
    have := before_idx hj
    simpa [stop] using this
  · have hlt : n.keys.findIdx (stop true key) < n.keys.length := by rw [← hp]; exact h
    have := List.findIdx_getElem (w := hlt)
    rw [getD_at h]
    simp only [hp]
    simpa [stop] using this

theorem add_right {n : Node} {key val : List UInt8} (h : putOk n key val = true) (hf : outFound n key = false) : right (addN n (place n key) key val) = true := by
  obtain ⟨hr, hl, hk, hv⟩ := ok_parts h
  obtain ⟨h1, h2, h3, h4⟩ := (right_leaf hl).1 hr
  obtain ⟨p1, p2, p3⟩ := leaf_place hl key
  refine (right_leaf (n := addN n (place n key) key val) rfl).2 ⟨?_, by simp [addN]; omega, rfl, fun v hv' => ?_⟩
  · refine rise_ins (i := place n key) h1 hk (fun s hs => ?_) (fun s hs => ?_)
    · obtain ⟨j, hj, _, rfl⟩ := mem_take_at hs
      exact p2 j hj
    · obtain ⟨j, hj, hjl, rfl⟩ := mem_drop_at hs
      have hlt : place n key < n.keys.length := by omega
      have hne : n.keys.getD (place n key) [] ≠ key := fun e => by
        simp [outFound, found, hr, hl, hlt, e] at hf
        exact hf (by rw [← getD_at hlt (d := [])]; exact e)
      have h0 : Op.bytesLess key (n.keys.getD (place n key) []) = true := by
        rcases less_total key (n.keys.getD (place n key) []) with g | g | g
        · exact g
        · exact absurd g.symm hne
        · rw [p3 hlt] at g; cases g
      rcases Nat.eq_or_lt_of_le hj with e | e
      · rw [← e]; exact h0
      · exact less_trans h0 (rising ((keysOk_iff _).2 h1) e hjl)
  · simp only [addN, List.mem_append, List.mem_cons] at hv'
    rcases hv' with hv' | rfl | hv'
    · exact h4 v (List.mem_of_mem_take hv')
    · exact hv
    · exact h4 v (List.mem_of_mem_drop hv')

theorem add_place {n : Node} {key val : List UInt8} (h : putOk n key val = true) : place (addN n (place n key) key val) key = place n key := by
  obtain ⟨hr, hl, hk, hv⟩ := ok_parts h
  obtain ⟨p1, p2, p3⟩ := leaf_place hl key
  have hlen : (n.keys.take (place n key)).length = place n key := by simp; omega
  refine place_at (n := addN n (place n key) key val) (by simp [addN]; omega) (fun j hj => ?_) ?_
  · show stop true key ((n.keys.take (place n key) ++ key :: n.keys.drop (place n key)).getD j []) = false
    rw [List.getD_eq_getElem?_getD, List.getElem?_append_left (by omega), List.getElem?_take_of_lt hj, ← List.getD_eq_getElem?_getD]
    simp only [stop, p2 j hj, Bool.true_or, Bool.not_true]
  · show stop true key ((n.keys.take (place n key) ++ key :: n.keys.drop (place n key)).getD (place n key) []) = true
    rw [List.getD_eq_getElem?_getD, List.getElem?_append_right (by omega), hlen, Nat.sub_self]
    simp [stop, less_irrefl]

theorem set_right {n : Node} {key val : List UInt8} (h : putOk n key val = true) (hf : outFound n key = true) : right (setN n (place n key) val) = true := by
  obtain ⟨hr, hl, hk, hv⟩ := ok_parts h
  obtain ⟨h1, h2, h3, h4⟩ := (right_leaf hl).1 hr
  obtain ⟨-, -, f3, -, -⟩ := found_facts hf
  refine (right_leaf (n := setN n (place n key) val) rfl).2 ⟨h1, by simp [setN]; omega, rfl, fun v hv' => ?_⟩
  simp only [setN, List.mem_append, List.mem_cons] at hv'
  rcases hv' with hv' | rfl | hv'
  · exact h4 v (List.mem_of_mem_take hv')
  · exact hv
  · exact h4 v (List.mem_of_mem_drop hv')

theorem set_place {n : Node} (hl : n.leaf = true) (i : Nat) (key val : List UInt8) : place (setN n i val) key = place n key := by
  rw [place_stop, place_stop, hl]; rfl

theorem put_right {n : Node} {key val : List UInt8} (h : putOk n key val = true) : right (putN n key val) = true := by
  unfold putN
  rw [if_pos h]
  cases hf : outFound n key with
  | true => rw [if_pos rfl]; exact set_right h hf
  | false => simp only [Bool.false_eq_true, if_false]; exact add_right h hf

theorem put_leaf {n : Node} {key val : List UInt8} (h : putOk n key val = true) : (putN n key val).leaf = true := by
  unfold putN
  rw [if_pos h]
  split <;> rfl

theorem put_place {n : Node} {key val : List UInt8} (h : putOk n key val = true) : place (putN n key val) key = place n key := by
  unfold putN
  rw [if_pos h]
  split
  · exact set_place (ok_parts h).2.1 _ _ _
  · exact add_place h

/-- what was put is found -/
theorem put_found {n : Node} {key val : List UInt8} (h : putOk n key val = true) : outFound (putN n key val) key = true ∧ place n key < (putN n key val).keys.length ∧ (putN n key val).vals.length = (putN n key val).keys.length ∧ (putN n key val).keys.getD (place n key) [] = key ∧ (putN n key val).vals.getD (place n key) [] = val := by
  obtain ⟨hr, hl, hk, hv⟩ := ok_parts h
  obtain ⟨h1, h2, h3, h4⟩ := (right_leaf hl).1 hr
  obtain ⟨p1, -, -⟩ := leaf_place hl key
  have hR := put_right h
  have hL := put_leaf h
  have hP := put_place h
  have hv' := ((right_leaf hL).1 hR).2.1
  have k1 : place n key < (putN n key val).keys.length ∧ (putN n key val).keys.getD (place n key) [] = key ∧ (putN n key val).vals.getD (place n key) [] = val := by
    unfold putN
    rw [if_pos h]
    cases hf : outFound n key with
    | true =>
      obtain ⟨-, -, f3, f4, f5⟩ := found_facts hf
      rw [if_pos rfl]
      refine ⟨f3, f5, ?_⟩
      show (n.vals.take (place n key) ++ val :: n.vals.drop (place n key + 1)).getD (place n key) [] = val
      have hlen : (n.vals.take (place n key)).length = place n key := by simp; omega
      rw [List.getD_eq_getElem?_getD, List.getElem?_append_right (by omega), hlen, Nat.sub_self]
      rfl
    | false =>
      simp only [Bool.false_eq_true, if_false]
      have hlen : (n.vals.take (place n key)).length = place n key := by simp; omega
      have hlen' : (n.keys.take (place n key)).length = place n key := by simp; omega
      refine ⟨by simp [addN]; omega, ?_, ?_⟩
      · show (n.keys.take (place n key) ++ key :: n.keys.drop (place n key)).getD (place n key) [] = key
        rw [List.getD_eq_getElem?_getD, List.getElem?_append_right (by omega), hlen', Nat.sub_self]
        rfl
      · show (n.vals.take (place n key) ++ val :: n.vals.drop (place n key)).getD (place n key) [] = val
        rw [List.getD_eq_getElem?_getD, List.getElem?_append_right (by omega), hlen, Nat.sub_self]
        rfl
  obtain ⟨k1, k2, k3⟩ := k1
  refine ⟨?_, k1, hv', k2, k3⟩
  simp only [outFound, found, hR, hL, hP, k2, Bool.true_and, Bool.and_eq_true, decide_eq_true_eq]
  exact ⟨k1, trivial⟩

/-- a key that is there is found where it is -/
theorem found_at {n : Node} (hl : n.leaf = true) (hr : right n = true) {i : Nat} (hi : i < n.keys.length) {key : List UInt8} (hk : n.keys.getD i [] = key) : place n key = i ∧ outFound n key = true := by
  have h1 := ((right_leaf hl).1 hr).1
  have hp : place n key = i := by
    refine place_at hi (fun j hj => ?_) ?_
    · have := rising ((keysOk_iff _).2 h1) hj hi
      rw [hk] at this
      rw [hl]
      simp only [stop, this, Bool.true_or, Bool.not_true]
    · rw [hl, hk]
      simp [stop, less_irrefl]
  refine ⟨hp, ?_⟩
  simp only [outFound, found, hr, hl, hp, hk, Bool.true_and, Bool.and_eq_true, decide_eq_true_eq]
  exact ⟨hi, trivial⟩

/-- a key that was dropped is not found -/
theorem cut_gone {n : Node} {key : List UInt8} (hf : outFound n key = true) : outFound (cutN n (place n key)) key = false := by
  obtain ⟨hr, hl, f3, f4, f5⟩ := found_facts hf
  have h1 := ((right_leaf hl).1 hr).1
  have hp := cut_place hl hr f3 f5
  have hR := cut_right hl hr f3
  have hlen : (cutN n (place n key)).keys.length = n.keys.length - 1 := by simp [cutN]; omega
  cases hg : outFound (cutN n (place n key)) key with
  | false => rfl
  | true =>
    exfalso
    obtain ⟨-, -, g3, -, g5⟩ := found_facts hg
    rw [hp] at g3 g5
    have g6 : (n.keys.take (place n key) ++ n.keys.drop (place n key + 1)).getD (place n key) [] = key := g5
    rw [cut_get, if_neg (by omega)] at g6
    have := rising ((keysOk_iff _).2 h1) (show place n key < place n key + 1 by omega) (show place n key + 1 < n.keys.length by omega)
    rw [f5, g6, less_irrefl] at this
    cases this

theorem put_len {n : Node} {key val : List UInt8} (h : putOk n key val = true) : (dropN (putN n key val) key).keys.length = (if outFound n key then dropN n key else n).keys.length := by
  obtain ⟨hr, hl, hk, hv⟩ := ok_parts h
  obtain ⟨p1, -, -⟩ := leaf_place hl key
  obtain ⟨m1, m2, m3, m4, m5⟩ := put_found (key := key) (val := val) h
  have e1 : (dropN (putN n key val) key).keys.length = (putN n key val).keys.length - 1 := by
    unfold dropN
    rw [if_pos m1, put_place h]
    simp [cutN]; omega
  rw [e1]
  unfold putN
  rw [if_pos h]
  cases hf : outFound n key with
  | true =>
    obtain ⟨-, -, f3, f4, f5⟩ := found_facts hf
    simp only [if_true, dropN, hf]
    simp [setN, cutN]; omega
  | false =>
    simp only [Bool.false_eq_true, if_false]
    simp [addN]; omega

theorem ins_get {α : Type} {l : List α} {i j : Nat} {x d : α} (hi : i ≤ l.length) : (l.take i ++ x :: l.drop i).getD j d = if j < i then l.getD j d else if j = i then x else l.getD (j - 1) d := by
  have hlen : (l.take i).length = i := by simp; omega
  rw [List.getD_eq_getElem?_getD]
  split
  · rename_i h
    rw [List.getElem?_append_left (by omega), List.getElem?_take_of_lt h, ← List.getD_eq_getElem?_getD]
  · rw [List.getElem?_append_right (by omega), hlen]
    split
    · rename_i h; rw [h, Nat.sub_self]; rfl
    · rename_i h1 h2
      obtain ⟨k, hk⟩ : ∃ k, j - i = k + 1 := ⟨j - i - 1, by omega⟩
      rw [hk, List.getElem?_cons_succ, List.getElem?_drop, ← List.getD_eq_getElem?_getD]
      congr 1; omega

theorem set_get {α : Type} {l : List α} {i j : Nat} {x d : α} (hi : i ≤ l.length) : (l.take i ++ x :: l.drop (i + 1)).getD j d = if j = i then x else l.getD j d := by
  have hlen : (l.take i).length = i := by simp; omega
  rw [List.getD_eq_getElem?_getD]
  by_cases h : j < i
  · rw [List.getElem?_append_left (by omega), List.getElem?_take_of_lt h, ← List.getD_eq_getElem?_getD, if_neg (by omega)]
  · rw [List.getElem?_append_right (by omega), hlen]
    split
    · rename_i h; rw [h, Nat.sub_self]; rfl
    · obtain ⟨k, hk⟩ : ∃ k, j - i = k + 1 := ⟨j - i - 1, by omega⟩
      rw [hk, List.getElem?_cons_succ, List.getElem?_drop, ← List.getD_eq_getElem?_getD]
      congr 1; omega

theorem put_other {n : Node} {key val other : List UInt8} (h : putOk n key val = true) (hne : key ≠ other) :
    outFound (putN n key val) other = outFound n other ∧ (outFound n other = true → (putN n key val).vals.getD (place (putN n key val) other) [] = n.vals.getD (place n other) []) := by
  obtain ⟨hr, hl, hk, hv⟩ := ok_parts h
  obtain ⟨h1, h2, h3, h4⟩ := (right_leaf hl).1 hr
  obtain ⟨p1, -, -⟩ := leaf_place hl key
  have hR := put_right h
  have hL := put_leaf h
  cases hf : outFound n key with
  | true =>
    obtain ⟨-, -, f3, f4, f5⟩ := found_facts hf
    have e : putN n key val = setN n (place n key) val := by unfold putN; rw [if_pos h, if_pos hf]
    rw [e] at hR hL ⊢
    have hp := set_place hl (place n key) other val
    refine ⟨?_, fun ho => ?_⟩
    · simp only [outFound, found, hR, hr, hL, hl, hp]
      rfl
    · obtain ⟨-, -, g3, g4, g5⟩ := found_facts ho
      rw [hp]
      show (n.vals.take _ ++ val :: n.vals.drop _).getD _ [] = _
      rw [set_get (by omega), if_neg]
      intro e2
      rw [e2] at g5
      exact hne (f5.symm.trans g5)
  | false =>
    have e : putN n key val = addN n (place n key) key val := by unfold putN; rw [if_pos h, if_neg (by rw [hf]; exact Bool.false_ne_true)]
    rw [e] at hR hL ⊢
    have hlen : (addN n (place n key) key val).keys.length = n.keys.length + 1 := by simp [addN]; omega
    have fwd : outFound n other = true → place (addN n (place n key) key val) other = (if place n other < place n key then place n other else place n other + 1) ∧ outFound (addN n (place n key) key val) other = true := by
      intro ho
      obtain ⟨-, -, g3, g4, g5⟩ := found_facts ho
      refine found_at hL hR (by split <;> omega) ?_
      show (n.keys.take _ ++ key :: n.keys.drop _).getD _ [] = other
      rw [ins_get p1]
      by_cases hc : place n other < place n key
      · rw [if_pos hc, if_pos hc]; exact g5
      · rw [if_neg hc, if_neg (by omega), if_neg (by omega)]; exact g5
    refine ⟨?_, fun ho => ?_⟩
    · cases ho : outFound n other with
      | true => exact (fwd ho).2
      | false =>
        cases hg : outFound (addN n (place n key) key val) other with
        | false => rfl
        | true =>
          exfalso
          obtain ⟨-, -, g3, g4, g5⟩ := found_facts hg
          have g6 : (n.keys.take (place n key) ++ key :: n.keys.drop (place n key)).getD (place (addN n (place n key) key val) other) [] = other := g5
          rw [ins_get p1] at g6
          split at g6
          · have := (found_at hl hr (by omega) g6).2
            rw [ho] at this; cases this
          · split at g6
            · exact hne g6
            · have := (found_at hl hr (by omega) g6).2
              rw [ho] at this; cases this
    · obtain ⟨-, -, g3, g4, g5⟩ := found_facts ho
      rw [(fwd ho).1]
      show (n.vals.take _ ++ val :: n.vals.drop _).getD _ [] = _
      rw [ins_get (by omega)]
      by_cases hc : place n other < place n key
      · rw [if_pos hc, if_pos hc]
      · rw [if_neg hc, if_neg (by omega), if_neg (by omega)]; rfl

/-- what was put and dropped again is found no more -/
theorem put_gone {n : Node} {key val : List UInt8} (h : putOk n key val = true) : outFound (dropN (putN n key val) key) key = false := by
  obtain ⟨m1, -⟩ := put_found (key := key) (val := val) h
  unfold dropN
  rw [if_pos m1]
  exact cut_gone m1
end Go.Proofs.Ytgainpikomhepaa.Page
