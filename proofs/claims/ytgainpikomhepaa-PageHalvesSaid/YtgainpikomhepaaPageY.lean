/- Chapter 08: rising rows; the law of PageKids in plain data. -/
import Derived.Test.YtgainpikomhepaaPageX
set_option linter.unusedSimpArgs false
set_option linter.unusedVariables false
set_option maxRecDepth 10000
namespace Go.Proofs.Ytgainpikomhepaa.Page
open Go Go.Av Go.Proofs Go.Proofs.Ytgainpikomhepaa.C

theorem getD_at {α : Type} {l : List α} {i : Nat} {d : α} (h : i < l.length) : l.getD i d = l[i] := by
  rw [List.getD_eq_getElem?_getD, List.getElem?_eq_getElem h]; rfl

def Rise (l : List (List UInt8)) : Prop := (∀ s ∈ l, s.length ≤ 128) ∧ l.Pairwise (fun a b => Op.bytesLess a b = true)

theorem keysOk_iff (l : List (List UInt8)) : keysOk l = true ↔ Rise l := by
  constructor
  · intro h
    refine ⟨fun s hs => ?_, List.pairwise_iff_getElem.2 fun i j hi hj hij => ?_⟩
    · obtain ⟨i, hi, rfl⟩ := List.getElem_of_mem hs
      have := keysOk_at h hi
      simp only [keyOk, Bool.and_eq_true, decide_eq_true_eq] at this
      have h1 := this.1
      rwa [getD_at hi] at h1
    · have := rising h hij hj
      rwa [getD_at hi, getD_at hj] at this
  · rintro ⟨h1, h2⟩
    refine keysOk_true fun i hi => ?_
    simp only [keyOk, Bool.and_eq_true, Bool.or_eq_true, decide_eq_true_eq]
    rw [getD_at hi]
    refine ⟨h1 _ (List.getElem_mem hi), ?_⟩
    rcases Nat.eq_zero_or_pos i with h | h
    · exact .inl h
    · right
      rw [getD_at (show i - 1 < l.length by omega)]
      exact List.pairwise_iff_getElem.1 h2 _ _ _ _ (by omega)

theorem Rise.sub {l m : List (List UInt8)} (h : Rise l) (hs : m.Sublist l) : Rise m := ⟨fun s hm => h.1 s (hs.subset hm), h.2.sublist hs⟩

theorem right_inner {n : Node} (hl : n.leaf = false) : right n = true ↔ Rise n.keys ∧ n.vals = [] ∧ n.kids.length = n.keys.length + 1 ∧ ∀ k ∈ n.kids, 0 ≤ k ∧ k < 16384 := by
  have e : ∀ l : List Int, (l.any stray = false) ↔ ∀ k ∈ l, 0 ≤ k ∧ k < 16384 := by
    intro l
    rw [List.any_eq_false]
    constructor
    · intro h k hk
      have := h k hk
      simp only [stray, Bool.or_eq_true, decide_eq_true_eq, not_or] at this
      omega
    · intro h k hk
      have := h k hk
      simp only [stray, Bool.or_eq_true, decide_eq_true_eq, not_or]
      omega
  rw [right, hl, Bool.and_eq_true, keysOk_iff]
  simp only [Bool.false_eq_true, if_false, Bool.and_eq_true, decide_eq_true_eq, Bool.not_eq_true', e, List.length_eq_zero_iff, and_assoc]
theorem right_leaf {n : Node} (hl : n.leaf = true) : right n = true ↔ Rise n.keys ∧ n.vals.length = n.keys.length ∧ n.kids = [] ∧ ∀ v ∈ n.vals, v.length ≤ 200 := by
  have e : ∀ l : List (List UInt8), (l.any long = false) ↔ ∀ k ∈ l, k.length ≤ 200 := by
    intro l
    rw [List.any_eq_false]
    constructor
    · intro h k hk
      have := h k hk
      simp only [long, decide_eq_true_eq] at this
      omega
    · intro h k hk
      have := h k hk
      simp only [long, decide_eq_true_eq]
      omega
  rw [right, hl, Bool.and_eq_true, keysOk_iff]
  simp only [if_true, Bool.and_eq_true, decide_eq_true_eq, Bool.not_eq_true', e, List.length_eq_zero_iff, and_assoc]

theorem sub_part {α : Type} (l : List α) (a b : Nat) : ((l.take b).drop a).Sublist l := (List.drop_sublist _ _).trans (List.take_sublist _ _)

theorem part_right {n : Node} (h : right n = true) (a b : Nat) (hab : a ≤ b) (hb : b ≤ n.keys.length) : right (part n a b) = true := by
  cases hl : n.leaf with
  | true =>
    obtain ⟨h1, h2, h3, h4⟩ := (right_leaf hl).1 h
    refine (right_leaf (n := part n a b) hl).2 ⟨h1.sub (sub_part _ _ _), ?_, ?_, ?_⟩
    · simp [part, hl, h2]
    · simp [part, hl]
    · intro v hv
      simp only [part, hl, if_true] at hv
      exact h4 v ((sub_part _ _ _).subset hv)
  | false =>
    obtain ⟨h1, h2, h3, h4⟩ := (right_inner hl).1 h
    refine (right_inner (n := part n a b) hl).2 ⟨h1.sub (sub_part _ _ _), ?_, ?_, ?_⟩
    · simp [part, hl]
    · simp [part, hl, h3]; omega
    · intro v hv
      simp only [part, hl, if_false, Bool.false_eq_true] at hv
      exact h4 v ((sub_part _ _ _).subset hv)

def ins {α : Type} (l : List α) (i : Nat) (x : α) : List α := l.take i ++ x :: l.drop i
theorem tot_append (a b : List (List UInt8)) : tot (a ++ b) = tot a + tot b := by simp [tot]
theorem tot_cons (x : List UInt8) (b : List (List UInt8)) : tot (x :: b) = x.length + tot b := by simp [tot]
theorem tot_ins (l : List (List UInt8)) (i : Nat) (x : List UInt8) : tot (ins l i x) = tot l + x.length := by
  have : tot l = tot (l.take i) + tot (l.drop i) := by rw [← tot_append, List.take_append_drop]
  rw [ins, tot_append, tot_cons]; omega
theorem ins_length {α : Type} (l : List α) (i : Nat) (x : α) (h : i ≤ l.length) : (ins l i x).length = l.length + 1 := by simp [ins]; omega

theorem rise_ins {l : List (List UInt8)} {key : List UInt8} {i : Nat} (h : Rise l) (hk : key.length ≤ 128) (h1 : ∀ s ∈ l.take i, Op.bytesLess s key = true) (h2 : ∀ s ∈ l.drop i, Op.bytesLess key s = true) : Rise (ins l i key) := by
  refine ⟨fun s hs => ?_, ?_⟩
  · rw [ins, List.mem_append, List.mem_cons] at hs
    rcases hs with hs | rfl | hs
    · exact h.1 s ((List.take_sublist _ _).subset hs)
    · exact hk
    · exact h.1 s ((List.drop_sublist _ _).subset hs)
  · rw [ins, List.pairwise_append]
    refine ⟨h.2.sublist (List.take_sublist _ _), List.pairwise_cons.2 ⟨h2, h.2.sublist (List.drop_sublist _ _)⟩, fun a ha b hb => ?_⟩
    rcases List.mem_cons.1 hb with rfl | hb
    · exact h1 a ha
    · exact less_trans (h1 a ha) (h2 b hb)

theorem above_no {key k : List UInt8} (h : above key k = false) : Op.bytesLess k key = true ∨ k = key := by
  unfold above at h
  cases hx : Op.bytesLess k key
  · rw [hx] at h; right; simpa using h
  · exact .inl rfl
theorem above_yes {key k : List UInt8} (h : above key k = true) : Op.bytesLess key k = true := by
  unfold above at h
  simp only [Bool.not_eq_true', Bool.or_eq_false_iff, decide_eq_false_iff_not] at h
  rcases less_total k key with g | g | g
  · rw [h.1] at g; cases g
  · exact absurd g h.2
  · exact g

theorem mem_take_at {l : List (List UInt8)} {i : Nat} {s : List UInt8} (h : s ∈ l.take i) : ∃ j, j < i ∧ j < l.length ∧ s = l.getD j [] := by
  obtain ⟨j, hj, rfl⟩ := List.getElem_of_mem h
  rw [List.length_take] at hj
  exact ⟨j, by omega, by omega, by rw [getD_at (by omega), List.getElem_take]⟩
theorem mem_drop_at {l : List (List UInt8)} {i : Nat} {s : List UInt8} (h : s ∈ l.drop i) : ∃ j, i ≤ j ∧ j < l.length ∧ s = l.getD j [] := by
  obtain ⟨j, hj, rfl⟩ := List.getElem_of_mem h
  rw [List.length_drop] at hj
  exact ⟨i + j, by omega, by omega, by rw [getD_at (by omega), List.getElem_drop]⟩

def kidsM (n : Node) (i : Nat) (key : List UInt8) (kid : Int) : Node := ⟨false, ins n.keys i key, [], ins n.kids (i + 1) kid⟩

theorem place_inner {n : Node} (hl : n.leaf = false) (key : List UInt8) : place n key = n.keys.findIdx (above key) := by simp only [place, hl, Bool.false_eq_true, if_false]

theorem kids_right {n : Node} (hl : n.leaf = false) (h : right n = true) {key : List UInt8} {kid : Int} (hk : key.length ≤ 128) (h0 : 0 ≤ kid) (h1 : kid < 16384) (hne : ¬ (0 < place n key ∧ n.keys.getD (place n key - 1) [] = key)) : right (kidsM n (place n key) key kid) = true := by
  obtain ⟨r1, r2, r3, r4⟩ := (right_inner hl).1 h
  have hok := (keysOk_iff _).2 r1
  have hpl := place_inner hl key
  have hle := findIdx_le (above key) n.keys
  rw [← hpl] at hle
  refine (right_inner (n := kidsM n (place n key) key kid) rfl).2 ⟨rise_ins r1 hk ?_ ?_, rfl, ?_, ?_⟩
  · intro s hs
    obtain ⟨j, hj, hj2, rfl⟩ := mem_take_at hs
    rcases above_no (before_idx (p := above key) (l := n.keys) (by rw [← hpl]; exact hj)) with g | g
    · exact g
    · exfalso
      by_cases hjp : j = place n key - 1
      · exact hne ⟨by omega, by rw [← hjp]; exact g⟩
      · have hr := rising hok (show j < place n key - 1 by omega) (by omega)
        rw [g] at hr
        rcases above_no (before_idx (p := above key) (l := n.keys) (i := place n key - 1) (by rw [← hpl]; omega)) with g2 | g2
        · rw [less_asymm hr] at g2; cases g2
        · rw [g2, less_irrefl] at hr; cases hr
  · intro s hs
    obtain ⟨j, hj, hj2, rfl⟩ := mem_drop_at hs
    exact above_yes (from_idx (above_mono hok key) (by rw [← hpl]; exact hj) hj2)
  · rw [kidsM, ins_length _ _ _ (by omega), ins_length _ _ _ (by omega)]; omega
  · intro k hk
    simp only [kidsM, ins, List.mem_append, List.mem_cons] at hk
    rcases hk with hk | rfl | hk
    · exact r4 k ((List.take_sublist _ _).subset hk)
    · exact ⟨h0, h1⟩
    · exact r4 k ((List.drop_sublist _ _).subset hk)

theorem tot_split (l : List (List UInt8)) (k : Nat) : tot l = tot (l.take k) + tot (l.drop k) := by rw [← tot_append, List.take_append_drop]

/-- the two halves of an inner node that is not too large by much -/
theorem halves_inner {m : Node} (hl : m.leaf = false) (hr : right m = true) (hm : 1 ≤ most m) (hs : size m ≤ 1157) : size (part m 0 (cut m)) ≤ 1024 ∧ size (part m (cut m + bet m) m.keys.length) ≤ 1024 := by
  obtain ⟨c1, c2⟩ := cut_le hm
  have hbt : bet m = 1 := by simp [bet, hl]
  obtain ⟨r1, -, -, -⟩ := (right_inner hl).1 hr
  have hmost : most m + 2 = m.keys.length := by unfold most at hm ⊢; omega
  have k128 : ∀ j, j < m.keys.length → (m.keys.getD j []).length ≤ 128 := fun j hj => by rw [getD_at hj]; exact r1.1 _ (List.getElem_mem hj)
  have hsz : size m = 7 + 5 * m.keys.length + tot m.keys := by simp [size, hl]
  constructor
  · rw [part0_size m _ (by omega), hl]
    simp only [Bool.false_eq_true, if_false]
    have h1 := tot_snoc m.keys (cut m - 1) (by omega)
    have h2 := k128 (cut m - 1) (by omega)
    rw [show cut m - 1 + 1 = cut m by omega] at h1
    by_cases hc : cut m = 1
    · rw [hc] at h1 h2 ⊢
      simp [tot] at h1 h2 ⊢
      omega
    · have hf := cut_before (n := m) (i := cut m - 2) (by omega)
      unfold fits at hf
      have hf := of_decide_eq_false hf
      rw [show 1 + (cut m - 2) = cut m - 1 by omega, part0_size m _ (by omega), hl] at hf
      simp only [Bool.false_eq_true, if_false] at hf
      omega
  · have hb : size (part m (cut m + 1) m.keys.length) = 7 + 5 * (m.keys.length - (cut m + 1)) + tot (m.keys.drop (cut m + 1)) := by
      simp [size, part, hl]
    rw [hbt, hb]
    have h1 := tot_split m.keys (cut m + 1)
    have h2 := tot_snoc m.keys (cut m) (by omega)
    by_cases hc : cut m < most m
    · have hf := cut_at hc
      unfold fits at hf
      have hf := of_decide_eq_true hf
      rw [show 1 + (cut m - 1) = cut m by omega, part0_size m _ (by omega), hl] at hf
      simp only [Bool.false_eq_true, if_false] at hf
      omega
    · have hd : m.keys.drop (cut m + 1) = [m.keys.getD (cut m + 1) []] := by
        rw [List.drop_eq_getElem_cons (show cut m + 1 < m.keys.length by omega), List.drop_eq_nil_of_le (by omega), getD_at (by omega)]
      have := k128 (cut m + 1) (by omega)
      rw [hd, tot_cons]
      simp only [tot, List.map_nil, List.sum_nil]
      omega

theorem joined_inner {m : Node} (hl : m.leaf = false) (hr : right m = true) (hm : 1 ≤ most m) :
    (part m 0 (cut m)).keys ++ m.keys.getD (cut m) [] :: (part m (cut m + bet m) m.keys.length).keys = m.keys ∧ (part m 0 (cut m)).kids ++ (part m (cut m + bet m) m.keys.length).kids = m.kids ∧ m.vals = [] := by
  obtain ⟨c1, c2⟩ := cut_le hm
  have hbt : bet m = 1 := by simp [bet, hl]
  obtain ⟨-, r2, r3, -⟩ := (right_inner hl).1 hr
  have hmost : most m + 2 = m.keys.length := by unfold most at hm ⊢; omega
  refine ⟨?_, ?_, r2⟩
  · simp only [part, hbt, List.drop_zero]
    rw [List.take_length, getD_at (show cut m < m.keys.length by omega), ← List.drop_eq_getElem_cons, List.take_append_drop]
  · simp only [part, hbt, hl, List.drop_zero, Bool.false_eq_true, if_false]
    rw [← r3, List.take_length, List.take_append_drop]
end Go.Proofs.Ytgainpikomhepaa.Page
