/- Chapter 16: ReadsOrder: the law and the walk. -/
import Derived.Test.YtlefnohibjcekaaReadM
import Derived.Test.YtlefnohibjcekaaReadRow
set_option linter.unusedSimpArgs false
set_option linter.unusedVariables false
set_option maxRecDepth 10000
namespace Go.Proofs.Ytlefnohibjcekaa.Reads
open Go Go.Av Go.Proofs Go.Proofs.Ytlefnohibjcekaa.C Go.Proofs.Ytlefnohibjcekaa.Batch

theorem rise_eq : ∀ {k m : List Bs}, Rise k → Rise m → (∀ q, q ∈ k ↔ q ∈ m) → k = m
  | [], [], _, _, _ => rfl
  | [], b :: m, _, _, h => by have := (h b).2 (by simp); cases this
  | a :: k, [], _, _, h => by have := (h a).1 (by simp); cases this
  | a :: k, b :: m, hk, hm, h => by
    have hk' := List.pairwise_cons.1 hk
    have hm' := List.pairwise_cons.1 hm
    have e : a = b := by
      have h1 := (h a).1 (by simp)
      have h2 := (h b).2 (by simp)
      rcases List.mem_cons.1 h1 with h1 | h1
      · exact h1
      · rcases List.mem_cons.1 h2 with h2 | h2
        · exact h2.symm
        · have x1 := hm'.1 a h1
          have x2 := hk'.1 b h2
          rw [less_asymm x1] at x2; cases x2
    subst e
    have hr : ∀ q, q ∈ k ↔ q ∈ m := by
      intro q
      constructor
      · intro hq
        rcases List.mem_cons.1 ((h q).1 (List.mem_cons_of_mem _ hq)) with e | e
        · subst e; have := hk'.1 q hq; rw [less_irrefl] at this; cases this
        · exact e
      · intro hq
        rcases List.mem_cons.1 ((h q).2 (List.mem_cons_of_mem _ hq)) with e | e
        · subst e; have := hm'.1 q hq; rw [less_irrefl] at this; cases this
        · exact e
    rw [rise_eq hk'.2 hm'.2 hr]

/-- right reads, of so many keys and spans -/
structure Right (k : List Bs) (l : List Sp) (n : Nat) : Prop where
  nf : NF l
  rise : Rise k
  un : ∀ x ∈ k, spanned l x = false
  kn : k.length ≤ n
  ln : l.length ≤ n

theorem Right.check {k : List Bs} {l : List Sp} {n : Nat} (h : Right k l n) (hn : n ≤ 64) : checkB k l = true := by
  have h1 := h.kn
  have h2 := h.ln
  simp only [checkB, nf_ok h.nf, ks_ok h.rise h.un, Bool.and_true, Bool.and_eq_true, decide_eq_true_eq]
  omega
theorem right_of {k : List Bs} {l : List Sp} {n : Nat} (h : checkB k l = true) (h1 : k.length ≤ n) (h2 : l.length ≤ n) : Right k l n := by
  obtain ⟨b1, b2, b3, b4⟩ := check_ok h
  exact ⟨nf_of b3, (ks_of b4).1, (ks_of b4).2, h1, h2⟩

theorem span_right {k : List Bs} {l : List Sp} {n : Nat} (h : Right k l n) (hn : n + 1 ≤ 64) (x : Sp) :
    ∃ k' l', spanB k l x = (k', l', 0) ∧ Right k' l' (n + 1) ∧ (∀ q, spanned l' q = (winB x q || spanned l q)) ∧ k' = k.filter fun q => !spanned l' q := by
  have h1 := h.kn
  have h2 := h.ln
  have hc := h.check (by omega)
  have hl : NF (if hasB x = true then spanL l x else l) ∧ (∀ q, spanned (if hasB x = true then spanL l x else l) q = (winB x q || spanned l q)) ∧ (if hasB x = true then spanL l x else l).length ≤ l.length + 1 := by
    cases hh : hasB x with
    | true => rw [if_pos rfl]; exact span_nf h.nf hh
    | false => rw [if_neg (by simp)]; exact ⟨h.nf, fun q => by rw [win_no hh, Bool.false_or], by omega⟩
  refine ⟨k.filter fun q => !spanned (if hasB x = true then spanL l x else l) q, if hasB x = true then spanL l x else l, ?_, ?_, hl.2.1, rfl⟩
  · have e : spanB k l x = madeB k (if hasB x = true then spanL l x else l) := by simp [spanB, hc]
    have f1 : (k.filter fun q => !spanned (if hasB x = true then spanL l x else l) q).length ≤ k.length := List.length_filter_le _ _
    rw [e, madeB, decide_eq_true (show _ ≤ 64 by omega), decide_eq_true (show _ ≤ 64 by omega)]
    rfl
  · have f1 : (k.filter fun q => !spanned (if hasB x = true then spanL l x else l) q).length ≤ k.length := List.length_filter_le _ _
    refine ⟨hl.1, List.Pairwise.sublist List.filter_sublist h.rise, fun q hq => ?_, by omega, by omega⟩
    have := (List.mem_filter.1 hq).2
    simpa using this

theorem key_right {k : List Bs} {l : List Sp} {n : Nat} (h : Right k l n) (hn : n + 1 ≤ 64) (x : Bs) :
    ∃ k', keyB k l x = (k', l, 0) ∧ Right k' l (n + 1) ∧ ∀ q, q ∈ k' ↔ (q ∈ k ∨ q = x) ∧ spanned l q = false := by
  have h1 := h.kn
  have h2 := h.ln
  have hc := h.check (by omega)
  have e : keyB k l x = madeB (insK k x) l := by simp [keyB, hc]
  have hi : (insK k x).length ≤ k.length + 1 := by
    unfold insK
    split
    · omega
    · have := place_le k x
      simp only [List.length_append, List.length_cons, List.length_take, List.length_drop]; omega
  have f1 : ((insK k x).filter fun q => !spanned l q).length ≤ (insK k x).length := List.length_filter_le _ _
  have hm : ∀ q, q ∈ (insK k x).filter (fun q => !spanned l q) ↔ (q ∈ k ∨ q = x) ∧ spanned l q = false := by
    intro q
    rw [List.mem_filter, ins_mem h.rise]
    simp
  refine ⟨(insK k x).filter fun q => !spanned l q, ?_, ⟨h.nf, List.Pairwise.sublist List.filter_sublist (ins_rise h.rise x), fun q hq => ((hm q).1 hq).2, by omega, by omega⟩, hm⟩
  rw [e, madeB, decide_eq_true (show _ ≤ 64 by omega), decide_eq_true (show _ ≤ 64 by omega)]
  rfl

/-- spans in another order -/
theorem spans_law {k : List Bs} {l : List Sp} (h : Right k l 40) (a b : Sp) :
    ∃ k1 l1 k2 l2 k3 l3, spanB k l a = (k1, l1, 0) ∧ spanB k1 l1 b = (k2, l2, 0) ∧ spanB k l b = (k3, l3, 0) ∧ spanB k3 l3 a = (k2, l2, 0) ∧ spanB k2 l2 a = (k2, l2, 0) ∧ Right k2 l2 42 := by
  obtain ⟨k1, l1, e1, r1, s1, f1⟩ := span_right h (by omega) a
  obtain ⟨k2, l2, e2, r2, s2, f2⟩ := span_right r1 (by omega) b
  obtain ⟨k3, l3, e3, r3, s3, f3⟩ := span_right h (by omega) b
  obtain ⟨k4, l4, e4, r4, s4, f4⟩ := span_right r3 (by omega) a
  obtain ⟨k5, l5, e5, r5, s5, f5⟩ := span_right r2 (by omega) a
  have el : l4 = l2 := nf_eq r4.nf r2.nf fun q => by
    rw [s4, s3, s2, s1]
    cases winB a q <;> cases winB b q <;> cases spanned l q <;> rfl
  have el5 : l5 = l2 := nf_eq r5.nf r2.nf fun q => by
    rw [s5, s2, s1]
    cases winB a q <;> cases winB b q <;> cases spanned l q <;> rfl
  have two : ∀ {m m' : List Sp} (c : List Bs), (∀ q, spanned m q = true → spanned m' q = true) → (c.filter fun q => !spanned m q).filter (fun q => !spanned m' q) = c.filter fun q => !spanned m' q := by
    intro m m' c hs
    rw [List.filter_filter]
    refine List.filter_congr fun q _ => ?_
    have := hs q
    cases h1 : spanned m q <;> cases h2 : spanned m' q <;> simp_all
  have g2 : k2 = k.filter fun q => !spanned l2 q := by
    rw [f2, f1]
    exact two k fun q hq => by rw [s2, hq, Bool.or_true]
  have g4 : k4 = k.filter fun q => !spanned l4 q := by
    rw [f4, f3]
    exact two k fun q hq => by rw [s4, hq, Bool.or_true]
  have g5 : k5 = k2 := by
    rw [f5, el5, g2]
    exact two k fun q hq => hq
  have ek : k4 = k2 := by rw [g4, g2, el]
  subst el ek
  subst el5 g5
  exact ⟨k1, l1, _, _, k3, l3, e1, e2, e3, e4, e5, r2⟩

theorem keys_law {k : List Bs} {l : List Sp} (h : Right k l 40) (a b : Bs) :
    ∃ k1 k2 k3, keyB k l a = (k1, l, 0) ∧ keyB k1 l b = (k2, l, 0) ∧ keyB k l b = (k3, l, 0) ∧ keyB k3 l a = (k2, l, 0) ∧ keyB k2 l a = (k2, l, 0) ∧ Right k2 l 42 := by
  obtain ⟨k1, e1, r1, s1⟩ := key_right h (by omega) a
  obtain ⟨k2, e2, r2, s2⟩ := key_right r1 (by omega) b
  obtain ⟨k3, e3, r3, s3⟩ := key_right h (by omega) b
  obtain ⟨k4, e4, r4, s4⟩ := key_right r3 (by omega) a
  obtain ⟨k5, e5, r5, s5⟩ := key_right r2 (by omega) a
  have e : k4 = k2 := rise_eq r4.rise r2.rise fun q => by
    rw [s4, s3, s2, s1]
    constructor <;> rintro ⟨(⟨h1 | h1, h2⟩ | h1), h3⟩ <;> simp_all
  have e' : k5 = k2 := rise_eq r5.rise r2.rise fun q => by
    rw [s5, s2, s1]
    constructor
    · rintro ⟨(⟨(⟨h1 | h1, h2⟩ | h1), h3⟩ | h1), h4⟩ <;> simp_all
    · rintro ⟨(⟨h1 | h1, h2⟩ | h1), h3⟩ <;> simp_all
  subst e e'
  exact ⟨k1, _, k3, e1, e2, e3, e4, e5, r2⟩
end Go.Proofs.Ytlefnohibjcekaa.Reads
