/- Chapter 16: plain law: keys; what Key and Span cover. -/
import Derived.Test.YtlefnohibjcekaaReadL
import Derived.Test.YtlefnohibjcekaaReadH
set_option linter.unusedSimpArgs false
set_option linter.unusedVariables false
set_option maxRecDepth 10000
namespace Go.Proofs.Ytlefnohibjcekaa.Reads
open Go Go.Av Go.Proofs Go.Proofs.Ytlefnohibjcekaa.C Go.Proofs.Ytlefnohibjcekaa.Batch

def Rise (k : List Bs) : Prop := k.Pairwise fun a b => Op.bytesLess a b = true

theorem ks_of {k : List Bs} {l : List Sp} (h : ksOk k l = true) : Rise k ∧ ∀ x ∈ k, spanned l x = false := by
  refine ⟨?_, fun x hx => ?_⟩
  · unfold Rise
    rw [List.pairwise_iff_getElem]
    intro i j hi hj hij
    have := rising h hij hj
    rwa [getD_el hi, getD_el hj] at this
  · obtain ⟨i, hi, rfl⟩ := List.mem_iff_getElem.1 hx
    have := List.all_eq_true.1 h i (List.mem_range.2 hi)
    simp only [kOk, Bool.and_eq_true, Bool.not_eq_true'] at this
    rw [← getD_el (d := []) hi]; exact this.2

theorem ks_ok {k : List Bs} {l : List Sp} (h : Rise k) (h2 : ∀ x ∈ k, spanned l x = false) : ksOk k l = true := by
  refine all_yes fun i hi => ?_
  simp only [kOk, Bool.and_eq_true, Bool.or_eq_true, decide_eq_true_eq, Bool.not_eq_true']
  refine ⟨?_, by rw [getD_el hi]; exact h2 _ (List.getElem_mem hi)⟩
  by_cases h0 : i = 0
  · exact .inl h0
  · right
    rw [getD_el hi, getD_el (by omega)]
    exact List.pairwise_iff_getElem.1 h _ _ _ _ (by omega)

theorem there_iff {k : List Bs} (h : Rise k) (q : Bs) : there k q = decide (q ∈ k) := by
  have hk := ks_ok (l := []) h (fun _ _ => rfl)
  have hp := place_le k q
  refine Bool.eq_iff_iff.2 ?_
  simp only [there, Bool.and_eq_true, decide_eq_true_eq]
  constructor
  · rintro ⟨h1, h2⟩
    rw [getD_el h1] at h2
    rw [← h2]; exact List.getElem_mem h1
  · intro hm
    obtain ⟨i, hi, e⟩ := List.mem_iff_getElem.1 hm
    have he : k.getD i [] = q := by rw [getD_el hi]; exact e
    have h1 : ¬ i < place k q := by
      intro hlt
      have := place_lt hlt
      rw [he, less_irrefl] at this; cases this
    have h2 : ¬ place k q < i := by
      intro hlt
      have a1 := rising hk hlt hi
      rw [he] at a1
      have a2 := place_ge (key := q) hk (Nat.le_refl _) (Nat.lt_trans hlt hi)
      rw [a1] at a2; cases a2
    have : place k q = i := by omega
    rw [this]
    exact ⟨hi, he⟩

theorem ins_mem {k : List Bs} (h : Rise k) (key q : Bs) : q ∈ insK k key ↔ q ∈ k ∨ q = key := by
  unfold insK
  rw [there_iff h]
  by_cases hm : key ∈ k
  · rw [if_pos (by simpa using hm)]
    constructor
    · exact .inl
    · rintro (h | rfl)
      · exact h
      · exact hm
  · rw [if_neg (by simpa using hm)]
    have e : k = k.take (place k key) ++ k.drop (place k key) := by simp
    constructor
    · intro hq
      rcases List.mem_append.1 hq with hq | hq
      · exact .inl (List.mem_of_mem_take hq)
      · rcases List.mem_cons.1 hq with hq | hq
        · exact .inr hq
        · exact .inl (List.mem_of_mem_drop hq)
    · rintro (hq | rfl)
      · rw [e] at hq
        rcases List.mem_append.1 hq with hq | hq
        · exact List.mem_append.2 (.inl hq)
        · exact List.mem_append.2 (.inr (List.mem_cons_of_mem _ hq))
      · simp

theorem ins_rise {k : List Bs} (h : Rise k) (key : Bs) : Rise (insK k key) := by
  have hk := ks_ok (l := []) h (fun _ _ => rfl)
  unfold insK
  rw [there_iff h]
  by_cases hm : key ∈ k
  · rw [if_pos (by simpa using hm)]; exact h
  · rw [if_neg (by simpa using hm)]
    have a1 : ∀ a ∈ k.take (place k key), Op.bytesLess a key = true := by
      intro a ha
      obtain ⟨i, hi, rfl⟩ := List.mem_iff_getElem.1 ha
      rw [List.length_take] at hi
      have := place_lt (k := k) (key := key) (i := i) (by omega)
      rw [getD_el (by omega)] at this
      rw [List.getElem_take]; exact this
    have a2 : ∀ a ∈ k.drop (place k key), Op.bytesLess key a = true := by
      intro a ha
      have ham := List.mem_of_mem_drop ha
      obtain ⟨i, hi, rfl⟩ := List.mem_iff_getElem.1 ha
      rw [List.length_drop] at hi
      have := place_ge (key := key) hk (i := place k key + i) (by omega) (by omega)
      rw [getD_el (by omega)] at this
      rw [List.getElem_drop] at ham ⊢
      rcases less_total key k[place k key + i] with e | e | e
      · exact e
      · rw [← e] at ham; exact absurd ham hm
      · rw [this] at e; cases e
    unfold Rise
    rw [List.pairwise_append]
    refine ⟨h.sublist (List.take_sublist _ _), ?_, fun a ha b hb => ?_⟩
    · rw [List.pairwise_cons]
      exact ⟨a2, h.sublist (List.drop_sublist _ _)⟩
    · rcases List.mem_cons.1 hb with rfl | hb
      · exact a1 a ha
      · exact less_trans (a1 a ha) (a2 b hb)

theorem made_law {ks : List Bs} {l : List Sp} (hk : Rise ks) (hl : NF l) :
    ((madeB ks l).2.2 = 0 ∨ (madeB ks l).2.2 = 9) ∧ ((madeB ks l).2.2 = 0 → checkB (madeB ks l).1 (madeB ks l).2.1 = true ∧ ∀ q, (there (madeB ks l).1 q || spanned (madeB ks l).2.1 q) = (decide (q ∈ ks) || spanned l q)) := by
  have hr : Rise (ks.filter fun x => !spanned l x) := List.Pairwise.sublist List.filter_sublist hk
  unfold madeB
  split
  · rename_i hc
    simp only [Bool.and_eq_true, decide_eq_true_eq] at hc
    refine ⟨.inl rfl, fun _ => ⟨?_, fun q => ?_⟩⟩
    · simp only [checkB, decide_eq_true hc.1, decide_eq_true hc.2, nf_ok hl, Bool.and_self, Bool.true_and]
      refine ks_ok hr fun x hx => ?_
      have := (List.mem_filter.1 hx).2
      simpa using this
    · simp only
      rw [there_iff hr]
      cases hs : spanned l q with
      | true => simp
      | false => simp [List.mem_filter, hs]
  · exact ⟨.inr rfl, fun h => by cases h⟩

theorem key_law {k : List Bs} {l : List Sp} (h : checkB k l = true) (key : Bs) :
    ((keyB k l key).2.2 = 0 ∨ (keyB k l key).2.2 = 9) ∧ ((keyB k l key).2.2 = 0 → checkB (keyB k l key).1 (keyB k l key).2.1 = true ∧ ∀ q, coversB (keyB k l key).1 (keyB k l key).2.1 q = (coversB k l q || decide (q = key))) := by
  obtain ⟨b1, b2, b3, b4⟩ := check_ok h
  obtain ⟨r1, r2⟩ := ks_of b4
  have e : keyB k l key = madeB (insK k key) l := by simp [keyB, h]
  rw [e]
  obtain ⟨m1, m2⟩ := made_law (ins_rise r1 key) (nf_of b3)
  refine ⟨m1, fun h0 => ?_⟩
  obtain ⟨c1, c2⟩ := m2 h0
  refine ⟨c1, fun q => ?_⟩
  unfold coversB
  rw [c1, h, Bool.true_and, Bool.true_and, c2, there_iff r1]
  have : decide (q ∈ insK k key) = (decide (q ∈ k) || decide (q = key)) := by
    rw [Bool.eq_iff_iff]
    simp only [decide_eq_true_eq, Bool.or_eq_true]
    exact ins_mem r1 key q
  rw [this]
  cases decide (q ∈ k) <;> cases decide (q = key) <;> cases spanned l q <;> rfl

theorem win_no {x : Sp} (h : hasB x = false) (q : Bs) : winB x q = false := by
  cases hw : winB x q with
  | false => rfl
  | true =>
    rw [win_iff] at hw
    have hn : ¬ (x.t = [] ∨ Op.bytesLess x.f x.t = true) := fun e => by rw [has_iff.2 e] at h; cases h
    rcases hw.2 with e | e
    · exact absurd (.inl e) hn
    · exact absurd (.inr (le_lt hw.1 e)) hn

theorem span_law {k : List Bs} {l : List Sp} (h : checkB k l = true) (x : Sp) :
    ((spanB k l x).2.2 = 0 ∨ (spanB k l x).2.2 = 9) ∧ ((spanB k l x).2.2 = 0 → checkB (spanB k l x).1 (spanB k l x).2.1 = true ∧ ∀ q, coversB (spanB k l x).1 (spanB k l x).2.1 q = (coversB k l q || winB x q)) := by
  obtain ⟨b1, b2, b3, b4⟩ := check_ok h
  obtain ⟨r1, r2⟩ := ks_of b4
  have e : spanB k l x = madeB k (if hasB x = true then spanL l x else l) := by simp [spanB, h]
  rw [e]
  have hn : NF (if hasB x = true then spanL l x else l) ∧ ∀ q, spanned (if hasB x = true then spanL l x else l) q = (winB x q || spanned l q) := by
    cases hh : hasB x with
    | true => rw [if_pos rfl]; exact ⟨(span_nf (nf_of b3) hh).1, (span_nf (nf_of b3) hh).2.1⟩
    | false => rw [if_neg (by simp)]; exact ⟨nf_of b3, fun q => by rw [win_no hh, Bool.false_or]⟩
  obtain ⟨m1, m2⟩ := made_law r1 hn.1
  refine ⟨m1, fun h0 => ?_⟩
  obtain ⟨c1, c2⟩ := m2 h0
  refine ⟨c1, fun q => ?_⟩
  unfold coversB
  rw [c1, h, Bool.true_and, Bool.true_and, c2, there_iff r1, hn.2]
  cases decide (q ∈ k) <;> cases winB x q <;> cases spanned l q <;> rfl
end Go.Proofs.Ytlefnohibjcekaa.Reads
