/- Chapter 16: plain law: spans that stand apart, what they cover; a span more, a key more. -/
import Derived.Test.YtlefnohibjcekaaReadF
import Derived.Test.YtlefnohibjcekaaReadG
set_option linter.unusedSimpArgs false
set_option linter.unusedVariables false
set_option maxRecDepth 10000
namespace Go.Proofs.Ytlefnohibjcekaa.Reads
open Go Go.Av Go.Proofs Go.Proofs.Ytlefnohibjcekaa.C Go.Proofs.Ytlefnohibjcekaa.Batch

theorem le_lt {a b c : Bs} (h1 : Op.bytesLess b a = false) (h2 : Op.bytesLess b c = true) : Op.bytesLess a c = true := by
  rcases less_total a b with h | h | h
  · exact less_trans h h2
  · rw [h]; exact h2
  · rw [h1] at h; cases h
theorem lt_le {a b c : Bs} (h1 : Op.bytesLess a b = true) (h2 : Op.bytesLess c b = false) : Op.bytesLess a c = true := by
  rcases less_total b c with h | h | h
  · exact less_trans h1 h
  · rw [← h]; exact h1
  · rw [h2] at h; cases h
theorem le_trans' {a b c : Bs} (h1 : Op.bytesLess b a = false) (h2 : Op.bytesLess c b = false) : Op.bytesLess c a = false := by
  cases h : Op.bytesLess c a with
  | false => rfl
  | true => rw [lt_le h h1] at h2; cases h2

/-- spans that stand apart -/
def NF (l : List Sp) : Prop := (∀ s ∈ l, hasB s = true) ∧ l.Pairwise fun a b => apartB a b = true

theorem apart_iff {a b : Sp} : apartB a b = true ↔ a.t ≠ [] ∧ Op.bytesLess a.t b.f = true := by simp [apartB]
theorem has_iff {a : Sp} : hasB a = true ↔ a.t = [] ∨ Op.bytesLess a.f a.t = true := by simp [hasB]
theorem win_iff {a : Sp} {k : Bs} : winB a k = true ↔ Op.bytesLess k a.f = false ∧ (a.t = [] ∨ Op.bytesLess k a.t = true) := by simp [winB]
theorem apart_trans {a b c : Sp} (h1 : apartB a b = true) (h2 : hasB b = true) (h3 : apartB b c = true) : apartB a c = true := by
  rw [apart_iff] at *
  rw [has_iff] at h2
  refine ⟨h1.1, ?_⟩
  rcases h2 with h2 | h2
  · exact absurd h2 h3.1
  · exact less_trans (less_trans h1.2 h2) h3.2

theorem nf_of {l : List Sp} (h : spsOk l = true) : NF l := by
  have h1 : ∀ i, i < l.length → hasB (l.getD i default) = true ∧ (i = 0 ∨ apartB (l.getD (i - 1) default) (l.getD i default) = true) := by
    intro i hi
    have := List.all_eq_true.1 h i (List.mem_range.2 hi)
    simpa [spOk] using this
  refine ⟨fun s hs => ?_, ?_⟩
  · obtain ⟨i, hi, rfl⟩ := List.mem_iff_getElem.1 hs
    have := (h1 i hi).1
    rwa [getD_el hi] at this
  · rw [List.pairwise_iff_getElem]
    intro i j hi hj hij
    induction j with
    | zero => omega
    | succ j ih =>
      have h2 := (h1 (j + 1) hj).2
      rw [Nat.add_sub_cancel] at h2
      have h3 : apartB (l[j]'(by omega)) l[j + 1] = true := by
        rcases h2 with h2 | h2
        · omega
        · rwa [getD_el hj, getD_el (by omega)] at h2
      by_cases e : i = j
      · subst e; exact h3
      · have h4 := (h1 j (by omega)).1
        rw [getD_el (by omega)] at h4
        exact apart_trans (ih (by omega) (by omega)) h4 h3

theorem nf_ok {l : List Sp} (h : NF l) : spsOk l = true := by
  refine all_yes fun i hi => ?_
  simp only [spOk, Bool.and_eq_true, Bool.or_eq_true, decide_eq_true_eq]
  refine ⟨by rw [getD_el hi]; exact h.1 _ (List.getElem_mem hi), ?_⟩
  by_cases h0 : i = 0
  · exact .inl h0
  · right
    rw [getD_el hi, getD_el (by omega)]
    exact List.pairwise_iff_getElem.1 h.2 _ _ _ _ (by omega)

theorem win_join {x y : Sp} (hx : hasB x = true) (hy : hasB y = true) (h1 : apartB x y = false) (h2 : apartB y x = false) (q : Bs) : winB (joinB x y) q = (winB x q || winB y q) := by
  have a1 : x.t = [] ∨ Op.bytesLess x.t y.f = false := by
    have := h1; simp only [apartB, Bool.and_eq_false_iff, Bool.not_eq_false', decide_eq_true_eq] at this; exact this
  have a2 : y.t = [] ∨ Op.bytesLess y.t x.f = false := by
    have := h2; simp only [apartB, Bool.and_eq_false_iff, Bool.not_eq_false', decide_eq_true_eq] at this; exact this
  rw [has_iff] at hx hy
  refine Bool.eq_iff_iff.2 ?_
  rw [Bool.or_eq_true, win_iff, win_iff, win_iff]
  obtain ⟨xf, xt⟩ := x
  obtain ⟨yf, yt⟩ := y
  simp only [joinB] at *
  clear h1 h2
  by_cases c1 : xt = [] <;> by_cases c2 : yt = []
  all_goals
    grind [less_trans, less_irrefl, less_total]

theorem join_has {x y : Sp} (hx : hasB x = true) (hy : hasB y = true) : hasB (joinB x y) = true := by
  rw [has_iff] at *
  obtain ⟨xf, xt⟩ := x
  obtain ⟨yf, yt⟩ := y
  simp only [joinB] at *
  by_cases c1 : xt = [] <;> by_cases c2 : yt = []
  all_goals
    grind [less_trans, less_irrefl, less_total]

theorem join_apart {o x y : Sp} (h1 : apartB o x = true) (h2 : apartB o y = true) : apartB o (joinB x y) = true := by
  rw [apart_iff] at *
  refine ⟨h1.1, ?_⟩
  simp only [joinB]
  split
  · exact h1.2
  · exact h2.2

theorem nf_snoc {l : List Sp} {x : Sp} (h : NF l) (hx : hasB x = true) (ha : ∀ o ∈ l, apartB o x = true) : NF (l ++ [x]) := by
  refine ⟨fun s hs => ?_, ?_⟩
  · rcases List.mem_append.1 hs with hs | hs
    · exact h.1 s hs
    · rw [List.mem_singleton.1 hs]; exact hx
  · rw [List.pairwise_append]
    exact ⟨h.2, List.pairwise_singleton _ _, fun a ha' b hb => by rw [List.mem_singleton.1 hb]; exact ha a ha'⟩

theorem nf_append {l r : List Sp} (h : NF l) (hr : NF r) (ha : ∀ o ∈ l, ∀ z ∈ r, apartB o z = true) : NF (l ++ r) := by
  refine ⟨fun s hs => ?_, ?_⟩
  · rcases List.mem_append.1 hs with hs | hs
    · exact h.1 s hs
    · exact hr.1 s hs
  · rw [List.pairwise_append]
    exact ⟨h.2, hr.2, fun a ha' b hb => ha a ha' b hb⟩
theorem nf_tail {x : Sp} {l : List Sp} (h : NF (x :: l)) : NF l := ⟨fun s hs => h.1 s (List.mem_cons_of_mem _ hs), (List.pairwise_cons.1 h.2).2⟩

theorem spanned_append (a b : List Sp) (q : Bs) : spanned (a ++ b) q = (spanned a q || spanned b q) := by simp [spanned, List.any_append]
theorem spanned_cons (a : Sp) (b : List Sp) (q : Bs) : spanned (a :: b) q = (winB a q || spanned b q) := by simp [spanned]
theorem spanned_nil (q : Bs) : spanned [] q = false := rfl

theorem go_laid {x : Sp} : ∀ (r : List Sp) (out : List Sp), (∀ z ∈ r, apartB x z = true) → r.foldl stepS ⟨x, true, out⟩ = ⟨x, true, out ++ r⟩
  | [], out, _ => by simp
  | y :: r, out, h => by
    have hy := h y (by simp)
    have e : stepS ⟨x, true, out⟩ y = ⟨x, true, out ++ [y]⟩ := by simp [stepS, hy]
    rw [List.foldl_cons, e, go_laid r _ (fun z hz => h z (by simp [hz]))]
    simp

def closeS (s : SS) : List Sp := if s.laid = true then s.out else s.out ++ [s.x]

theorem go_open : ∀ (r : List Sp) (x : Sp) (out : List Sp), hasB x = true → NF out → (∀ o ∈ out, apartB o x = true) → NF r → (∀ o ∈ out, ∀ z ∈ r, apartB o z = true) →
    NF (closeS (r.foldl stepS ⟨x, false, out⟩)) ∧ (∀ q, spanned (closeS (r.foldl stepS ⟨x, false, out⟩)) q = (spanned out q || winB x q || spanned r q)) ∧ (closeS (r.foldl stepS ⟨x, false, out⟩)).length ≤ out.length + r.length + 1
  | [], x, out, hx, ho, ha, _, _ => by
    refine ⟨nf_snoc ho hx ha, fun q => ?_, ?_⟩
    · show spanned (out ++ [x]) q = _
      rw [spanned_append, spanned_cons, spanned_nil, Bool.or_false, Bool.or_false]
    · show (out ++ [x]).length ≤ _
      simp
  | y :: r, x, out, hx, ho, ha, hr, hz => by
    have hy : hasB y = true := hr.1 y (by simp)
    have hyr : ∀ z ∈ r, apartB y z = true := (List.pairwise_cons.1 hr.2).1
    have hoy : ∀ o ∈ out, apartB o y = true := fun o h => hz o h y (by simp)
    rw [List.foldl_cons]
    cases c1 : apartB y x with
    | true =>
      have e : stepS ⟨x, false, out⟩ y = ⟨x, false, out ++ [y]⟩ := by simp [stepS, c1]
      rw [e]
      obtain ⟨g1, g2, g3⟩ := go_open r x (out ++ [y]) hx (nf_snoc ho hy hoy) (fun o h => by
        rcases List.mem_append.1 h with h | h
        · exact ha o h
        · rw [List.mem_singleton.1 h]; exact c1) (nf_tail hr) (fun o h z hzz => by
        rcases List.mem_append.1 h with h | h
        · exact hz o h z (by simp [hzz])
        · rw [List.mem_singleton.1 h]; exact hyr z hzz)
      refine ⟨g1, fun q => ?_, ?_⟩
      · rw [g2, spanned_append, spanned_cons, spanned_cons, spanned_nil]
        cases spanned out q <;> cases winB x q <;> cases winB y q <;> rfl
      · simp only [List.length_append, List.length_nil, List.length_cons] at g3 ⊢; omega
    | false =>
      cases c2 : apartB x y with
      | false =>
        have e : stepS ⟨x, false, out⟩ y = ⟨joinB x y, false, out⟩ := by simp [stepS, c1, c2]
        rw [e]
        obtain ⟨g1, g2, g3⟩ := go_open r (joinB x y) out (join_has hx hy) ho (fun o h => join_apart (ha o h) (hoy o h)) (nf_tail hr) (fun o h z hzz => hz o h z (by simp [hzz]))
        refine ⟨g1, fun q => ?_, ?_⟩
        · rw [g2, win_join hx hy c2 c1, spanned_cons]
          cases spanned out q <;> cases winB x q <;> cases winB y q <;> rfl
        · simp only [List.length_cons] at g3 ⊢; omega
      | true =>
        have e : stepS ⟨x, false, out⟩ y = ⟨x, true, out ++ [x] ++ [y]⟩ := by simp [stepS, c1, c2]
        rw [e, go_laid r _ (fun z h => apart_trans c2 hy (hyr z h))]
        have e2 : closeS ⟨x, true, out ++ [x] ++ [y] ++ r⟩ = out ++ (x :: y :: r) := by simp [closeS]
        rw [e2]
        refine ⟨nf_append ho ⟨fun s hs => ?_, ?_⟩ fun o h z hzz => ?_, fun q => ?_, ?_⟩
        · rcases List.mem_cons.1 hs with rfl | hs
          · exact hx
          · exact hr.1 s hs
        · rw [List.pairwise_cons]
          refine ⟨fun z h => ?_, hr.2⟩
          rcases List.mem_cons.1 h with rfl | h
          · exact c2
          · exact apart_trans c2 hy (hyr z h)
        · rcases List.mem_cons.1 hzz with rfl | hzz
          · exact ha o h
          · exact hz o h z hzz
        · rw [spanned_append, spanned_cons, Bool.or_assoc]
        · simp only [List.length_append, List.length_cons]; omega

theorem span_nf {l : List Sp} {x : Sp} (h : NF l) (hx : hasB x = true) : NF (spanL l x) ∧ (∀ q, spanned (spanL l x) q = (winB x q || spanned l q)) ∧ (spanL l x).length ≤ l.length + 1 := by
  have := go_open l x [] hx ⟨by simp, List.Pairwise.nil⟩ (by simp) h (by simp)
  simp only [spanned_nil, Bool.false_or, List.length_nil, Nat.zero_add] at this
  exact this

/-- spans that stand apart are told by what they cover -/
theorem nf_first {s : Sp} {l : List Sp} (h : NF (s :: l)) (q : Bs) (hq : spanned (s :: l) q = true) : Op.bytesLess q s.f = false := by
  rw [spanned_cons, Bool.or_eq_true] at hq
  rcases hq with hq | hq
  · exact (win_iff.1 hq).1
  · obtain ⟨z, hz, hw⟩ := List.any_eq_true.1 hq
    have ha := apart_iff.1 ((List.pairwise_cons.1 h.2).1 z hz)
    have hh := has_iff.1 (h.1 s (by simp))
    have hw := (win_iff.1 hw).1
    grind [less_trans, less_irrefl, less_total]

theorem nf_eq : ∀ {l m : List Sp}, NF l → NF m → (∀ q, spanned l q = spanned m q) → l = m
  | [], [], _, _, _ => rfl
  | [], s :: m, _, hm, h => by
    have hh := has_iff.1 (hm.1 s (by simp))
    have : spanned (s :: m) s.f = true := by
      rw [spanned_cons, Bool.or_eq_true]; left; rw [win_iff]; exact ⟨less_irrefl _, hh⟩
    rw [← h] at this; cases this
  | s :: l, [], hl, _, h => by
    have hh := has_iff.1 (hl.1 s (by simp))
    have : spanned (s :: l) s.f = true := by
      rw [spanned_cons, Bool.or_eq_true]; left; rw [win_iff]; exact ⟨less_irrefl _, hh⟩
    rw [h] at this; cases this
  | s :: l, u :: m, hl, hm, h => by
    have hs := has_iff.1 (hl.1 s (by simp))
    have hu := has_iff.1 (hm.1 u (by simp))
    have cs : spanned (s :: l) s.f = true := by
      rw [spanned_cons, Bool.or_eq_true]; left; rw [win_iff]; exact ⟨less_irrefl _, hs⟩
    have cu : spanned (u :: m) u.f = true := by
      rw [spanned_cons, Bool.or_eq_true]; left; rw [win_iff]; exact ⟨less_irrefl _, hu⟩
    have f1 : Op.bytesLess s.f u.f = false := nf_first hm s.f (by rw [← h]; exact cs)
    have f2 : Op.bytesLess u.f s.f = false := nf_first hl u.f (by rw [h]; exact cu)
    have ef : s.f = u.f := by
      rcases less_total s.f u.f with e | e | e
      · rw [f1] at e; cases e
      · exact e
      · rw [f2] at e; cases e
    -- the ends
    have nope : ∀ {a : Sp} {r : List Sp}, NF (a :: r) → a.t ≠ [] → spanned (a :: r) a.t = false := by
      intro a r hn ht
      rw [spanned_cons, Bool.or_eq_false_iff]
      refine ⟨?_, ?_⟩
      · cases hw : winB a a.t with
        | false => rfl
        | true =>
          rcases (win_iff.1 hw).2 with e | e
          · exact absurd e ht
          · rw [less_irrefl] at e; cases e
      · cases hw : spanned r a.t with
        | false => rfl
        | true =>
          obtain ⟨z, hz, hw⟩ := List.any_eq_true.1 hw
          have ha := apart_iff.1 ((List.pairwise_cons.1 hn.2).1 z hz)
          have hw := (win_iff.1 hw).1
          rw [ha.2] at hw; cases hw
    have inn : ∀ {a : Sp} {r : List Sp} {q : Bs}, Op.bytesLess q a.f = false → (a.t = [] ∨ Op.bytesLess q a.t = true) → spanned (a :: r) q = true := by
      intro a r q h1 h2
      rw [spanned_cons, Bool.or_eq_true]; left; rw [win_iff]; exact ⟨h1, h2⟩
    have et : s.t = u.t := by
      by_cases c1 : s.t = []
      · by_cases c2 : u.t = []
        · rw [c1, c2]
        · have k1 := nope hm c2
          rw [← h, inn (q := u.t) (by have := hu.resolve_left c2; rw [ef]; exact less_asymm this) (.inl c1)] at k1
          cases k1
      · by_cases c2 : u.t = []
        · have k1 := nope hl c1
          rw [h, inn (q := s.t) (by have := hs.resolve_left c1; rw [← ef]; exact less_asymm this) (.inl c2)] at k1
          cases k1
        · have hs' := hs.resolve_left c1
          have hu' := hu.resolve_left c2
          rcases less_total s.t u.t with e | e | e
          · have k1 := nope hl c1
            rw [h, inn (q := s.t) (by rw [← ef]; exact less_asymm hs') (.inr e)] at k1
            cases k1
          · exact e
          · have k1 := nope hm c2
            rw [← h, inn (q := u.t) (by rw [ef]; exact less_asymm hu') (.inr e)] at k1
            cases k1
    have e : s = u := by cases s; cases u; simp only at ef et; rw [ef, et]
    subst e
    have hr : ∀ q, spanned l q = spanned m q := by
      intro q
      have hq := h q
      rw [spanned_cons, spanned_cons] at hq
      have out : ∀ {r : List Sp}, NF (s :: r) → winB s q = true → spanned r q = false := by
        intro r hn hw
        cases hc : spanned r q with
        | false => rfl
        | true =>
          obtain ⟨z, hz, hw2⟩ := List.any_eq_true.1 hc
          have ha := apart_iff.1 ((List.pairwise_cons.1 hn.2).1 z hz)
          have hw2 := (win_iff.1 hw2).1
          have hw := (win_iff.1 hw).2
          rcases hw with e | e
          · exact absurd e ha.1
          · rw [less_trans e ha.2] at hw2; cases hw2
      cases hw : winB s q with
      | false => simpa [hw] using hq
      | true => rw [out hl hw, out hm hw]
    rw [nf_eq (nf_tail hl) (nf_tail hm) hr]
end Go.Proofs.Ytlefnohibjcekaa.Reads
