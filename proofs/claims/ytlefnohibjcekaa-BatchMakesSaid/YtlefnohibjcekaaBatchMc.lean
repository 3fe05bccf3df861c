/- Chapter 15: the changes by which two rows differ make the one of the other: plain data. -/
import Derived.Test.YtlefnohibjcekaaBatchMb
set_option linter.unusedSimpArgs false
set_option linter.unusedVariables false
set_option maxRecDepth 10000
namespace Go.Proofs.Ytlefnohibjcekaa.Batch
open Go Go.Av Go.Proofs Go.Proofs.Ytlefnohibjcekaa.C

def Lt (a b : Bs) : Prop := Op.bytesLess a b = true
theorem Lt.trans {a b c : Bs} (h1 : Lt a b) (h2 : Lt b c) : Lt a c := less_trans h1 h2
theorem Lt.ne {a b : Bs} (h : Lt a b) : ¬ a = b := fun e => by rw [e, Lt, less_irrefl] at h; cases h
theorem Lt.ne' {a b : Bs} (h : Lt a b) : ¬ b = a := fun e => h.ne e.symm
theorem Lt.not {a b : Bs} (h : Lt a b) : Op.bytesLess b a = false := less_asymm h
theorem tri (a b : Bs) : Lt a b ∨ a = b ∨ Lt b a := less_total a b
theorem not_lt {a b : Bs} (h : Op.bytesLess a b = false) : a = b ∨ Lt b a := by
  rcases tri a b with g | g | g
  · rw [Lt, h] at g; cases g
  · exact .inl g
  · exact .inr g

def RiseP (l : List Pr) : Prop := l.Pairwise fun a b => Lt a.k b.k

theorem rise_rises {l : List Pr} (h : RiseP l) : rises l = true := by
  refine all_true fun i hi => ?_
  simp only [riseAt, Bool.or_eq_true, decide_eq_true_eq]
  rcases Nat.eq_zero_or_pos i with h0 | h0
  · exact .inl h0
  · right
    rw [getDp (show i - 1 < l.length by omega), getDp hi]
    exact List.pairwise_iff_getElem.1 h _ _ _ _ (by omega)

theorem rise_eq {l : List Pr} (h : RiseP l) {a b : Pr} (ha : a ∈ l) (hb : b ∈ l) (e : a.k = b.k) : a = b := by
  obtain ⟨i, hi, rfl⟩ := List.getElem_of_mem ha
  obtain ⟨j, hj, rfl⟩ := List.getElem_of_mem hb
  have g := List.pairwise_iff_getElem.1 h
  rcases Nat.lt_trichotomy i j with hij | hij | hij
  · exact absurd e (g i j hi hj hij).ne
  · subst hij; rfl
  · exact absurd e (g j i hj hi hij).ne'

theorem get_mem {l : List Pr} (h : RiseP l) {q : Pr} (hq : q ∈ l) : getE l q.k = 0 ∧ getV l q.k = q.v := by
  unfold getE getV
  cases hf : l.find? (hasK q.k) with
  | none =>
    have := List.find?_eq_none.1 hf q hq
    simp [hasK] at this
  | some p =>
    have h1 := List.find?_some hf
    have h2 := List.mem_of_find?_eq_some hf
    simp only [hasK, decide_eq_true_eq] at h1
    rw [rise_eq h h2 hq h1]
    exact ⟨rfl, rfl⟩
theorem get_none {l : List Pr} {k : Bs} (h : ∀ q ∈ l, ¬ q.k = k) : getE l k = 7 := by
  unfold getE
  cases hf : l.find? (hasK k) with
  | none => rfl
  | some p =>
    have h1 := List.find?_some hf
    simp only [hasK, decide_eq_true_eq] at h1
    exact absurd h1 (h p (List.mem_of_find?_eq_some hf))

theorem rest_none {q : List Pr} {k : Bs} (h : ∀ x ∈ q, ¬ x.k = k) : rest k q = q := by
  rw [rest, List.filter_eq_self]
  intro x hx; simp [hasK, h x hx]
theorem rest_append (k : Bs) (p q : List Pr) : rest k (p ++ q) = rest k p ++ rest k q := by simp [rest]
theorem putGo_true (k v : Bs) : ∀ l : List Pr, putGo k v true l = rest k l
  | [] => rfl
  | p :: l => by rw [putGo, rest_cons, Bool.true_or, putGo_true k v l]; simp
theorem putGo_split {k v : Bs} {q : List Pr} (hq : q = [] ∨ ∃ x q', q = x :: q' ∧ Op.bytesLess x.k k = false) : ∀ p : List Pr, (∀ x ∈ p, Lt x.k k) → putGo k v false (p ++ q) = p ++ ⟨k, v⟩ :: rest k q
  | [], _ => by
    rcases hq with rfl | ⟨x, q', rfl, hx⟩
    · rfl
    · rw [List.nil_append, putGo, hx, rest_cons, Bool.false_or, Bool.not_false, putGo_true]; simp
  | y :: p, h => by
    have hy := h y (by simp)
    have rec' := putGo_split (v := v) hq p (fun x hx => h x (by simp [hx]))
    rw [List.cons_append, putGo, if_neg hy.ne, show Op.bytesLess y.k k = true from hy, Bool.not_true, Bool.or_self, rec']
    simp

theorem rise_put {k v : Bs} : ∀ {l : List Pr}, RiseP l → RiseP (putGo k v false l)
  | [], _ => by simp [putGo, RiseP]
  | x :: l, h => by
    have hx := List.pairwise_cons.1 h
    cases hb : Op.bytesLess x.k k with
    | true =>
      have hlt : Lt x.k k := hb
      have := putGo_split (k := k) (v := v) (q := []) (.inl rfl)
      have e : putGo k v false (x :: l) = x :: putGo k v false l := by rw [putGo, hb, if_neg hlt.ne]; simp
      rw [e]
      refine List.pairwise_cons.2 ⟨fun y hy => ?_, rise_put hx.2⟩
      rcases putGo_mem k v l false y hy with rfl | hy
      · exact hlt
      · exact hx.1 y hy
    | false =>
      have e := putGo_split (k := k) (v := v) (q := x :: l) (.inr ⟨x, l, rfl, hb⟩) [] (by simp)
      rw [List.nil_append, List.nil_append] at e
      rw [e]
      refine List.pairwise_cons.2 ⟨fun y hy => ?_, h.sublist List.filter_sublist⟩
      obtain ⟨h1, h2⟩ := List.mem_filter.1 hy
      have hne : ¬ y.k = k := by simpa [hasK] using h2
      have hxk := not_lt hb
      rcases List.mem_cons.1 h1 with rfl | h1
      · rcases hxk with hxk | hxk
        · exact absurd hxk hne
        · exact hxk
      · have h3 : Lt x.k y.k := hx.1 y h1
        rcases hxk with hxk | hxk
        · show Lt k y.k; rw [← hxk]; exact h3
        · exact hxk.trans h3
theorem rise_putP {l : List Pr} (h : RiseP l) (k v : Bs) : RiseP (putP l k v) := by
  unfold putP; split
  · exact h
  · exact rise_put h

def OkP (l : List Pr) : Prop := ∀ p ∈ l, shut p.k p.v = false
theorem sorted_facts (l : List Pr) : ∀ o : List Pr, RiseP o → OkP o → RiseP (l.foldl (fun o p => putP o p.k p.v) o) ∧ OkP (l.foldl (fun o p => putP o p.k p.v) o) ∧ (l.foldl (fun o p => putP o p.k p.v) o).length ≤ o.length + l.length := by
  induction l with
  | nil => intro o h1 h2; exact ⟨h1, h2, by simp⟩
  | cons p l ih =>
    intro o h1 h2
    obtain ⟨a, b, c⟩ := ih (putP o p.k p.v) (rise_putP h1 _ _) (fun x hx => by
      rcases putP_mem hx with ⟨rfl, hs⟩ | hx
      · exact hs
      · exact h2 x hx)
    have := put_len' o p.k p.v
    exact ⟨a, b, by simp only [List.foldl_cons, List.length_cons] at c ⊢; omega⟩
theorem sorted_ok (l : List Pr) : RiseP (sortedP l) ∧ OkP (sortedP l) ∧ (sortedP l).length ≤ l.length := by
  have := sorted_facts l [] List.Pairwise.nil (by simp [OkP])
  simpa [sortedP] using this

theorem rise_mid {p q : List Pr} {y : Pr} (h : RiseP (p ++ q)) (h1 : ∀ z ∈ p, Lt z.k y.k) (h2 : ∀ z ∈ q, Lt y.k z.k) : RiseP (p ++ y :: q) := by
  rw [RiseP, List.pairwise_append] at h ⊢
  refine ⟨h.1, List.pairwise_cons.2 ⟨h2, h.2.1⟩, fun a ha b hb => ?_⟩
  rcases List.mem_cons.1 hb with rfl | hb
  · exact h1 a ha
  · exact h.2.2 a ha b hb
theorem rise_parts {p q : List Pr} {x : Pr} (h : RiseP (p ++ x :: q)) : RiseP (p ++ q) ∧ (∀ z ∈ p, Lt z.k x.k) ∧ (∀ z ∈ q, Lt x.k z.k) := by
  have h' := h
  rw [RiseP, List.pairwise_append] at h'
  obtain ⟨a, b, c⟩ := h'
  obtain ⟨b1, b2⟩ := List.pairwise_cons.1 b
  exact ⟨List.pairwise_append.2 ⟨a, b2, fun u hu w hw => c u hu w (by simp [hw])⟩, fun z hz => c z hz x (by simp), b1⟩

theorem drop_mid {p a : List Pr} {x : Pr} (h : RiseP (p ++ x :: a)) : dropP (p ++ x :: a) x.k = p ++ a := by
  obtain ⟨-, h1, h2⟩ := rise_parts h
  have hg := (get_mem h (q := x) (by simp)).1
  rw [dropP, if_pos hg, rest_append, rest_cons, if_pos rfl, rest_none (fun z hz => (h1 z hz).ne), rest_none (fun z hz => (h2 z hz).ne')]
  simp

def putC (q : Pr) : Ch := ⟨q.k, q.v, false⟩
theorem apply_puts : ∀ (b p : List Pr), RiseP (p ++ b) → OkP b → doChs p (b.map putC) = p ++ b
  | [], p, _, _ => by simp [doChs]
  | y :: b, p, h, ok => by
    obtain ⟨-, h1, h2⟩ := rise_parts h
    have hs : shut y.k y.v = false := ok y (by simp)
    have e : doCh p (putC y) = p ++ [y] := by
      rw [doCh, if_neg (by simp [putC]), putP]
      have := putGo_split (k := y.k) (v := y.v) (q := []) (.inl rfl) p h1
      rw [List.append_nil] at this
      simp only [putC, hs, Bool.false_eq_true, if_false, this]
      rfl
    have rec' := apply_puts b (p ++ [y]) (by simpa using h) (fun q hq => ok q (by simp [hq]))
    rw [List.map_cons, doChs, List.foldl_cons, e]
    show doChs (p ++ [y]) (b.map putC) = _
    rw [rec']; simp

theorem eq_keys {x y : Bs} (h1 : ¬ Op.bytesLess x y = true) (h2 : ¬ Op.bytesLess y x = true) : x = y := by
  rcases tri x y with g | g | g
  · exact absurd g h1
  · exact g
  · exact absurd g h2

theorem apply_differ (x y : List Pr) : ∀ p, RiseP (p ++ x) → RiseP (p ++ y) → OkP y → doChs (p ++ x) (differ x y) = p ++ y := by
  induction x, y using differ.induct with
  | case1 b =>
    intro p h1 h2 ok
    rw [differ, List.append_nil]
    exact apply_puts b p h2 ok
  | case2 x a ih =>
    intro p h1 h2 ok
    have := ih p (rise_parts h1).1 h2 ok
    rw [differ, doChs, List.foldl_cons, show doCh (p ++ x :: a) ⟨x.k, [], true⟩ = p ++ a from by rw [doCh, if_pos rfl]; exact drop_mid h1]
    exact this
  | case3 x a y b hlt ih =>
    intro p h1 h2 ok
    have := ih p (rise_parts h1).1 h2 ok
    rw [differ, if_pos hlt, doChs, List.foldl_cons, show doCh (p ++ x :: a) ⟨x.k, [], true⟩ = p ++ a from by rw [doCh, if_pos rfl]; exact drop_mid h1]
    exact this
  | case4 x a y b h hlt ih =>
    intro p h1 h2 ok
    have hs : shut y.k y.v = false := ok y (by simp)
    obtain ⟨h2a, h2b, h2c⟩ := rise_parts h2
    obtain ⟨h1a, h1b, h1c⟩ := rise_parts h1
    have hyx : Lt y.k x.k := hlt
    have hgt : ∀ z ∈ x :: a, Lt y.k z.k := fun z hz => by
      rcases List.mem_cons.1 hz with rfl | hz
      · exact hyx
      · exact hyx.trans (h1c z hz)
    have e : doCh (p ++ x :: a) ⟨y.k, y.v, false⟩ = p ++ y :: (x :: a) := by
      rw [doCh, if_neg (by simp), putP, if_neg (by simp [hs]), putGo_split (.inr ⟨x, a, rfl, hyx.not⟩) p h2b, rest_none (fun z hz => (hgt z hz).ne')]
    have := ih (p ++ [y]) (by have := rise_mid h1 h2b hgt; simpa using this) (by simpa using h2) (fun q hq => ok q (by simp [hq]))
    rw [differ, if_neg h, if_pos hlt, doChs, List.foldl_cons, e, show p ++ y :: (x :: a) = (p ++ [y]) ++ (x :: a) by simp]
    rw [doChs] at this
    rw [this]; simp
  | case5 x a y b h h' hv ih =>
    intro p h1 h2 ok
    have hk := eq_keys h h'
    have hxy : x = y := by cases x; cases y; simp only at hk hv; subst hk hv; rfl
    subst hxy
    have := ih (p ++ [x]) (by simpa using h1) (by simpa using h2) (fun q hq => ok q (by simp [hq]))
    rw [differ, if_neg h, if_neg h', if_pos hv]
    simpa using this
  | case6 x a y b h h' hv ih =>
    intro p h1 h2 ok
    have hk := eq_keys h h'
    have hs : shut y.k y.v = false := ok y (by simp)
    obtain ⟨h1a, h1b, h1c⟩ := rise_parts h1
    obtain ⟨h2a, h2b, h2c⟩ := rise_parts h2
    have hnot : Op.bytesLess x.k y.k = false := by simpa using h
    have e : doCh (p ++ x :: a) ⟨y.k, y.v, false⟩ = p ++ y :: a := by
      rw [doCh, if_neg (by simp), putP, if_neg (by simp [hs]), putGo_split (.inr ⟨x, a, rfl, hnot⟩) p h2b, rest_cons, if_pos hk, rest_none (fun z hz => by rw [← hk]; exact (h1c z hz).ne')]
      simp
    have := ih (p ++ [y]) (by have := rise_mid (y := y) h1a h2b (fun z hz => by rw [← hk]; exact h1c z hz); simpa using this) (by simpa using h2) (fun q hq => ok q (by simp [hq]))
    rw [differ, if_neg h, if_neg h', if_neg hv, doChs, List.foldl_cons, e, show p ++ y :: a = (p ++ [y]) ++ a by simp]
    rw [doChs] at this
    rw [this]; simp

theorem differ_self : ∀ x : List Pr, differ x x = []
  | [] => by rw [differ]; rfl
  | x :: a => by rw [differ, less_irrefl, if_neg (by simp), if_neg (by simp), if_pos rfl]; exact differ_self a

structure CF (x y : List Pr) (c : Ch) : Prop where
  del : c.d = true → c.v = [] ∧ (∃ q ∈ x, q.k = c.k) ∧ ∀ q ∈ y, ¬ q.k = c.k
  put : c.d = false → (⟨c.k, c.v⟩ : Pr) ∈ y ∧ ∀ q ∈ x, q.k = c.k → ¬ q.v = c.v

theorem CF.key {x y : List Pr} {c : Ch} (h : CF x y c) : ∃ q, (q ∈ x ∨ q ∈ y) ∧ q.k = c.k := by
  cases hd : c.d with
  | true => obtain ⟨-, ⟨q, hq, e⟩, -⟩ := h.del hd; exact ⟨q, .inl hq, e⟩
  | false => exact ⟨⟨c.k, c.v⟩, .inr (h.put hd).1, rfl⟩

theorem differ_facts (x y : List Pr) : RiseP x → RiseP y → (∀ c ∈ differ x y, CF x y c) ∧ (differ x y).Pairwise fun a b => Lt a.k b.k := by
  induction x, y using differ.induct with
  | case1 b =>
    intro h1 h2
    rw [differ]
    refine ⟨fun c hc => ?_, ?_⟩
    · obtain ⟨q, hq, rfl⟩ := List.mem_map.1 hc
      exact ⟨fun h => by simp at h, fun _ => ⟨hq, by simp⟩⟩
    · rw [List.pairwise_map]; exact h2
  | case2 x a ih =>
    intro h1 h2
    obtain ⟨hx, ha⟩ := List.pairwise_cons.1 h1
    obtain ⟨i1, i2⟩ := ih ha h2
    rw [differ]
    refine ⟨fun c hc => ?_, List.pairwise_cons.2 ⟨fun c hc => ?_, i2⟩⟩
    · rcases List.mem_cons.1 hc with rfl | hc
      · exact ⟨fun _ => ⟨rfl, ⟨x, by simp, rfl⟩, by simp⟩, fun h => by simp at h⟩
      · have := i1 c hc
        refine ⟨fun h => ?_, fun h => ?_⟩
        · obtain ⟨v, ⟨q, hq, e⟩, -⟩ := this.del h; exact ⟨v, ⟨q, by simp [hq], e⟩, by simp⟩
        · have := (this.put h).1; simp at this
    · obtain ⟨q, hq, e⟩ := (i1 c hc).key
      rw [← e]
      rcases hq with hq | hq
      · exact hx q hq
      · simp at hq
  | case3 x a y b hlt ih =>
    intro h1 h2
    obtain ⟨hx, ha⟩ := List.pairwise_cons.1 h1
    obtain ⟨hy, hb⟩ := List.pairwise_cons.1 h2
    obtain ⟨i1, i2⟩ := ih ha h2
    have hxy : Lt x.k y.k := hlt
    have hall : ∀ q ∈ y :: b, Lt x.k q.k := fun q hq => by
      rcases List.mem_cons.1 hq with rfl | hq
      · exact hxy
      · exact hxy.trans (hy q hq)
    rw [differ, if_pos hlt]
    refine ⟨fun c hc => ?_, List.pairwise_cons.2 ⟨fun c hc => ?_, i2⟩⟩
    · rcases List.mem_cons.1 hc with rfl | hc
      · exact ⟨fun _ => ⟨rfl, ⟨x, by simp, rfl⟩, fun q hq => (hall q hq).ne'⟩, fun h => by simp at h⟩
      · have := i1 c hc
        refine ⟨fun h => ?_, fun h => ?_⟩
        · obtain ⟨v, ⟨q, hq, e⟩, g⟩ := this.del h; exact ⟨v, ⟨q, by simp [hq], e⟩, g⟩
        · obtain ⟨g1, g2⟩ := this.put h
          refine ⟨g1, fun q hq e => ?_⟩
          rcases List.mem_cons.1 hq with rfl | hq
          · exact absurd e (hall _ g1).ne
          · exact g2 q hq e
    · obtain ⟨q, hq, e⟩ := (i1 c hc).key
      rw [← e]
      rcases hq with hq | hq
      · exact hx q hq
      · exact hall q hq
  | case4 x a y b h hlt ih =>
    intro h1 h2
    obtain ⟨hx, ha⟩ := List.pairwise_cons.1 h1
    obtain ⟨hy, hb⟩ := List.pairwise_cons.1 h2
    obtain ⟨i1, i2⟩ := ih h1 hb
    have hyx : Lt y.k x.k := hlt
    have hall : ∀ q ∈ x :: a, Lt y.k q.k := fun q hq => by
      rcases List.mem_cons.1 hq with rfl | hq
      · exact hyx
      · exact hyx.trans (hx q hq)
    rw [differ, if_neg h, if_pos hlt]
    refine ⟨fun c hc => ?_, List.pairwise_cons.2 ⟨fun c hc => ?_, i2⟩⟩
    · rcases List.mem_cons.1 hc with rfl | hc
      · exact ⟨fun h => by simp at h, fun _ => ⟨by simp, fun q hq e => absurd e (hall q hq).ne'⟩⟩
      · have := i1 c hc
        refine ⟨fun h => ?_, fun h => ?_⟩
        · obtain ⟨v, ⟨q, hq, e⟩, g⟩ := this.del h
          refine ⟨v, ⟨q, hq, e⟩, fun z hz => ?_⟩
          rcases List.mem_cons.1 hz with rfl | hz
          · rw [← e]; exact (hall q hq).ne
          · exact g z hz
        · obtain ⟨g1, g2⟩ := this.put h; exact ⟨by simp [g1], g2⟩
    · obtain ⟨q, hq, e⟩ := (i1 c hc).key
      rw [← e]
      rcases hq with hq | hq
      · exact hall q hq
      · exact hy q hq
  | case5 x a y b h h' hv ih =>
    intro h1 h2
    obtain ⟨hx, ha⟩ := List.pairwise_cons.1 h1
    obtain ⟨hy, hb⟩ := List.pairwise_cons.1 h2
    obtain ⟨i1, i2⟩ := ih ha hb
    have hk := eq_keys h h'
    rw [differ, if_neg h, if_neg h', if_pos hv]
    refine ⟨fun c hc => ?_, i2⟩
    have := i1 c hc
    refine ⟨fun hd => ?_, fun hd => ?_⟩
    · obtain ⟨v, ⟨q, hq, e⟩, g⟩ := this.del hd
      refine ⟨v, ⟨q, by simp [hq], e⟩, fun z hz => ?_⟩
      rcases List.mem_cons.1 hz with rfl | hz
      · rw [← e, ← hk]; exact (hx q hq).ne
      · exact g z hz
    · obtain ⟨g1, g2⟩ := this.put hd
      refine ⟨by simp [g1], fun q hq e => ?_⟩
      rcases List.mem_cons.1 hq with rfl | hq
      · exact absurd (hk.symm.trans e) (hy _ g1).ne
      · exact g2 q hq e
  | case6 x a y b h h' hv ih =>
    intro h1 h2
    obtain ⟨hx, ha⟩ := List.pairwise_cons.1 h1
    obtain ⟨hy, hb⟩ := List.pairwise_cons.1 h2
    obtain ⟨i1, i2⟩ := ih ha hb
    have hk := eq_keys h h'
    rw [differ, if_neg h, if_neg h', if_neg hv]
    refine ⟨fun c hc => ?_, List.pairwise_cons.2 ⟨fun c hc => ?_, i2⟩⟩
    · rcases List.mem_cons.1 hc with rfl | hc
      · refine ⟨fun h => by simp at h, fun _ => ⟨by simp, fun q hq e => ?_⟩⟩
        rcases List.mem_cons.1 hq with rfl | hq
        · exact hv
        · exact absurd (hk.trans e.symm) (hx q hq).ne
      · have := i1 c hc
        refine ⟨fun hd => ?_, fun hd => ?_⟩
        · obtain ⟨v, ⟨q, hq, e⟩, g⟩ := this.del hd
          refine ⟨v, ⟨q, by simp [hq], e⟩, fun z hz => ?_⟩
          rcases List.mem_cons.1 hz with rfl | hz
          · rw [← e, ← hk]; exact (hx q hq).ne
          · exact g z hz
        · obtain ⟨g1, g2⟩ := this.put hd
          refine ⟨by simp [g1], fun q hq e => ?_⟩
          rcases List.mem_cons.1 hq with rfl | hq
          · exact absurd (hk.symm.trans e) (hy _ g1).ne
          · exact g2 q hq e
    · obtain ⟨q, hq, e⟩ := (i1 c hc).key
      rw [← e]
      rcases hq with hq | hq
      · show Lt y.k q.k; rw [← hk]; exact hx q hq
      · exact hy q hq
end Go.Proofs.Ytlefnohibjcekaa.Batch
