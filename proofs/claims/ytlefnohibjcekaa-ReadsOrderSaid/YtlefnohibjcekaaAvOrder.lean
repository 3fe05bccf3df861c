/- ALL ORDERS: the second half of 'XAvRegion'. -/
import Derived.Test.YtlefnohibjcekaaAvRegion
set_option linter.unusedVariables false
set_option linter.unusedSimpArgs false
namespace Go.Av
section
variable {P : Program} {ops : Array Oper}

/-- which operations stand before one, through all edges -/
def isAnc (ops : Array Oper) (i j : Nat) : Bool := ((Region.before ops).getD j 0).testBit i

structure Prefixes (ops : Array Oper) (recs : List Rec) (t0 : Tm) (h0 : H) (i : Nat) (t : Tm) (h : H) : Prop where
  t : ∀ d, t d = val (tU ops recs d) (fun _ => true) i (t0 d)
  o : ∀ id, h.objs id = val (oU recs id) (fun _ => true) i (h0.objs id)
  k : ∀ tk, decide (tk ∈ h.toks) = val (kU recs tk) (fun _ => true) i (decide (tk ∈ h0.toks))

theorem prefix_step {recs : List Rec} {t0 : Tm} {h0 : H} {i : Nat} {r : Rec} (hr : recs[i]? = some r) (tc : Touch r.h r.h1 r.h1' r.h' r.en) (p : Prefixes ops recs t0 h0 i r.t r.h) :
    Prefixes ops recs t0 h0 (i + 1) (putT r.t ((ops[i]?).bind (·.dst)) r.x) r.h' := by
  have hg : recs.getD i rec0 = r := by simp [List.getD, hr]
  constructor
  · intro d
    simp only [val, if_true, tU, hg, ← p.t]
    cases e : (ops[i]?).bind (·.dst) with
    | none => simp [putT]
    | some k =>
      simp only [putT, upd]
      by_cases hd : d = k
      · subst hd; simp
      · rw [if_neg hd, if_neg (by simpa using Ne.symm hd)]; rfl
  · intro id
    simp only [val, if_true, oU, hg, ← p.o, tc.objs id]
    split <;> rfl
  · intro tk
    simp only [val, if_true, kU, hg, ← p.k]
    have := tc.toks tk
    by_cases c : tk ∈ r.h1.toks ∨ tk ∈ r.h1'.toks
    · rw [if_pos c]
      simp only [Option.getD_some, decide_eq_decide, this]
      constructor
      · rintro (h | ⟨h1, h2⟩)
        · exact h
        · exact c.resolve_left h2
      · exact .inl
    · rw [if_neg c]
      simp only [Option.getD_none, decide_eq_decide, this]
      simp only [not_or] at c
      constructor
      · rintro (h | h)
        · exact absurd h c.2
        · exact h.1
      · intro h; exact .inr ⟨h, c.1⟩

theorem prefixes {recs : List Rec} {t0 t' : Tm} {h0 h' : H} (hc : Chain P ops 0 recs t0 h0 t' h') : (∀ i r, recs[i]? = some r → Prefixes ops recs t0 h0 i r.t r.h) ∧ Prefixes ops recs t0 h0 ops.size t' h' := by
  obtain ⟨a1, a2, a3, a4, a5, a6⟩ := chain_facts hc
  have base : Prefixes ops recs t0 h0 0 t0 h0 := ⟨fun _ => rfl, fun _ => rfl, fun _ => rfl⟩
  have key : ∀ i r, recs[i]? = some r → Prefixes ops recs t0 h0 i r.t r.h := by
    intro i
    induction i with
    | zero => intro r hr; obtain ⟨e1, e2⟩ := a3 r hr; rw [e1, e2]; exact base
    | succ i ih =>
      intro r' hr'
      have hlt : i < recs.length := by
        have : i + 1 < recs.length := by
          rcases Nat.lt_or_ge (i + 1) recs.length with h | h
          · exact h
          · rw [List.getElem?_eq_none h] at hr'; cases hr'
        omega
      obtain ⟨o, _, tc, _⟩ := a2 i recs[i] (List.getElem?_eq_getElem hlt)
      obtain ⟨e1, e2⟩ := a4 i recs[i] r' (List.getElem?_eq_getElem hlt) hr'
      rw [e1, e2]
      simpa using prefix_step (List.getElem?_eq_getElem hlt) tc (ih _ (List.getElem?_eq_getElem hlt))
  refine ⟨key, ?_⟩
  by_cases he : recs = []
  · obtain ⟨e1, e2⟩ := a6 he
    subst he
    simp at a1
    rw [e1, e2, ← a1]; exact base
  · have hpos : 0 < recs.length := List.length_pos_iff.2 he
    have hlt : recs.length - 1 < recs.length := by omega
    have hl : recs.getLast? = some recs[recs.length - 1] := by
      rw [List.getLast?_eq_getElem?]; exact List.getElem?_eq_getElem hlt
    obtain ⟨e1, e2⟩ := a5 _ hl
    obtain ⟨o, _, tc, _⟩ := a2 _ _ (List.getElem?_eq_getElem hlt)
    have := prefix_step (List.getElem?_eq_getElem hlt) tc (key _ _ (List.getElem?_eq_getElem hlt))
    rw [e1, e2]
    simp only [Nat.zero_add] at this a1 ⊢
    have hn : recs.length - 1 + 1 = ops.size := by omega
    rwa [hn] at this

/-- what a region asks of its text: edges lead back, and whoever writes a temporary is ordered beside whoever names it -/
structure Tidy (ops : Array Oper) : Prop where
  back : ∀ (i : Nat) o, ops[i]? = some o → ∀ e ∈ o.after, Region.binds .any e = true → e.on < i
  anc : ∀ (i : Nat) o, ops[i]? = some o → ∀ j, isAnc ops j i = true → ∃ e ∈ o.after, Region.binds .any e = true ∧ (j = e.on ∨ isAnc ops j e.on = true)
  tmp : ∀ (i j : Nat) o o', ops[i]? = some o → ops[j]? = some o' → i ≠ j → ∀ d, o.dst = some d → d ∈ names ops o' → isAnc ops i j = true ∨ isAnc ops j i = true

def Closed (ops : Array Oper) (S : Nat → Bool) : Prop := ∀ (i : Nat) o, ops[i]? = some o → S i = true → ∀ e ∈ o.after, Region.binds .any e = true → S e.on = true

theorem anc_in {S : Nat → Bool} (T : Tidy ops) (hS : Closed ops S) : ∀ (i : Nat) o, ops[i]? = some o → (∀ e ∈ o.after, Region.binds .any e = true → S e.on = true) → ∀ j, isAnc ops j i = true → S j = true := by
  intro i
  induction i using Nat.strongRecOn with
  | _ i ih =>
    intro o ho he j hj
    obtain ⟨e, hm, hbd, h⟩ := T.anc i o ho j hj
    rcases h with rfl | h
    · exact he e hm hbd
    · have hlt := T.back i o ho e hm hbd
      have hsz : e.on < ops.size := Nat.lt_trans hlt (Array.getElem?_eq_some_iff.1 ho).1
      exact ih e.on hlt ops[e.on] (Array.getElem?_eq_getElem hsz) (fun e' he' => hS e.on _ (Array.getElem?_eq_getElem hsz) (he e hm hbd) e' he') j h

def HS (recs : List Rec) (h0 : H) (n : Nat) (ne me : Nat) (S : Nat → Bool) : H where
  objs id := val (oU recs id) S n (h0.objs id)
  n := ne
  toks := (h0.toks ++ recs.flatMap (fun r => r.h1'.toks)).filter fun t => val (kU recs t) S n (decide (t ∈ h0.toks))
  m := me

theorem val_true_some {u : Nat → Option Bool} {S : Nat → Bool} : ∀ {n : Nat}, val u S n false = true → ∃ i, i < n ∧ u i = some true
  | 0, h => by simp [val] at h
  | n + 1, h => by
    simp only [val] at h
    by_cases hs : S n = true
    · simp only [hs, if_true] at h
      cases hu : u n with
      | none => rw [hu] at h; obtain ⟨i, a, b⟩ := val_true_some (n := n) h; exact ⟨i, by omega, b⟩
      | some y => rw [hu] at h; simp at h; subst h; exact ⟨n, by omega, hu⟩
    · simp only [hs, if_false, Bool.false_eq_true] at h
      obtain ⟨i, a, b⟩ := val_true_some (n := n) h; exact ⟨i, by omega, b⟩

theorem mem_HS {recs : List Rec} {h0 : H} {n ne me : Nat} {S : Nat → Bool} (hn : n = recs.length) (t : Nat) : t ∈ (HS recs h0 n ne me S).toks ↔ val (kU recs t) S n (decide (t ∈ h0.toks)) = true := by
  simp only [HS, List.mem_filter, List.mem_append, List.mem_flatMap]
  refine ⟨fun h => h.2, fun h => ⟨?_, h⟩⟩
  by_cases h0t : t ∈ h0.toks
  · exact .inl h0t
  · rw [decide_eq_false h0t] at h
    obtain ⟨i, hi, hu⟩ := val_true_some h
    rw [hn] at hi
    refine .inr ⟨recs[i], List.getElem_mem hi, ?_⟩
    simp only [kU, List.getD, List.getElem?_eq_getElem hi, Option.getD_some] at hu
    split at hu
    · simpa using hu
    · cases hu

def count (n : Nat) (S : Nat → Bool) : Nat := ((List.range n).filter fun k => !S k).length

theorem count_insert {n i : Nat} {S S' : Nat → Bool} (hS : S i = false) (hS' : ∀ k, S' k = (S k || k == i)) (hi : i < n) : count n S' + 1 = count n S := by
  unfold count
  induction n with
  | zero => omega
  | succ n ih =>
    simp only [List.range_succ, List.filter_append, List.length_append]
    by_cases e : n = i
    · subst e
      have : (List.range n).filter (fun k => !S' k) = (List.range n).filter (fun k => !S k) := by
        apply List.filter_congr
        intro k hk
        have : (k == n) = false := by simp at hk ⊢; omega
        simp [hS', this]
      rw [this]
      simp [hS', hS]
    · have := ih (by omega)
      have en : (n == i) = false := by simp; exact e
      have e2 : ([n].filter fun k => !S' k) = [n].filter fun k => !S k := by simp [List.filter_cons, hS', en]
      rw [e2]
      omega

theorem count_zero {n : Nat} {S : Nat → Bool} (h : count n S = 0) : ∀ k, k < n → S k = true := by
  intro k hk
  unfold count at h
  rw [List.length_eq_zero_iff, List.filter_eq_nil_iff] at h
  simpa using h k (by simpa using hk)

theorem ready_iff (ops : Array Oper) (listed : Array Bool) (T : Tidy ops) {i : Nat} {o : Oper} (ho : ops[i]? = some o) : i ∈ Region.ready .any ops listed ↔ listed.getD i true = false ∧ ∀ e ∈ o.after, Region.binds .any e = true → listed.getD e.on false = true := by
  have hi : i < ops.size := (Array.getElem?_eq_some_iff.1 ho).1
  simp only [Region.ready, List.mem_filter, List.mem_range, hi, true_and, ho, Option.map_some, Option.getD_some, Bool.and_eq_true, Bool.not_eq_true']
  refine and_congr_right fun _ => ?_
  rw [Array.all_eq_true_iff_forall_mem]
  constructor
  · intro h e he hb
    have := h e he
    simpa [hb] using this
  · intro h e he
    cases hb : Region.binds .any e with
    | false => rfl
    | true => simp [h e he hb]

theorem anc_lt (T : Tidy ops) {k : Nat} : ∀ (q : Nat) oq, ops[q]? = some oq → isAnc ops k q = true → k < q := by
  intro q
  induction q using Nat.strongRecOn with
  | _ q ihq =>
    intro oq hoq hq'
    obtain ⟨e, hm, hbd, hh⟩ := T.anc q oq hoq k hq'
    have hb := T.back q oq hoq e hm hbd
    rcases hh with rfl | hh
    · exact hb
    · have hsz : e.on < ops.size := Nat.lt_trans hb (Array.getElem?_eq_some_iff.1 hoq).1
      exact Nat.lt_trans (ihq e.on hb _ (Array.getElem?_eq_getElem hsz) hh) hb

/-- IN EVERY ORDER -/
theorem chain_any {N : Nat} {Q : Exit → Act → World → Prop} (hN : ∀ (i : Nat) o d, ops[i]? = some o → o.dst = some d → d < N) (T : Tidy ops) {recs : List Rec} {t0 t' : Tm} {h0 h' : H} (hc : Chain P ops 0 recs t0 h0 t' h')
    (ap : ∀ i j, i < j → j < ops.size → isAnc ops i j = false → apart (recs.getD i rec0).en (recs.getD j rec0).en)
    {G0 : Ghost} {w0 : World} {a0 : Act} (R0 : RepH G0 h0 w0) (F0 : Fresh G0 h0 h')
    (hq : ∀ G' w' a', Trans G0 w0 h0 G' w' h' → TRel G' w' t' a' → RepH G' h' w' → a'.tmps.size = N → a'.defers = a0.defers → Q .normal a' w') :
    ∀ (fuel : Nat) (listed : Array Bool) (G : Ghost) (w : World) (a : Act), listed.size = ops.size → count ops.size (fun k => listed.getD k false) ≤ fuel → Closed ops (fun k => listed.getD k false) →
      a.tmps.size = N → a.defers = a0.defers → (∀ d, VRel G w (val (tU ops recs d) (fun k => listed.getD k false) ops.size (t0 d)) (a.tmps.getD d undef)) →
      RepH G (HS recs h0 ops.size h'.n h'.m (fun k => listed.getD k false)) w → Trans G0 w0 h0 G w (HS recs h0 ops.size h'.n h'.m (fun k => listed.getD k false)) →
      (∀ id, G.dom id → G0.dom id ∨ ∃ k, k < ops.size ∧ listed.getD k false = true ∧ (recs.getD k rec0).h1.n ≤ id ∧ id < (recs.getD k rec0).h1'.n) →
      (∀ id, G.tdom id → G0.tdom id ∨ ∃ k, k < ops.size ∧ listed.getD k false = true ∧ (recs.getD k rec0).h1.m ≤ id ∧ id < (recs.getD k rec0).h1'.m) →
      wpAny P .any ops Q fuel listed a w := by
  obtain ⟨a1, a2, a3, a4, a5, a6⟩ := chain_facts hc
  obtain ⟨pre, preEnd⟩ := prefixes hc
  rw [Nat.zero_add] at a1
  -- everything has run
  have full : ∀ (listed : Array Bool) (G : Ghost) (w : World) (a : Act), (∀ k, k < ops.size → listed.getD k false = true) → a.tmps.size = N → a.defers = a0.defers → (∀ d, VRel G w (val (tU ops recs d) (fun k => listed.getD k false) ops.size (t0 d)) (a.tmps.getD d undef)) →
      RepH G (HS recs h0 ops.size h'.n h'.m (fun k => listed.getD k false)) w → Trans G0 w0 h0 G w (HS recs h0 ops.size h'.n h'.m (fun k => listed.getD k false)) → Q .normal a w := by
    intro listed G w a hall hs hd ht R Tr
    have ho : (HS recs h0 ops.size h'.n h'.m (fun k => listed.getD k false)).objs = h'.objs := by
      funext id
      simp only [HS]
      rw [val_congr (S' := fun _ => true) hall, ← preEnd.o]
    have hk : ∀ t, t ∈ (HS recs h0 ops.size h'.n h'.m (fun k => listed.getD k false)).toks ↔ t ∈ h'.toks := by
      intro t
      rw [mem_HS a1.symm, val_congr (S' := fun _ => true) hall, ← preEnd.k]
      simp
    refine hq G w a (Tr.same rfl (fun _ => Iff.rfl) ho.symm (fun t => (hk t).symm) (Nat.le_refl _) (Nat.le_refl _) Tr.n_le (Nat.le_refl _) (Nat.le_refl _) Tr.m_le) ?_ (R.same ho.symm fun t x => (hk t).2 x) hs hd
    intro d
    have := ht d
    rwa [val_congr (S' := fun _ => true) hall, ← preEnd.t] at this
  have noready : ∀ (listed : Array Bool), listed.size = ops.size → Region.ready .any ops listed = [] → ∀ k, k < ops.size → listed.getD k false = true := by
    intro listed hls hr k
    induction k using Nat.strongRecOn with
    | _ k ih =>
      intro hk
      cases hl : listed.getD k false with
      | true => rfl
      | false =>
        exfalso
        have ho := Array.getElem?_eq_getElem hk
        have : k ∈ Region.ready .any ops listed := by
          rw [ready_iff ops listed T ho]
          refine ⟨?_, fun e he hbd => ?_⟩
          · have hk' : k < listed.size := by omega
            simp [hk'] at hl ⊢; exact hl
          · have := T.back k _ ho e he hbd
            exact ih e.on this (by omega)
        rw [hr] at this; cases this
  intro fuel
  induction fuel with
  | zero =>
    intro listed G w a hls hcnt hcl hs hd ht R Tr _ _
    have hall := count_zero (Nat.le_zero.1 hcnt)
    refine ⟨?_, full listed G w a hall hs hd ht R Tr⟩
    rw [List.eq_nil_iff_forall_not_mem]
    intro i hi
    have hlt : i < ops.size := by simp [Region.ready] at hi; exact hi.1
    rw [ready_iff ops listed T (Array.getElem?_eq_getElem hlt)] at hi
    have h1 := hall i hlt
    have h2 := hi.1
    have hk' : i < listed.size := by omega
    simp [hk'] at h1 h2
    rw [h1] at h2; cases h2
  | succ fuel ih =>
    intro listed G w a hls hcnt hcl hs hd ht R Tr hdom htdom
    refine ⟨fun hr => full listed G w a (noready listed hls hr) hs hd ht R Tr, fun i hi => ?_⟩
    have hlt : i < ops.size := by simp [Region.ready] at hi; exact hi.1
    have ho := Array.getElem?_eq_getElem hlt
    have hltr : i < recs.length := by omega
    have hr := List.getElem?_eq_getElem hltr
    obtain ⟨o', ho', tc, run⟩ := a2 i _ hr
    rw [Nat.zero_add] at ho' run
    obtain rfl : ops[i] = o' := Option.some.inj (ho.symm.trans ho')
    rw [ready_iff ops listed T ho] at hi
    obtain ⟨hli, hedges⟩ := hi
    have hil : i < listed.size := by omega
    have hSi : listed.getD i false = false := by simp [hil] at hli ⊢; exact hli
    have hgr : recs.getD i rec0 = recs[i] := by simp [List.getD, hr]
    generalize hrr : recs[i] = r at *
    have p := pre i r hr
    -- who runs before though the text has it behind, or has not run though the text has it ahead, is not ordered
    have ancS := anc_in T hcl i _ ho hedges
    have late : ∀ k, i < k → k < ops.size → listed.getD k false = true → isAnc ops i k = false := by
      intro k h1 h2 h3
      cases hb : isAnc ops i k with
      | false => rfl
      | true =>
        have := anc_in T hcl k _ (Array.getElem?_eq_getElem h2) (hcl k _ (Array.getElem?_eq_getElem h2) h3) i hb
        rw [hSi] at this; cases this
    have early : ∀ k, k < i → listed.getD k false = false → isAnc ops k i = false := by
      intro k h1 h3
      cases hb : isAnc ops k i with
      | false => rfl
      | true => rw [ancS k hb] at h3; cases h3
    have apI : ∀ k, k < ops.size → ((k < i ∧ listed.getD k false = false) ∨ (i < k ∧ listed.getD k false = true)) → apart (recs.getD k rec0).en r.en := by
      intro k hk h
      rcases h with ⟨h1, h2⟩ | ⟨h1, h2⟩
      · have := ap k i h1 hlt (early k h1 h2); rwa [hgr] at this
      · have := (ap i k h1 hk (late k h1 hk h2)).symm; rwa [hgr] at this
    -- objects
    have hobj : ∀ id, id ∈ r.en.rd ∨ id ∈ r.en.wr → (HS recs h0 ops.size h'.n h'.m (fun k => listed.getD k false)).objs id = r.h.objs id := by
      intro id hid
      simp only [HS]
      rw [p.o]
      have none_of : ∀ k, k < ops.size → ((k < i ∧ listed.getD k false = false) ∨ (i < k ∧ listed.getD k false = true)) → oU recs id k = none := by
        intro k hk h
        have hap := apI k hk h
        simp only [oU]
        rw [if_neg]
        rintro ⟨_, hw⟩
        have := hap.1 id hw
        rcases hid with h | h
        · exact this.1 h
        · exact this.2 h
      refine val_prefix (fun k h1 h2 => none_of k (by omega) (.inl ⟨h1, h2⟩)) (Nat.le_of_lt hlt) fun k h1 h2 h3 => ?_
      rcases Nat.lt_or_ge i k with h | h
      · exact none_of k h2 (.inr ⟨h, h3⟩)
      · have : k = i := by omega
        subst this
        rw [hSi] at h3; cases h3
    have htok : ∀ t, t ∈ r.en.tk → (t ∈ (HS recs h0 ops.size h'.n h'.m (fun k => listed.getD k false)).toks ↔ t ∈ r.h.toks) := by
      intro t hid
      rw [mem_HS a1.symm]
      have none_of : ∀ k, k < ops.size → ((k < i ∧ listed.getD k false = false) ∨ (i < k ∧ listed.getD k false = true)) → kU recs t k = none := by
        intro k hk h
        have hap := apI k hk h
        have hkr : k < recs.length := by omega
        obtain ⟨ok, _, tck, _⟩ := a2 k _ (List.getElem?_eq_getElem hkr)
        have hgk : recs.getD k rec0 = recs[k] := by simp [List.getD, List.getElem?_eq_getElem hkr]
        rw [hgk] at hap
        simp only [kU, hgk]
        rw [if_neg]
        rintro (hw | hw)
        · exact hap.2.2 t (tck.tk t hw) hid
        · exact hap.2.2 t (tck.tn t hw) hid
      have := val_prefix (u := kU recs t) (S := fun k => listed.getD k false) (v := decide (t ∈ h0.toks)) (fun k h1 h2 => none_of k (by omega) (.inl ⟨h1, h2⟩)) (Nat.le_of_lt hlt) fun k h1 h2 h3 => by
        rcases Nat.lt_or_ge i k with h | h
        · exact none_of k h2 (.inr ⟨h, h3⟩)
        · have : k = i := by omega
          subst this
          rw [hSi] at h3; cases h3
      rw [this, ← p.k]; simp
    have htmp : ∀ d, d ∈ names ops ops[i] → val (tU ops recs d) (fun k => listed.getD k false) ops.size (t0 d) = r.t d := by
      intro d hdn
      rw [p.t]
      have none_of : ∀ k, k < ops.size → ((k < i ∧ listed.getD k false = false) ∨ (i < k ∧ listed.getD k false = true)) → tU ops recs d k = none := by
        intro k hk h
        simp only [tU]
        rw [if_neg]
        intro hdst
        rw [Array.getElem?_eq_getElem hk] at hdst
        have hne : k ≠ i := by omega
        rcases T.tmp k i _ _ (Array.getElem?_eq_getElem hk) ho hne d hdst hdn with hx | hx
        · rcases h with ⟨h1, h2⟩ | ⟨h1, h2⟩
          · rw [early k h1 h2] at hx; cases hx
          · -- k stands before i through the edges, and yet behind it in the text
            have := ancS k hx
            have := anc_lt T i _ ho hx
            omega
        · rcases h with ⟨h1, h2⟩ | ⟨h1, h2⟩
          · have := anc_lt T k _ (Array.getElem?_eq_getElem hk) hx
            omega
          · rw [late k h1 hk h2] at hx; cases hx
      refine val_prefix (fun k h1 h2 => none_of k (by omega) (.inl ⟨h1, h2⟩)) (Nat.le_of_lt hlt) fun k h1 h2 h3 => ?_
      rcases Nat.lt_or_ge i k with h | h
      · exact none_of k h2 (.inr ⟨h, h3⟩)
      · have : k = i := by omega
        subst this
        rw [hSi] at h3; cases h3
    obtain ⟨-, nm2, nm3⟩ := chain_nm hc
    have F : Fresh G r.h1 r.h1' := by
      obtain ⟨⟨b1, b2⟩, b3, b4⟩ := nm2 i r hr
      constructor
      · intro id c1 c2 hd'
        rcases hdom id hd' with hd' | ⟨k, hk, hSk, d1, d2⟩
        · exact F0.1 id (by omega) (by omega) hd'
        · have hkr : k < recs.length := by omega
          have hgk : recs.getD k rec0 = recs[k] := by simp [List.getD, List.getElem?_eq_getElem hkr]
          rw [hgk] at d1 d2
          rcases Nat.lt_trichotomy k i with h | h | h
          · have := (nm3 k i _ _ h (List.getElem?_eq_getElem hkr) hr).1; omega
          · subst h; rw [hSi] at hSk; cases hSk
          · have := (nm3 i k _ _ h hr (List.getElem?_eq_getElem hkr)).1; omega
      · intro id c1 c2 hd'
        rcases htdom id hd' with hd' | ⟨k, hk, hSk, d1, d2⟩
        · exact F0.2 id (by omega) (by omega) hd'
        · have hkr : k < recs.length := by omega
          have hgk : recs.getD k rec0 = recs[k] := by simp [List.getD, List.getElem?_eq_getElem hkr]
          rw [hgk] at d1 d2
          rcases Nat.lt_trichotomy k i with h | h | h
          · have := (nm3 k i _ _ h (List.getElem?_eq_getElem hkr) hr).2; omega
          · subst h; rw [hSi] at hSk; cases hSk
          · have := (nm3 i k _ _ h hr (List.getElem?_eq_getElem hkr)).2; omega
    generalize hSdef : (fun k => listed.getD k false) = S at *
    have hSk : ∀ k, listed.getD k false = S k := fun k => by rw [← hSdef]
    let HSi : H := { HS recs h0 ops.size h'.n h'.m S with n := r.h.n, m := r.h.m }
    have Ri : RepH G HSi w := R.same rfl fun _ x => x
    have hsub : r.h1.sub HSi := by
      refine ⟨fun j o hj => ?_, fun t ht' => ?_⟩
      · show (HS recs h0 ops.size h'.n h'.m S).objs j = some o
        rw [hobj j (tc.rd j (by rw [hj]; rfl))]
        exact tc.sub.1 j o hj
      · show t ∈ (HS recs h0 ops.size h'.n h'.m S).toks
        rw [htok t (tc.tk t ht')]
        exact tc.sub.2 t ht'
    refine run G w a (fun d hd' => by rw [← htmp d hd']; exact ht d) (Ri.sub hsub) F _ Q fun G' w' v T1 R1 V => ?_
    obtain ⟨R2, T2⟩ := frame Ri hsub tc.n tc.m R1 T1 F
    -- the set, with i
    have hS' : ∀ k, (listed.setIfInBounds i true).getD k false = (S k || k == i) := by
      intro k
      rw [← hSk]
      by_cases e : k = i
      · subst e; simp [hil]
      · simp [Array.getElem?_setIfInBounds, Ne.symm e, e]
    generalize hSdef' : (fun k => (listed.setIfInBounds i true).getD k false) = S' at *
    have hS2 : ∀ k, S' k = (S k || k == i) := fun k => by rw [← hSdef']; exact hS' k
    have hSi' : S i = false := by rw [← hSk]; exact hSi
    have apJ : ∀ j, i < j → j < ops.size → S j = true → apart (recs.getD j rec0).en r.en := fun j h1 h2 h3 => apI j h2 (.inr ⟨h1, (hSk j).trans h3⟩)
    have eobj : ∀ id, (HS recs h0 ops.size h'.n h'.m S').objs id = (HSi.patch r.h1 r.h1').objs id := by
      intro id
      have hv := val_insert (u := oU recs id) (v := h0.objs id) hSi' hS2 hlt (fun j h1 h2 h3 hne => by
        have hap := apJ j h1 h2 h3
        simp only [oU]
        rw [if_neg]
        rintro ⟨_, hw⟩
        apply hne
        simp only [oU, hgr]
        rw [if_neg]
        rintro ⟨_, hw'⟩
        exact (hap.1 id hw).2 hw')
      show val (oU recs id) S' ops.size (h0.objs id) = _
      rw [hv]
      simp only [oU, hgr, H.patch]
      by_cases c : ((r.h1.objs id).isSome ∨ (r.h1.n ≤ id ∧ id < r.h1'.n))
      · by_cases hw : id ∈ r.en.wr
        · simp [c, hw]
        · simp only [c, hw, and_false, if_false, if_true, Option.getD_none]
          have hs : (r.h1.objs id).isSome := by
            rcases c with c | c
            · exact c
            · exact absurd (tc.wr id c.1 c.2) hw
          rw [tc.chg id hs hw]
          show (HS recs h0 ops.size h'.n h'.m S).objs id = _
          rw [hobj id (tc.rd id hs)]
          obtain ⟨o, hoo⟩ := Option.isSome_iff_exists.1 hs
          rw [hoo]; exact tc.sub.1 id o hoo
      · simp only [c, false_and, if_false, Option.getD_none]
        rfl
    have etok : ∀ tk, tk ∈ (HS recs h0 ops.size h'.n h'.m S').toks ↔ tk ∈ (HSi.patch r.h1 r.h1').toks := by
      intro tk
      have hv := val_insert (u := kU recs tk) (v := decide (tk ∈ h0.toks)) hSi' hS2 hlt (fun j h1 h2 h3 hne => by
        have hap := apJ j h1 h2 h3
        have hjr : j < recs.length := by omega
        obtain ⟨ok, _, tck, _⟩ := a2 j _ (List.getElem?_eq_getElem hjr)
        have hgk : recs.getD j rec0 = recs[j] := by simp [List.getD, List.getElem?_eq_getElem hjr]
        rw [hgk] at hap
        simp only [kU, hgk]
        rw [if_neg]
        intro hw
        apply hne
        simp only [kU, hgr]
        rw [if_neg]
        intro hw'
        have h1 : tk ∈ recs[j].en.tk := hw.elim (tck.tk tk) (tck.tn tk)
        have h2 : tk ∈ r.en.tk := hw'.elim (tc.tk tk) (tc.tn tk)
        exact hap.2.2 tk h1 h2)
      rw [mem_HS a1.symm, hv]
      have hm := mem_HS (recs := recs) (h0 := h0) (ne := h'.n) (me := h'.m) (S := S) a1.symm tk
      simp only [H.patch, List.mem_append, List.mem_filter]
      simp only [kU, hgr]
      by_cases c : tk ∈ r.h1.toks ∨ tk ∈ r.h1'.toks
      · rw [if_pos c]
        simp only [Option.getD_some, decide_eq_true_eq]
        constructor
        · exact .inl
        · rintro (h | ⟨h1, h2⟩)
          · exact h
          · exact c.resolve_left (by simpa using h2)
      · rw [if_neg c]
        simp only [Option.getD_none]
        rw [← hm]
        simp only [not_or] at c
        constructor
        · intro h; exact .inr ⟨h, by simpa using c.1⟩
        · rintro (h | h)
          · exact absurd h c.2
          · exact h.1
    have nmi := nm2 i r hr
    have n0 := tc.n
    have m0 := tc.m
    have le0 := tc.le
    have lem0 := tc.lem
    have hle := Tr.n_le
    have hlem := Tr.m_le
    simp only [HS] at hle hlem
    have T3 : Trans G w { HS recs h0 ops.size h'.n h'.m S with n := h0.n, m := h0.m } G' w' (HS recs h0 ops.size h'.n h'.m S') :=
      T2.same rfl (fun _ => Iff.rfl) (funext eobj) etok (by show h0.n ≤ r.h.n; omega) (by show r.h1'.n ≤ h'.n; omega) hle (by show h0.m ≤ r.h.m; omega) (by show r.h1'.m ≤ h'.m; omega) hlem
    have T4 := Tr.trans' (h'' := HS recs h0 ops.size h'.n h'.m S') (h2 := { HS recs h0 ops.size h'.n h'.m S with n := h0.n, m := h0.m }) R0 rfl (fun _ => Iff.rfl) (Nat.le_refl _) (Nat.le_refl _) hle (Nat.le_refl _) (Nat.le_refl _) hlem R T3
    have tset : ∀ d, val (tU ops recs d) S' ops.size (t0 d) = putT (fun d => val (tU ops recs d) S ops.size (t0 d)) ops[i].dst r.x d := by
      intro d
      have hv := val_insert (u := tU ops recs d) (v := t0 d) hSi' hS2 hlt (fun j h1 h2 h3 hne => by
        simp only [tU]
        rw [if_neg]
        intro hdj
        apply hne
        simp only [tU]
        rw [if_neg]
        intro hdi
        rw [ho] at hdi
        rw [Array.getElem?_eq_getElem h2] at hdj
        rcases T.tmp i j _ _ ho (Array.getElem?_eq_getElem h2) (by omega) d hdi (by simp only [names, List.mem_append]; left; left; rw [show ops[j].dst = some d from hdj]; simp) with hx | hx
        · rw [late j h1 h2 ((hSk j).trans h3)] at hx; cases hx
        · have := anc_lt T i _ ho hx; omega)
      rw [hv]
      simp only [tU, ho, Option.bind_some, hgr]
      cases hd' : ops[i].dst with
      | none => simp [putT]
      | some k =>
        simp only [putT, upd]
        by_cases e : d = k
        · subst e; simp
        · rw [if_neg e, if_neg (by simpa using Ne.symm e)]; rfl
    have hput : TRel G' w' (putT (fun d => val (tU ops recs d) S ops.size (t0 d)) ops[i].dst r.x) (a.put ops[i].dst v) :=
      put_rel (TRel.mono Ri T2 ht) V fun k hk => by rw [hs]; exact hN i _ k ho hk
    refine ih (listed.setIfInBounds i true) G' w' _ (by simpa using hls) ?_ ?_ (by rw [put_size]; exact hs) (by rw [put_defers]; exact hd) ?_ ?_ ?_ ?_ ?_
    · rw [hSdef']
      have := count_insert hSi' hS2 hlt
      omega
    · rw [hSdef']
      intro j oj hoj hj e he hbd
      rw [hS2] at hj ⊢
      by_cases ej : j = i
      · subst ej
        obtain rfl : ops[j] = oj := Option.some.inj (ho.symm.trans hoj)
        rw [← hSk, hedges e he hbd]; rfl
      · have : S j = true := by simpa [ej] using hj
        rw [hcl j oj hoj this e he hbd]; rfl
    · rw [hSdef']
      intro d
      rw [tset d]; exact hput d
    · rw [hSdef']
      exact R2.same (funext eobj) fun t x => (etok t).1 x
    · rw [hSdef']; exact T4
    · intro id hd'
      rcases T1.dom_new id hd' with h | h
      · rcases hdom id h with h | ⟨k, h1, h2, h3⟩
        · exact .inl h
        · exact .inr ⟨k, h1, by rw [hS', ← hSk, h2]; rfl, h3⟩
      · exact .inr ⟨i, hlt, by rw [hS']; simp, by rw [hgr]; exact h⟩
    · intro id hd'
      rcases T1.tdom_new id hd' with h | h
      · rcases htdom id h with h | ⟨k, h1, h2, h3⟩
        · exact .inl h
        · exact .inr ⟨k, h1, by rw [hS', ← hSk, h2]; rfl, h3⟩
      · exact .inr ⟨i, hlt, by rw [hS']; simp, by rw [hgr]; exact h⟩
end
end Go.Av
