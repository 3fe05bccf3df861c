/- Parts of a proof: a layer of abstract values over the model, the functions' walks, plain laws. -/
import Derived.Deep.CondSized
import Derived.IntWalk
import Derived.KernelRfl
import Derived.Laws.Append
import Derived.Laws.AppendOwn
import Derived.Laws.BytesArg
import Derived.Laws.Cover3
import Derived.Laws.Entries
import Derived.Laws.IdiomCopy
import Derived.Laws.IdiomStrings
import Derived.Laws.Pointers
import Derived.Laws.Small
import Derived.Laws.Strings
import Derived.Laws.StructEq
import Derived.Lib.Small
import Derived.Lib.Walk
import Derived.MapKept
import Derived.OpenShut
import Derived.Orders
import Derived.OrdersIn
import Derived.ProofKit
import Derived.RangeFuncRecord
import Derived.RangeFuncSeq
import Derived.ReadAgain
import Derived.Scope
import Derived.Shelf.Lay
import Derived.Shelf.SlSortCmp.InsertionK
import Derived.Shelf.SlSortCmp.WholeK
import Derived.Shelf.Slices.Cells
import Derived.Shelf.Slices.Delete
import Derived.Shelf.Sort.Plain
import Derived.Shelf.Spec.SlicesInsertGrow
import Derived.SizedLaws
import Derived.Sort.Walk0
import Derived.Test.YtobokfclaooloaaRows
import Derived.WalkKit
import Derived.Test.YtobokfclaooloaaTbIA
section
set_option linter.unusedVariables false
set_option linter.unusedSimpArgs false
namespace Go.Av
section
variable {P : Program} {ops : Array Oper}
def isAnc (ops : Array Oper) (i j : Nat) : Bool := ((Region.before ops).getD j 0).testBit i
structure Prefixes (ops : Array Oper) (recs : List Rec) (t0 : Tm) (h0 : H) (i : Nat) (t : Tm) (h : H) : Prop where
  t : ∀ d, t d = val (tU ops recs d) (fun _ => true) i (t0 d)
  o : ∀ id, h.objs id = val (oU recs id) (fun _ => true) i (h0.objs id)
  k : ∀ tk, decide (tk ∈ h.toks) = val (kU recs tk) (fun _ => true) i (decide (tk ∈ h0.toks))
theorem prefix_step {recs : List Rec} {t0 : Tm} {h0 : H} {i : Nat} {r : Rec} (hr : recs[i]? = some r) (tc : Touch r.h r.h1 r.h1' r.h' r.en) (p : Prefixes ops recs t0 h0 i r.t r.h) :
    Prefixes ops recs t0 h0 (i + 1) (putT r.t ((ops[i]?).bind (·.dst)) r.x) r.h' := by
  have hg : recs.getD i rec0 = r := by simp [List.getD, hr]
  constructor
  · intro d
    simp only [val, if_true, tU, hg, ← p.t]
    cases e : (ops[i]?).bind (·.dst) with
    | none => simp [putT]
    | some k =>
      simp only [putT, upd]
      by_cases hd : d = k
      · subst hd; simp
      · rw [if_neg hd, if_neg (by simpa using Ne.symm hd)]; rfl
  · intro id
    simp only [val, if_true, oU, hg, ← p.o, tc.objs id]
    split <;> rfl
  · intro tk
    simp only [val, if_true, kU, hg, ← p.k]
    have := tc.toks tk
    by_cases c : tk ∈ r.h1.toks ∨ tk ∈ r.h1'.toks
    · rw [if_pos c]
      simp only [Option.getD_some, decide_eq_decide, this]
      constructor
      · rintro (h | ⟨h1, h2⟩)
        · exact h
        · exact c.resolve_left h2
      · exact .inl
    · rw [if_neg c]
      simp only [Option.getD_none, decide_eq_decide, this]
      simp only [not_or] at c
      constructor
      · rintro (h | h)
        · exact absurd h c.2
        · exact h.1
      · intro h; exact .inr ⟨h, c.1⟩
theorem prefixes {recs : List Rec} {t0 t' : Tm} {h0 h' : H} (hc : Chain P ops 0 recs t0 h0 t' h') : (∀ i r, recs[i]? = some r → Prefixes ops recs t0 h0 i r.t r.h) ∧ Prefixes ops recs t0 h0 ops.size t' h' := by
  obtain ⟨a1, a2, a3, a4, a5, a6⟩ := chain_facts hc
  have base : Prefixes ops recs t0 h0 0 t0 h0 := ⟨fun _ => rfl, fun _ => rfl, fun _ => rfl⟩
  have key : ∀ i r, recs[i]? = some r → Prefixes ops recs t0 h0 i r.t r.h := by
    intro i
    induction i with
    | zero => intro r hr; obtain ⟨e1, e2⟩ := a3 r hr; rw [e1, e2]; exact base
    | succ i ih =>
      intro r' hr'
      have hlt : i < recs.length := by
        have : i + 1 < recs.length := by
          rcases Nat.lt_or_ge (i + 1) recs.length with h | h
          · exact h
          · rw [List.getElem?_eq_none h] at hr'; cases hr'
        omega
      obtain ⟨o, _, tc, _⟩ := a2 i recs[i] (List.getElem?_eq_getElem hlt)
      obtain ⟨e1, e2⟩ := a4 i recs[i] r' (List.getElem?_eq_getElem hlt) hr'
      rw [e1, e2]
      simpa using prefix_step (List.getElem?_eq_getElem hlt) tc (ih _ (List.getElem?_eq_getElem hlt))
  refine ⟨key, ?_⟩
  by_cases he : recs = []
  · obtain ⟨e1, e2⟩ := a6 he
    subst he
    simp at a1
    rw [e1, e2, ← a1]; exact base
  · have hpos : 0 < recs.length := List.length_pos_iff.2 he
    have hlt : recs.length - 1 < recs.length := by omega
    have hl : recs.getLast? = some recs[recs.length - 1] := by
      rw [List.getLast?_eq_getElem?]; exact List.getElem?_eq_getElem hlt
    obtain ⟨e1, e2⟩ := a5 _ hl
    obtain ⟨o, _, tc, _⟩ := a2 _ _ (List.getElem?_eq_getElem hlt)
    have := prefix_step (List.getElem?_eq_getElem hlt) tc (key _ _ (List.getElem?_eq_getElem hlt))
    rw [e1, e2]
    simp only [Nat.zero_add] at this a1 ⊢
    have hn : recs.length - 1 + 1 = ops.size := by omega
    rwa [hn] at this
structure Tidy (ops : Array Oper) : Prop where
  back : ∀ (i : Nat) o, ops[i]? = some o → ∀ e ∈ o.after, Region.binds .any e = true → e.on < i
  anc : ∀ (i : Nat) o, ops[i]? = some o → ∀ j, isAnc ops j i = true → ∃ e ∈ o.after, Region.binds .any e = true ∧ (j = e.on ∨ isAnc ops j e.on = true)
  tmp : ∀ (i j : Nat) o o', ops[i]? = some o → ops[j]? = some o' → i ≠ j → ∀ d, o.dst = some d → d ∈ names ops o' → isAnc ops i j = true ∨ isAnc ops j i = true
def Closed (ops : Array Oper) (S : Nat → Bool) : Prop := ∀ (i : Nat) o, ops[i]? = some o → S i = true → ∀ e ∈ o.after, Region.binds .any e = true → S e.on = true
theorem anc_in {S : Nat → Bool} (T : Tidy ops) (hS : Closed ops S) : ∀ (i : Nat) o, ops[i]? = some o → (∀ e ∈ o.after, Region.binds .any e = true → S e.on = true) → ∀ j, isAnc ops j i = true → S j = true := by
  intro i
  induction i using Nat.strongRecOn with
  | _ i ih =>
    intro o ho he j hj
    obtain ⟨e, hm, hbd, h⟩ := T.anc i o ho j hj
    rcases h with rfl | h
    · exact he e hm hbd
    · have hlt := T.back i o ho e hm hbd
      have hsz : e.on < ops.size := Nat.lt_trans hlt (Array.getElem?_eq_some_iff.1 ho).1
      exact ih e.on hlt ops[e.on] (Array.getElem?_eq_getElem hsz) (fun e' he' => hS e.on _ (Array.getElem?_eq_getElem hsz) (he e hm hbd) e' he') j h
def HS (recs : List Rec) (h0 : H) (n : Nat) (ne me : Nat) (S : Nat → Bool) : H where
  objs id := val (oU recs id) S n (h0.objs id)
  n := ne
  toks := (h0.toks ++ recs.flatMap (fun r => r.h1'.toks)).filter fun t => val (kU recs t) S n (decide (t ∈ h0.toks))
  m := me
theorem val_true_some {u : Nat → Option Bool} {S : Nat → Bool} : ∀ {n : Nat}, val u S n false = true → ∃ i, i < n ∧ u i = some true
  | 0, h => by simp [val] at h
  | n + 1, h => by
    simp only [val] at h
    by_cases hs : S n = true
    · simp only [hs, if_true] at h
      cases hu : u n with
      | none => rw [hu] at h; obtain ⟨i, a, b⟩ := val_true_some (n := n) h; exact ⟨i, by omega, b⟩
      | some y => rw [hu] at h; simp at h; subst h; exact ⟨n, by omega, hu⟩
    · simp only [hs, if_false, Bool.false_eq_true] at h
      obtain ⟨i, a, b⟩ := val_true_some (n := n) h; exact ⟨i, by omega, b⟩
theorem mem_HS {recs : List Rec} {h0 : H} {n ne me : Nat} {S : Nat → Bool} (hn : n = recs.length) (t : Nat) : t ∈ (HS recs h0 n ne me S).toks ↔ val (kU recs t) S n (decide (t ∈ h0.toks)) = true := by
  simp only [HS, List.mem_filter, List.mem_append, List.mem_flatMap]
  refine ⟨fun h => h.2, fun h => ⟨?_, h⟩⟩
  by_cases h0t : t ∈ h0.toks
  · exact .inl h0t
  · rw [decide_eq_false h0t] at h
    obtain ⟨i, hi, hu⟩ := val_true_some h
    rw [hn] at hi
    refine .inr ⟨recs[i], List.getElem_mem hi, ?_⟩
    simp only [kU, List.getD, List.getElem?_eq_getElem hi, Option.getD_some] at hu
    split at hu
    · simpa using hu
    · cases hu
def count (n : Nat) (S : Nat → Bool) : Nat := ((List.range n).filter fun k => !S k).length
theorem count_insert {n i : Nat} {S S' : Nat → Bool} (hS : S i = false) (hS' : ∀ k, S' k = (S k || k == i)) (hi : i < n) : count n S' + 1 = count n S := by
  unfold count
  induction n with
  | zero => omega
  | succ n ih =>
    simp only [List.range_succ, List.filter_append, List.length_append]
    by_cases e : n = i
    · subst e
      have : (List.range n).filter (fun k => !S' k) = (List.range n).filter (fun k => !S k) := by
        apply List.filter_congr
        intro k hk
        have : (k == n) = false := by simp at hk ⊢; omega
        simp [hS', this]
      rw [this]
      simp [hS', hS]
    · have := ih (by omega)
      have en : (n == i) = false := by simp; exact e
      have e2 : ([n].filter fun k => !S' k) = [n].filter fun k => !S k := by simp [List.filter_cons, hS', en]
      rw [e2]
      omega
theorem count_zero {n : Nat} {S : Nat → Bool} (h : count n S = 0) : ∀ k, k < n → S k = true := by
  intro k hk
  unfold count at h
  rw [List.length_eq_zero_iff, List.filter_eq_nil_iff] at h
  simpa using h k (by simpa using hk)
theorem ready_iff (ops : Array Oper) (listed : Array Bool) (T : Tidy ops) {i : Nat} {o : Oper} (ho : ops[i]? = some o) : i ∈ Region.ready .any ops listed ↔ listed.getD i true = false ∧ ∀ e ∈ o.after, Region.binds .any e = true → listed.getD e.on false = true := by
  have hi : i < ops.size := (Array.getElem?_eq_some_iff.1 ho).1
  simp only [Region.ready, List.mem_filter, List.mem_range, hi, true_and, ho, Option.map_some, Option.getD_some, Bool.and_eq_true, Bool.not_eq_true']
  refine and_congr_right fun _ => ?_
  rw [Array.all_eq_true_iff_forall_mem]
  constructor
  · intro h e he hb
    have := h e he
    simpa [hb] using this
  · intro h e he
    cases hb : Region.binds .any e with
    | false => rfl
    | true => simp [h e he hb]
theorem anc_lt (T : Tidy ops) {k : Nat} : ∀ (q : Nat) oq, ops[q]? = some oq → isAnc ops k q = true → k < q := by
  intro q
  induction q using Nat.strongRecOn with
  | _ q ihq =>
    intro oq hoq hq'
    obtain ⟨e, hm, hbd, hh⟩ := T.anc q oq hoq k hq'
    have hb := T.back q oq hoq e hm hbd
    rcases hh with rfl | hh
    · exact hb
    · have hsz : e.on < ops.size := Nat.lt_trans hb (Array.getElem?_eq_some_iff.1 hoq).1
      exact Nat.lt_trans (ihq e.on hb _ (Array.getElem?_eq_getElem hsz) hh) hb
theorem chain_any (ro : Option Nat) {N : Nat} {Q : Exit → Act → World → Prop} (hN : ∀ (i : Nat) o d, ops[i]? = some o → o.dst = some d → d < N) (T : Tidy ops) {recs : List Rec} {t0 t' : Tm} {h0 h' : H} (hc : Chain P ops 0 recs t0 h0 t' h')
    (ap : ∀ i j, i < j → j < ops.size → isAnc ops i j = false → apart (recs.getD i rec0).en (recs.getD j rec0).en)
    {G0 : Ghost} {w0 : World} {a0 : Act} (R0 : RepH G0 h0 w0) (F0 : Fresh G0 h0 h')
    (hq : ∀ G' w' a', Trans G0 w0 h0 G' w' h' → TRel G' w' t' a' → RepH G' h' w' → a'.tmps.size = N → a'.defers = a0.defers → Q .normal a' w') :
    ∀ (fuel : Nat) (listed : Array Bool) (G : Ghost) (w : World) (a : Act), listed.size = ops.size → count ops.size (fun k => listed.getD k false) ≤ fuel → Closed ops (fun k => listed.getD k false) →
      a.tmps.size = N → a.defers = a0.defers → (∀ d, VRel G w (val (tU ops recs d) (fun k => listed.getD k false) ops.size (t0 d)) (a.tmps.getD d undef)) →
      RepH G (HS recs h0 ops.size h'.n h'.m (fun k => listed.getD k false)) w → Trans G0 w0 h0 G w (HS recs h0 ops.size h'.n h'.m (fun k => listed.getD k false)) →
      (∀ id, G.dom id → G0.dom id ∨ ∃ k, k < ops.size ∧ listed.getD k false = true ∧ (recs.getD k rec0).h1.n ≤ id ∧ id < (recs.getD k rec0).h1'.n) →
      (∀ id, G.tdom id → G0.tdom id ∨ ∃ k, k < ops.size ∧ listed.getD k false = true ∧ (recs.getD k rec0).h1.m ≤ id ∧ id < (recs.getD k rec0).h1'.m) →
      wpAnyIn (rd ro) 0 P .any ops Q fuel listed a w := by
  obtain ⟨a1, a2, a3, a4, a5, a6⟩ := chain_facts hc
  obtain ⟨pre, preEnd⟩ := prefixes hc
  rw [Nat.zero_add] at a1
  -- everything has run
  have full : ∀ (listed : Array Bool) (G : Ghost) (w : World) (a : Act), (∀ k, k < ops.size → listed.getD k false = true) → a.tmps.size = N → a.defers = a0.defers → (∀ d, VRel G w (val (tU ops recs d) (fun k => listed.getD k false) ops.size (t0 d)) (a.tmps.getD d undef)) →
      RepH G (HS recs h0 ops.size h'.n h'.m (fun k => listed.getD k false)) w → Trans G0 w0 h0 G w (HS recs h0 ops.size h'.n h'.m (fun k => listed.getD k false)) → Q .normal a w := by
    intro listed G w a hall hs hd ht R Tr
    have ho : (HS recs h0 ops.size h'.n h'.m (fun k => listed.getD k false)).objs = h'.objs := by
      funext id
      simp only [HS]
      rw [val_congr (S' := fun _ => true) hall, ← preEnd.o]
    have hk : ∀ t, t ∈ (HS recs h0 ops.size h'.n h'.m (fun k => listed.getD k false)).toks ↔ t ∈ h'.toks := by
      intro t
      rw [mem_HS a1.symm, val_congr (S' := fun _ => true) hall, ← preEnd.k]
      simp
    refine hq G w a (Tr.same rfl (fun _ => Iff.rfl) ho.symm (fun t => (hk t).symm) (Nat.le_refl _) (Nat.le_refl _) Tr.n_le (Nat.le_refl _) (Nat.le_refl _) Tr.m_le) ?_ (R.same ho.symm fun t x => (hk t).2 x) hs hd
    intro d
    have := ht d
    rwa [val_congr (S' := fun _ => true) hall, ← preEnd.t] at this
  have noready : ∀ (listed : Array Bool), listed.size = ops.size → Region.ready .any ops listed = [] → ∀ k, k < ops.size → listed.getD k false = true := by
    intro listed hls hr k
    induction k using Nat.strongRecOn with
    | _ k ih =>
      intro hk
      cases hl : listed.getD k false with
      | true => rfl
      | false =>
        exfalso
        have ho := Array.getElem?_eq_getElem hk
        have : k ∈ Region.ready .any ops listed := by
          rw [ready_iff ops listed T ho]
          refine ⟨?_, fun e he hbd => ?_⟩
          · have hk' : k < listed.size := by omega
            simp [hk'] at hl ⊢; exact hl
          · have := T.back k _ ho e he hbd
            exact ih e.on this (by omega)
        rw [hr] at this; cases this
  intro fuel
  induction fuel with
  | zero =>
    intro listed G w a hls hcnt hcl hs hd ht R Tr _ _
    have hall := count_zero (Nat.le_zero.1 hcnt)
    refine ⟨?_, full listed G w a hall hs hd ht R Tr⟩
    rw [List.eq_nil_iff_forall_not_mem]
    intro i hi
    have hlt : i < ops.size := by simp [Region.ready] at hi; exact hi.1
    rw [ready_iff ops listed T (Array.getElem?_eq_getElem hlt)] at hi
    have h1 := hall i hlt
    have h2 := hi.1
    have hk' : i < listed.size := by omega
    simp [hk'] at h1 h2
    rw [h1] at h2; cases h2
  | succ fuel ih =>
    intro listed G w a hls hcnt hcl hs hd ht R Tr hdom htdom
    refine ⟨fun hr => full listed G w a (noready listed hls hr) hs hd ht R Tr, fun i hi => ?_⟩
    have hlt : i < ops.size := by simp [Region.ready] at hi; exact hi.1
    have ho := Array.getElem?_eq_getElem hlt
    have hltr : i < recs.length := by omega
    have hr := List.getElem?_eq_getElem hltr
    obtain ⟨o', ho', tc, run⟩ := a2 i _ hr
    rw [Nat.zero_add] at ho' run
    obtain rfl : ops[i] = o' := Option.some.inj (ho.symm.trans ho')
    rw [ready_iff ops listed T ho] at hi
    obtain ⟨hli, hedges⟩ := hi
    have hil : i < listed.size := by omega
    have hSi : listed.getD i false = false := by simp [hil] at hli ⊢; exact hli
    have hgr : recs.getD i rec0 = recs[i] := by simp [List.getD, hr]
    generalize hrr : recs[i] = r at *
    have p := pre i r hr
    -- who runs before though the text has it behind, or has not run though the text has it ahead, is not ordered
    have ancS := anc_in T hcl i _ ho hedges
    have late : ∀ k, i < k → k < ops.size → listed.getD k false = true → isAnc ops i k = false := by
      intro k h1 h2 h3
      cases hb : isAnc ops i k with
      | false => rfl
      | true =>
        have := anc_in T hcl k _ (Array.getElem?_eq_getElem h2) (hcl k _ (Array.getElem?_eq_getElem h2) h3) i hb
        rw [hSi] at this; cases this
    have early : ∀ k, k < i → listed.getD k false = false → isAnc ops k i = false := by
      intro k h1 h3
      cases hb : isAnc ops k i with
      | false => rfl
      | true => rw [ancS k hb] at h3; cases h3
    have apI : ∀ k, k < ops.size → ((k < i ∧ listed.getD k false = false) ∨ (i < k ∧ listed.getD k false = true)) → apart (recs.getD k rec0).en r.en := by
      intro k hk h
      rcases h with ⟨h1, h2⟩ | ⟨h1, h2⟩
      · have := ap k i h1 hlt (early k h1 h2); rwa [hgr] at this
      · have := (ap i k h1 hk (late k h1 hk h2)).symm; rwa [hgr] at this
    -- objects
    have hobj : ∀ id, id ∈ r.en.rd ∨ id ∈ r.en.wr → (HS recs h0 ops.size h'.n h'.m (fun k => listed.getD k false)).objs id = r.h.objs id := by
      intro id hid
      simp only [HS]
      rw [p.o]
      have none_of : ∀ k, k < ops.size → ((k < i ∧ listed.getD k false = false) ∨ (i < k ∧ listed.getD k false = true)) → oU recs id k = none := by
        intro k hk h
        have hap := apI k hk h
        simp only [oU]
        rw [if_neg]
        rintro ⟨_, hw⟩
        have := hap.1 id hw
        rcases hid with h | h
        · exact this.1 h
        · exact this.2 h
      refine val_prefix (fun k h1 h2 => none_of k (by omega) (.inl ⟨h1, h2⟩)) (Nat.le_of_lt hlt) fun k h1 h2 h3 => ?_
      rcases Nat.lt_or_ge i k with h | h
      · exact none_of k h2 (.inr ⟨h, h3⟩)
      · have : k = i := by omega
        subst this
        rw [hSi] at h3; cases h3
    have htok : ∀ t, t ∈ r.en.tk → (t ∈ (HS recs h0 ops.size h'.n h'.m (fun k => listed.getD k false)).toks ↔ t ∈ r.h.toks) := by
      intro t hid
      rw [mem_HS a1.symm]
      have none_of : ∀ k, k < ops.size → ((k < i ∧ listed.getD k false = false) ∨ (i < k ∧ listed.getD k false = true)) → kU recs t k = none := by
        intro k hk h
        have hap := apI k hk h
        have hkr : k < recs.length := by omega
        obtain ⟨ok, _, tck, _⟩ := a2 k _ (List.getElem?_eq_getElem hkr)
        have hgk : recs.getD k rec0 = recs[k] := by simp [List.getD, List.getElem?_eq_getElem hkr]
        rw [hgk] at hap
        simp only [kU, hgk]
        rw [if_neg]
        rintro (hw | hw)
        · exact hap.2.2 t (tck.tk t hw) hid
        · exact hap.2.2 t (tck.tn t hw) hid
      have := val_prefix (u := kU recs t) (S := fun k => listed.getD k false) (v := decide (t ∈ h0.toks)) (fun k h1 h2 => none_of k (by omega) (.inl ⟨h1, h2⟩)) (Nat.le_of_lt hlt) fun k h1 h2 h3 => by
        rcases Nat.lt_or_ge i k with h | h
        · exact none_of k h2 (.inr ⟨h, h3⟩)
        · have : k = i := by omega
          subst this
          rw [hSi] at h3; cases h3
      rw [this, ← p.k]; simp
    have htmp : ∀ d, d ∈ names ops ops[i] → val (tU ops recs d) (fun k => listed.getD k false) ops.size (t0 d) = r.t d := by
      intro d hdn
      rw [p.t]
      have none_of : ∀ k, k < ops.size → ((k < i ∧ listed.getD k false = false) ∨ (i < k ∧ listed.getD k false = true)) → tU ops recs d k = none := by
        intro k hk h
        simp only [tU]
        rw [if_neg]
        intro hdst
        rw [Array.getElem?_eq_getElem hk] at hdst
        have hne : k ≠ i := by omega
        rcases T.tmp k i _ _ (Array.getElem?_eq_getElem hk) ho hne d hdst hdn with hx | hx
        · rcases h with ⟨h1, h2⟩ | ⟨h1, h2⟩
          · rw [early k h1 h2] at hx; cases hx
          · -- k stands before i through the edges, and yet behind it in the text
            have := ancS k hx
            have := anc_lt T i _ ho hx
            omega
        · rcases h with ⟨h1, h2⟩ | ⟨h1, h2⟩
          · have := anc_lt T k _ (Array.getElem?_eq_getElem hk) hx
            omega
          · rw [late k h1 hk h2] at hx; cases hx
      refine val_prefix (fun k h1 h2 => none_of k (by omega) (.inl ⟨h1, h2⟩)) (Nat.le_of_lt hlt) fun k h1 h2 h3 => ?_
      rcases Nat.lt_or_ge i k with h | h
      · exact none_of k h2 (.inr ⟨h, h3⟩)
      · have : k = i := by omega
        subst this
        rw [hSi] at h3; cases h3
    obtain ⟨-, nm2, nm3⟩ := chain_nm hc
    have F : Fresh G r.h1 r.h1' := by
      obtain ⟨⟨b1, b2⟩, b3, b4⟩ := nm2 i r hr
      constructor
      · intro id c1 c2 hd'
        rcases hdom id hd' with hd' | ⟨k, hk, hSk, d1, d2⟩
        · exact F0.1 id (by omega) (by omega) hd'
        · have hkr : k < recs.length := by omega
          have hgk : recs.getD k rec0 = recs[k] := by simp [List.getD, List.getElem?_eq_getElem hkr]
          rw [hgk] at d1 d2
          rcases Nat.lt_trichotomy k i with h | h | h
          · have := (nm3 k i _ _ h (List.getElem?_eq_getElem hkr) hr).1; omega
          · subst h; rw [hSi] at hSk; cases hSk
          · have := (nm3 i k _ _ h hr (List.getElem?_eq_getElem hkr)).1; omega
      · intro id c1 c2 hd'
        rcases htdom id hd' with hd' | ⟨k, hk, hSk, d1, d2⟩
        · exact F0.2 id (by omega) (by omega) hd'
        · have hkr : k < recs.length := by omega
          have hgk : recs.getD k rec0 = recs[k] := by simp [List.getD, List.getElem?_eq_getElem hkr]
          rw [hgk] at d1 d2
          rcases Nat.lt_trichotomy k i with h | h | h
          · have := (nm3 k i _ _ h (List.getElem?_eq_getElem hkr) hr).2; omega
          · subst h; rw [hSi] at hSk; cases hSk
          · have := (nm3 i k _ _ h hr (List.getElem?_eq_getElem hkr)).2; omega
    generalize hSdef : (fun k => listed.getD k false) = S at *
    have hSk : ∀ k, listed.getD k false = S k := fun k => by rw [← hSdef]
    let HSi : H := { HS recs h0 ops.size h'.n h'.m S with n := r.h.n, m := r.h.m }
    have Ri : RepH G HSi w := R.same rfl fun _ x => x
    have hsub : r.h1.sub HSi := by
      refine ⟨fun j o hj => ?_, fun t ht' => ?_⟩
      · show (HS recs h0 ops.size h'.n h'.m S).objs j = some o
        rw [hobj j (tc.rd j (by rw [hj]; rfl))]
        exact tc.sub.1 j o hj
      · show t ∈ (HS recs h0 ops.size h'.n h'.m S).toks
        rw [htok t (tc.tk t ht')]
        exact tc.sub.2 t ht'
    refine run G w a (fun d hd' => by rw [← htmp d hd']; exact ht d) (Ri.sub hsub) F _ Q (fun G' w' v T1 R1 V => ?_) ro
    obtain ⟨R2, T2⟩ := frame Ri hsub tc.n tc.m R1 T1 F
    -- the set, with i
    have hS' : ∀ k, (listed.setIfInBounds i true).getD k false = (S k || k == i) := by
      intro k
      rw [← hSk]
      by_cases e : k = i
      · subst e; simp [hil]
      · simp [Array.getElem?_setIfInBounds, Ne.symm e, e]
    generalize hSdef' : (fun k => (listed.setIfInBounds i true).getD k false) = S' at *
    have hS2 : ∀ k, S' k = (S k || k == i) := fun k => by rw [← hSdef']; exact hS' k
    have hSi' : S i = false := by rw [← hSk]; exact hSi
    have apJ : ∀ j, i < j → j < ops.size → S j = true → apart (recs.getD j rec0).en r.en := fun j h1 h2 h3 => apI j h2 (.inr ⟨h1, (hSk j).trans h3⟩)
    have eobj : ∀ id, (HS recs h0 ops.size h'.n h'.m S').objs id = (HSi.patch r.h1 r.h1').objs id := by
      intro id
      have hv := val_insert (u := oU recs id) (v := h0.objs id) hSi' hS2 hlt (fun j h1 h2 h3 hne => by
        have hap := apJ j h1 h2 h3
        simp only [oU]
        rw [if_neg]
        rintro ⟨_, hw⟩
        apply hne
        simp only [oU, hgr]
        rw [if_neg]
        rintro ⟨_, hw'⟩
        exact (hap.1 id hw).2 hw')
      show val (oU recs id) S' ops.size (h0.objs id) = _
      rw [hv]
      simp only [oU, hgr, H.patch]
      by_cases c : ((r.h1.objs id).isSome ∨ (r.h1.n ≤ id ∧ id < r.h1'.n))
      · by_cases hw : id ∈ r.en.wr
        · simp [c, hw]
        · simp only [c, hw, and_false, if_false, if_true, Option.getD_none]
          have hs : (r.h1.objs id).isSome := by
            rcases c with c | c
            · exact c
            · exact absurd (tc.wr id c.1 c.2) hw
          rw [tc.chg id hs hw]
          show (HS recs h0 ops.size h'.n h'.m S).objs id = _
          rw [hobj id (tc.rd id hs)]
          obtain ⟨o, hoo⟩ := Option.isSome_iff_exists.1 hs
          rw [hoo]; exact tc.sub.1 id o hoo
      · simp only [c, false_and, if_false, Option.getD_none]
        rfl
    have etok : ∀ tk, tk ∈ (HS recs h0 ops.size h'.n h'.m S').toks ↔ tk ∈ (HSi.patch r.h1 r.h1').toks := by
      intro tk
      have hv := val_insert (u := kU recs tk) (v := decide (tk ∈ h0.toks)) hSi' hS2 hlt (fun j h1 h2 h3 hne => by
        have hap := apJ j h1 h2 h3
        have hjr : j < recs.length := by omega
        obtain ⟨ok, _, tck, _⟩ := a2 j _ (List.getElem?_eq_getElem hjr)
        have hgk : recs.getD j rec0 = recs[j] := by simp [List.getD, List.getElem?_eq_getElem hjr]
        rw [hgk] at hap
        simp only [kU, hgk]
        rw [if_neg]
        intro hw
        apply hne
        simp only [kU, hgr]
        rw [if_neg]
        intro hw'
        have h1 : tk ∈ recs[j].en.tk := hw.elim (tck.tk tk) (tck.tn tk)
        have h2 : tk ∈ r.en.tk := hw'.elim (tc.tk tk) (tc.tn tk)
        exact hap.2.2 tk h1 h2)
      rw [mem_HS a1.symm, hv]
      have hm := mem_HS (recs := recs) (h0 := h0) (ne := h'.n) (me := h'.m) (S := S) a1.symm tk
      simp only [H.patch, List.mem_append, List.mem_filter]
      simp only [kU, hgr]
      by_cases c : tk ∈ r.h1.toks ∨ tk ∈ r.h1'.toks
      · rw [if_pos c]
        simp only [Option.getD_some, decide_eq_true_eq]
        constructor
        · exact .inl
        · rintro (h | ⟨h1, h2⟩)
          · exact h
          · exact c.resolve_left (by simpa using h2)
      · rw [if_neg c]
        simp only [Option.getD_none]
        rw [← hm]
        simp only [not_or] at c
        constructor
        · intro h; exact .inr ⟨h, by simpa using c.1⟩
        · rintro (h | h)
          · exact absurd h c.2
          · exact h.1
    have nmi := nm2 i r hr
    have n0 := tc.n
    have m0 := tc.m
    have le0 := tc.le
    have lem0 := tc.lem
    have hle := Tr.n_le
    have hlem := Tr.m_le
    simp only [HS] at hle hlem
    have T3 : Trans G w { HS recs h0 ops.size h'.n h'.m S with n := h0.n, m := h0.m } G' w' (HS recs h0 ops.size h'.n h'.m S') :=
      T2.same rfl (fun _ => Iff.rfl) (funext eobj) etok (by show h0.n ≤ r.h.n; omega) (by show r.h1'.n ≤ h'.n; omega) hle (by show h0.m ≤ r.h.m; omega) (by show r.h1'.m ≤ h'.m; omega) hlem
    have T4 := Tr.trans' (h'' := HS recs h0 ops.size h'.n h'.m S') (h2 := { HS recs h0 ops.size h'.n h'.m S with n := h0.n, m := h0.m }) R0 rfl (fun _ => Iff.rfl) (Nat.le_refl _) (Nat.le_refl _) hle (Nat.le_refl _) (Nat.le_refl _) hlem R T3
    have tset : ∀ d, val (tU ops recs d) S' ops.size (t0 d) = putT (fun d => val (tU ops recs d) S ops.size (t0 d)) ops[i].dst r.x d := by
      intro d
      have hv := val_insert (u := tU ops recs d) (v := t0 d) hSi' hS2 hlt (fun j h1 h2 h3 hne => by
        simp only [tU]
        rw [if_neg]
        intro hdj
        apply hne
        simp only [tU]
        rw [if_neg]
        intro hdi
        rw [ho] at hdi
        rw [Array.getElem?_eq_getElem h2] at hdj
        rcases T.tmp i j _ _ ho (Array.getElem?_eq_getElem h2) (by omega) d hdi (by simp only [names, List.mem_append]; left; left; rw [show ops[j].dst = some d from hdj]; simp) with hx | hx
        · rw [late j h1 h2 ((hSk j).trans h3)] at hx; cases hx
        · have := anc_lt T i _ ho hx; omega)
      rw [hv]
      simp only [tU, ho, Option.bind_some, hgr]
      cases hd' : ops[i].dst with
      | none => simp [putT]
      | some k =>
        simp only [putT, upd]
        by_cases e : d = k
        · subst e; simp
        · rw [if_neg e, if_neg (by simpa using Ne.symm e)]; rfl
    have hput : TRel G' w' (putT (fun d => val (tU ops recs d) S ops.size (t0 d)) ops[i].dst r.x) (a.put ops[i].dst v) :=
      put_rel (TRel.mono Ri T2 ht) V fun k hk => by rw [hs]; exact hN i _ k ho hk
    refine ih (listed.setIfInBounds i true) G' w' _ (by simpa using hls) ?_ ?_ (by rw [put_size]; exact hs) (by rw [put_defers]; exact hd) ?_ ?_ ?_ ?_ ?_
    · rw [hSdef']
      have := count_insert hSi' hS2 hlt
      omega
    · rw [hSdef']
      intro j oj hoj hj e he hbd
      rw [hS2] at hj ⊢
      by_cases ej : j = i
      · subst ej
        obtain rfl : ops[j] = oj := Option.some.inj (ho.symm.trans hoj)
        rw [← hSk, hedges e he hbd]; rfl
      · have : S j = true := by simpa [ej] using hj
        rw [hcl j oj hoj this e he hbd]; rfl
    · rw [hSdef']
      intro d
      rw [tset d]; exact hput d
    · rw [hSdef']
      exact R2.same (funext eobj) fun t x => (etok t).1 x
    · rw [hSdef']; exact T4
    · intro id hd'
      rcases T1.dom_new id hd' with h | h
      · rcases hdom id h with h | ⟨k, h1, h2, h3⟩
        · exact .inl h
        · exact .inr ⟨k, h1, by rw [hS', ← hSk, h2]; rfl, h3⟩
      · exact .inr ⟨i, hlt, by rw [hS']; simp, by rw [hgr]; exact h⟩
    · intro id hd'
      rcases T1.tdom_new id hd' with h | h
      · rcases htdom id h with h | ⟨k, h1, h2, h3⟩
        · exact .inl h
        · exact .inr ⟨k, h1, by rw [hS', ← hSk, h2]; rfl, h3⟩
      · exact .inr ⟨i, hlt, by rw [hS']; simp, by rw [hgr]; exact h⟩
end
end Go.Av
end
section
set_option linter.unusedVariables false
set_option linter.unusedSimpArgs false
namespace Go.Av
structure AItem where
  dst : Option Nat
  guard : Option (Nat × Bool)
  op : AOp
inductive AC where
  | skip
  | reg (items : List AItem) (pairs : Option (List (Nat × Nat)))
  | seq (a b : AC)
  | cond (c : Opd) (a b : AC)
  | block (id : Nat) (a : AC)
  | loop (a : AC)
  | exit (id : Nat)
  | ret
  | scope (a : AC)
  | label (l : Nat)
  | goto (l : Nat)
  | rfun (g : Opd) (ps : List Nat) (asg body : AC)
def opdsOf : AOp → List Opd
  | .mov x | .box x | .eqN _ x | .un _ x | .conv _ x | .load _ x | .faddr _ x | .fld _ _ x | .ext x _ | .nilck x | .len _ x | .clr _ _ x | .mlen x | .eqM _ x | .cap x | .ifc _ x | .pan x => [x]
  | .pick a b c | .mput a b c => [a, b, c]
  | .alloc _ | .mkmap | .dead => []
  | .build _ parts => parts.map fun p => p.2.2
  | .buildSl _ parts => parts
  | .store _ x y | .bin _ x y | .eqB _ x y | .eqA _ _ x y | .mm _ x y | .mlook _ _ x y | .mdel x y | .eqP _ x y | .eqQ _ x y | .iaddr _ x y | .idx x y | .mksl _ _ _ x y | .app _ _ _ x y | .appz _ _ _ x y => [x, y]
  | .mkfn _ a b => a ++ b
  | .slc _ _ x a b c => x :: (a.toList ++ b.toList ++ c.toList)
  | .call _ l => l
  | .callv x l => x :: l
def tmpsOf (l : List Opd) : List Nat := l.filterMap fun | .t i => some i | _ => none
def cGuard (ops : Array Oper) : Option (Nat × Bool) → Option (Option (Nat × Bool))
  | none => some none
  | some (j, w) => match (ops[j]?).bind (·.dst) with
    | some d => some (some (d, w))
    | none => none
def cOpD (P : Program) (o : Oper) : Option AOp := some ((cOp P o).getD .dead)
theorem cOpD_of {P : Program} {o : Oper} {op : AOp} (h : cOpD P o = some op) (hn : op ≠ .dead) : cOp P o = some op := by
  simp only [cOpD, Option.some.injEq] at h
  cases hc : cOp P o with
  | none => rw [hc] at h; exact absurd h.symm hn
  | some q => rw [hc] at h; simp at h; rw [h]
def cItem (P : Program) (N : Nat) (ops : Array Oper) (o : Oper) : Option AItem :=
  match cOpD P o, cGuard ops o.guard with
  | some op, some g => if o.dst.all (fun d => decide (d < N)) && (tmpsOf (opdsOf op)).all (fun i => (names ops o).contains i) then some ⟨o.dst, g, op⟩ else none
  | _, _ => none
def cItems (P : Program) (N : Nat) (ops : Array Oper) : List Oper → Option (List AItem)
  | [] => some []
  | o :: l => match cItem P N ops o, cItems P N ops l with
    | some a, some r => some (a :: r)
    | _, _ => none
def touchy : AOp → Bool
  | .alloc _ | .box _ | .load _ _ | .store _ _ _ | .conv .s2b _ | .conv .s2s _ | .mksl _ _ _ _ _ | .app _ _ _ _ _ | .appz _ _ _ _ _ | .clr _ _ _ | .mkmap | .mlook _ _ _ _ | .mput _ _ _ | .mdel _ _ | .mlen _ | .eqQ _ _ _ | .buildSl _ _ | .call _ _ | .callv _ _ => true
  | _ => false
def tidy (ops : Array Oper) : Bool :=
  let b := Region.before ops
  let l := ops.toList.zipIdx
  (l.all fun (o, i) => o.after.all fun e => !Region.binds .any e || decide (e.on < i)) &&
  l.all fun (o, i) => match o.dst with
    | none => true
    | some d => l.all fun (o', j) => i == j || !(names ops o').contains d || (b.getD j 0).testBit i || (b.getD i 0).testBit j
def pairsOf (ops : Array Oper) (items : List AItem) : List (Nat × Nat) :=
  let b := Region.before ops
  (List.range ops.size).flatMap fun j => (List.range j).filterMap fun i =>
    if (match items[i]?, items[j]? with | some x, some y => touchy x.op && touchy y.op | _, _ => false) && !(b.getD j 0).testBit i then some (i, j) else none
def noRF : Code → Bool
  | .rangeFunc _ _ _ _ => false
  | .seq a b => noRF a && noRF b
  | .cond _ a b => noRF a && noRF b
  | .block _ a => noRF a
  | .loop a => noRF a
  | .scope a => noRF a
  | _ => true
def okR (c : Code) (ro : Option Nat) : Prop := ro = none ∨ noRF c = true
def cCode (P : Program) (N : Nat) : Code → Option AC
  | .skip => some .skip
  | .region _ ops draw => match cItems P N ops ops.toList with
    | some items => if draw then (if P.follows .mixedOrders && tidy ops then some (.reg items (some (pairsOf ops items))) else none) else some (.reg items none)
    | none => none
  | .seq a b => match cCode P N a, cCode P N b with
    | some x, some y => some (.seq x y)
    | _, _ => none
  | .cond c a b => match opd P 0 c, cCode P N a, cCode P N b with
    | some c, some x, some y => some (.cond c x y)
    | _, _, _ => none
  | .block id a => (cCode P N a).map (.block id)
  | .loop a => (cCode P N a).map .loop
  | .exit id => some (.exit id)
  | .ret => some .ret
  | .scope a => (cCode P N a).map .scope
  | .label l => some (.label l)
  | .goto l => some (.goto l)
  | .rangeFunc g ps asg body => match opd P 0 g, cCode P N asg, cCode P N body with
    | some g, some x, some y => if noRF asg && noRF body then some (.rfun g ps.toList x y) else none
    | _, _, _ => none
  | .refuse _ => none
def VSub (x y : AV) : Prop := ∀ G w v, VRel G w x v → VRel G w y v
theorem VSub.refl (x : AV) : VSub x x := fun _ _ _ h => h
theorem VSub.trans {x y z : AV} (a : VSub x y) (b : VSub y z) : VSub x z := fun G w v h => b G w v (a G w v h)
theorem VSub.any (x : AV) : VSub x .any := fun _ _ _ _ => by simp [VRel]
def VSubs (l m : List AV) : Prop := ∀ G w vs, VRels G w l vs → VRels G w m vs
theorem VSubs.refl (l : List AV) : VSubs l l := fun _ _ _ h => h
theorem VSubs.nil : VSubs [] [] := VSubs.refl _
theorem VSubs.cons {x y : AV} {l m : List AV} (a : VSub x y) (b : VSubs l m) : VSubs (x :: l) (y :: m) := by
  intro G w vs h
  simp only [VRels] at h ⊢
  obtain ⟨v, us, e, h1, h2⟩ := h
  exact ⟨v, us, e, a G w v h1, b G w us h2⟩
theorem VSub.cap {sz : Nat} {xs : List AV} {c : Cap} : VSub (.sl sz xs c) (.sl sz xs .any) := by
  intro G w v h
  simp only [VRel] at h ⊢
  rcases h with ⟨a, b, _⟩ | ⟨B, off, C, vs, h1, h2, h3, h4, h5, h6⟩
  · exact .inl ⟨a, b, by simp [CapNil]⟩
  · exact .inr ⟨B, off, C, vs, h1, h2, h3, h4, h5, by simp [CapOk]⟩
theorem VSub.nil {sz sz' : Nat} {c : Cap} : VSub (.sl sz [] c) (.sl sz' [] .any) := by
  intro G w v h
  simp only [VRel] at h ⊢
  rcases h with ⟨a, b, _⟩ | ⟨B, off, C, vs, h1, h2, h3, h4, h5, h6⟩
  · exact .inl ⟨a, b, by simp [CapNil]⟩
  · have hv : vs = [] := by simpa using h3
    subst hv
    exact .inr ⟨B, off, C, [], h1, h2, by simp, by simp [VElems], Imm.nil, by simp [CapOk]⟩
theorem VSub.agg {l m : List AV} (a : VSubs l m) : VSub (.agg l) (.agg m) := by
  intro G w v h
  simp only [VRel] at h ⊢
  obtain ⟨vs, e, h⟩ := h
  exact ⟨vs, e, a G w vs h⟩
theorem VSub.tup {l m : List AV} (a : VSubs l m) : VSub (.tup l) (.tup m) := by
  intro G w v h
  simp only [VRel] at h ⊢
  obtain ⟨vs, e, h⟩ := h
  exact ⟨vs, e, a G w vs h⟩
section
variable {P : Program}
def ACalls (P : Program) (f : FuncId) (args : List AV) (h : H) (r : AV) (h' : H) : Prop :=
  ∀ G w vs, VRels G w args vs → RepH G h w → Fresh G h h' → Calls P f vs.toArray w fun e w' => ∃ v G', e = .returned v ∧ Trans G w h G' w' h' ∧ RepH G' h' w' ∧ VRel G' w' r v
def H0 (n m : Nat) : H := .only none' [] n m
def PCalls (P : Program) (f : FuncId) (args : List AV) (r : AV) : Prop := ∀ n m, ACalls P f args (H0 n m) r (H0 n m)
structure St where
  t : Tm
  h : H
inductive AExit where
  | normal
  | exit (id : Nat)
  | goto (l : Nat)
  | ret
  | panic (v : Value)
def AExit.says : AExit → Exit → Prop
  | .normal, .normal => True
  | .exit i, .exit j => i = j
  | .goto i, .goto j => i = j
  | .ret, .ret => True
  | .panic v, .panic l => l = [{ v := v, recovered := false }]
  | _, _ => False
def Marks (G : Ghost) (w : World) (h : H) (l : List Deferred) : Prop := l.Nodup ∧ ∀ d ∈ l, ∃ D, d = { target := .collected D, args := #[] } ∧ w.heap[D]? = some (.deferred (some [])) ∧ ¬ h.O G D ∧ ¬ h.T G D
theorem heap_lt {w : World} {B : Nat} {o : Go.Obj} (h : w.heap[B]? = some o) : B < w.heap.size := by
  rcases Nat.lt_or_ge B w.heap.size with hb | hb
  · exact hb
  · have : w.heap[B]? = none := by simp; omega
    rw [this] at h; cases h
theorem Marks.mono {G G' : Ghost} {w w' : World} {h h' : H} {l : List Deferred} (m : Marks G w h l) (T : Trans G w h G' w' h') : Marks G' w' h' l := by
  refine ⟨m.1, fun d hd => ?_⟩
  obtain ⟨D, e, h1, h2, h3⟩ := m.2 d hd
  have hB := heap_lt h1
  exact ⟨D, e, (T.keep D hB h2 h3).trans h1, fun x => h2 (T.O_new D hB x), fun x => h3 (T.T_new D hB x)⟩
structure Rel (N : Nat) (s : St) (G : Ghost) (w : World) (a : Act) : Prop where
  size : a.tmps.size = N
  t : TRel G w s.t a
  h : RepH G s.h w
  df : Marks G w s.h a.defers
def NewM (w : World) (l l' : List Deferred) : Prop := ∀ d ∈ l', d ∈ l ∨ ∃ D, w.heap.size ≤ D ∧ d = { target := .collected D, args := #[] }
theorem NewM.refl {w : World} {l : List Deferred} : NewM w l l := fun d h => .inl h
theorem NewM.trans {w w' : World} {l l' l'' : List Deferred} (a : NewM w l l') (hs : w.heap.size ≤ w'.heap.size) (b : NewM w' l' l'') : NewM w l l'' := by
  intro d h
  rcases b d h with h | ⟨D, h1, h2⟩
  · exact a d h
  · exact .inr ⟨D, by omega, h2⟩
def Run (P : Program) (N : Nat) (c : Code) (s : St) (e : AExit) (s' : St) : Prop :=
  (s.h.n ≤ s'.h.n ∧ s.h.m ≤ s'.h.m) ∧ ∀ ro, okR c ro → ∀ G w a, Rel N s G w a → Fresh G s.h s'.h → c.wpIn (rd ro) 0 P (fun e' a' w' => e.says e' ∧ NewM w a.defers a'.defers ∧ ∃ G', Trans G w s.h G' w' s'.h ∧ Rel N s' G' w' a') a w
def Wp (P : Program) (N : Nat) (c : AC) (s : St) (Q : AExit → St → Prop) : Prop :=
  ∀ code, cCode P N code = some c → ∃ e s', Run P N code s e s' ∧ Q e s'
variable {N : Nat} {s : St} {Q : AExit → St → Prop}
theorem okR.seq {a b : Code} {ro : Option Nat} (h : okR (.seq a b) ro) : okR a ro ∧ okR b ro := by
  rcases h with h | h
  · exact ⟨.inl h, .inl h⟩
  · simp only [noRF, Bool.and_eq_true] at h
    exact ⟨.inr h.1, .inr h.2⟩
theorem okR.cond {z : Operand} {a b : Code} {ro : Option Nat} (h : okR (.cond z a b) ro) (c : Bool) : okR (if c then a else b) ro := by
  rcases h with h | h
  · exact .inl h
  · simp only [noRF, Bool.and_eq_true] at h
    cases c
    · exact .inr h.2
    · exact .inr h.1
theorem okR.block {id : Nat} {a : Code} {ro : Option Nat} (h : okR (.block id a) ro) : okR a ro := h
theorem okR.loop {a : Code} {ro : Option Nat} (h : okR (.loop a) ro) : okR a ro := h
theorem okR.scope {a : Code} {ro : Option Nat} (h : okR (.scope a) ro) : okR a ro := h
theorem okR.find {l : Nat} {ro : Option Nat} : ∀ {c rest : Code}, okR c ro → findLabel c l = some rest → okR rest ro := by
  intro c rest h hf
  rcases h with h | h
  · exact .inl h
  · right
    induction c generalizing rest with
    | seq a b iha ihb =>
      simp only [noRF, Bool.and_eq_true] at h
      simp only [findLabel] at hf
      split at hf
      · rename_i r hr
        cases hf
        simp only [noRF, Bool.and_eq_true]
        exact ⟨iha hr h.1, h.2⟩
      · exact ihb hf h.2
    | label l' =>
      simp only [findLabel] at hf
      split at hf
      · cases hf; rfl
      · cases hf
    | _ => simp [findLabel] at hf
theorem Wp.mono {c : AC} {Q' : AExit → St → Prop} (h : Wp P N c s Q) (hq : ∀ e s', Q e s' → Q' e s') : Wp P N c s Q' :=
  fun code hc => let ⟨e, s', r, q⟩ := h code hc; ⟨e, s', r, hq e s' q⟩
theorem code_skip {code : Code} (h : cCode P N code = some .skip) : code = .skip := by
  unfold cCode at h
  split at h <;> (try rfl) <;> (try cases h)
  all_goals (repeat' split at h) <;> (try cases h) <;> simp at h
theorem Wp.skip (h : Q .normal s) : Wp P N .skip s Q := by
  intro code hc
  obtain rfl := code_skip hc
  exact ⟨.normal, s, ⟨⟨Nat.le_refl _, Nat.le_refl _⟩, fun ro okc G w a r _ => wpIn_skip ⟨trivial, .refl, G, Trans.refl _ _ _, r⟩⟩, h⟩
theorem code_exit {code : Code} {id : Nat} (h : cCode P N code = some (.exit id)) : code = .exit id := by
  unfold cCode at h
  split at h <;> (try rfl) <;> (try cases h)
  all_goals (repeat' split at h) <;> (try cases h) <;> (try rfl) <;> simp at h
theorem Wp.exit {id : Nat} (h : Q (.exit id) s) : Wp P N (.exit id) s Q := by
  intro code hc
  obtain rfl := code_exit hc
  exact ⟨.exit id, s, ⟨⟨Nat.le_refl _, Nat.le_refl _⟩, fun ro okc G w a r _ => wpIn_exit ⟨rfl, .refl, G, Trans.refl _ _ _, r⟩⟩, h⟩
theorem code_ret {code : Code} (h : cCode P N code = some .ret) : code = .ret := by
  unfold cCode at h
  split at h <;> (try rfl) <;> (try cases h)
  all_goals (repeat' split at h) <;> (try cases h) <;> (try rfl) <;> simp at h
theorem Wp.ret (h : Q .ret s) : Wp P N .ret s Q := by
  intro code hc
  obtain rfl := code_ret hc
  exact ⟨.ret, s, ⟨⟨Nat.le_refl _, Nat.le_refl _⟩, fun ro okc G w a r _ => wpIn_ret ⟨trivial, .refl, G, Trans.refl _ _ _, r⟩⟩, h⟩
theorem code_seq {code : Code} {x y : AC} (h : cCode P N code = some (.seq x y)) : ∃ a b, code = .seq a b ∧ cCode P N a = some x ∧ cCode P N b = some y := by
  cases code <;> simp only [cCode] at h <;> (try cases h)
  · (repeat' split at h) <;> cases h
  · split at h
    · cases h; exact ⟨_, _, rfl, ‹_›, ‹_›⟩
    · cases h
  · (repeat' split at h) <;> cases h
  all_goals first | (simp at h; done) | ((repeat' split at h) <;> cases h; done)
def AExit.andThen (K : St → Prop) (Q : AExit → St → Prop) : AExit → St → Prop
  | .normal, s => K s
  | e, s => Q e s
theorem Wp.seq {x y : AC} (h : Wp P N x s (AExit.andThen (fun s' => Wp P N y s' Q) Q)) : Wp P N (.seq x y) s Q := by
  intro code hc
  obtain ⟨a, b, rfl, ha, hb⟩ := code_seq hc
  obtain ⟨e, s1, r1, q1⟩ := h a ha
  cases e with
  | normal =>
    obtain ⟨e2, s2, r2, q2⟩ := q1 b hb
    obtain ⟨⟨l1, l2⟩, r1⟩ := r1
    obtain ⟨⟨l3, l4⟩, r2⟩ := r2
    refine ⟨e2, s2, ⟨⟨by omega, by omega⟩, fun ro okc G w ac r F => wpIn_seq (wpIn_mono (r1 ro okc.seq.1 G w ac r (F.sub (Nat.le_refl _) l3 (Nat.le_refl _) l4)) ?_)⟩, q2⟩
    rintro e' a' w' ⟨h1, h2, G', T1, r'⟩
    cases e' <;> simp only [AExit.says] at h1
    refine wpIn_mono (r2 ro okc.seq.2 G' w' a' r' (F.step T1)) ?_
    rintro e'' a'' w'' ⟨k1, k2, G'', T2, r''⟩
    exact ⟨k1, h2.trans T1.size_le k2, G'', T1.trans r.h r'.h T2, r''⟩
  | exit id =>
    refine ⟨.exit id, s1, ⟨r1.1, fun ro okc G w ac r F => wpIn_seq (wpIn_mono (r1.2 ro okc.seq.1 G w ac r F) ?_)⟩, q1⟩
    rintro e' a' w' ⟨h1, h2⟩
    cases e' <;> simp only [AExit.says] at h1
    exact ⟨h1, h2⟩
  | goto l =>
    refine ⟨.goto l, s1, ⟨r1.1, fun ro okc G w ac r F => wpIn_seq (wpIn_mono (r1.2 ro okc.seq.1 G w ac r F) ?_)⟩, q1⟩
    rintro e' a' w' ⟨h1, h2⟩
    cases e' <;> simp only [AExit.says] at h1
    exact ⟨h1, h2⟩
  | ret =>
    refine ⟨.ret, s1, ⟨r1.1, fun ro okc G w ac r F => wpIn_seq (wpIn_mono (r1.2 ro okc.seq.1 G w ac r F) ?_)⟩, q1⟩
    rintro e' a' w' ⟨h1, h2⟩
    cases e' <;> simp only [AExit.says] at h1
    exact ⟨trivial, h2⟩
  | panic v =>
    refine ⟨.panic v, s1, ⟨r1.1, fun ro okc G w ac r F => wpIn_seq (wpIn_mono (r1.2 ro okc.seq.1 G w ac r F) ?_)⟩, q1⟩
    rintro e' a' w' ⟨h1, h2⟩
    cases e' <;> simp only [AExit.says] at h1
    exact ⟨h1, h2⟩
theorem code_cond {code : Code} {c : Opd} {x y : AC} (h : cCode P N code = some (.cond c x y)) : ∃ z a b, code = .cond z a b ∧ opd P 0 z = some c ∧ cCode P N a = some x ∧ cCode P N b = some y := by
  cases code <;> simp only [cCode] at h <;> (try cases h)
  · (repeat' split at h) <;> cases h
  · (repeat' split at h) <;> cases h
  · split at h
    · cases h; exact ⟨_, _, _, rfl, ‹_›, ‹_›, ‹_›⟩
    · cases h
  all_goals first | (simp at h; done) | ((repeat' split at h) <;> cases h; done)
theorem Wp.cond {c : Opd} {x y : AC} {b : Bool} (hb : ev s.t c = .bool b) (h : Wp P N (if b then x else y) s Q) : Wp P N (.cond c x y) s Q := by
  intro code hc
  obtain ⟨z, p, q, rfl, h1, h2, h3⟩ := code_cond hc
  obtain ⟨e, s', r, q⟩ := h (if b then p else q) (by cases b <;> simpa)
  refine ⟨e, s', ⟨r.1, fun ro okc G w a rel F => ?_⟩, q⟩
  have hz : a.eval z = .bool b := by
    have := opd_rel h1 rel.t
    rw [hb] at this
    simpa only [VRel] using this
  exact wpIn_cond hz (by have := r.2 ro (okc.cond b) G w a rel F; cases b <;> exact this)
theorem Wp.cond_true {c : Opd} {x y : AC} (hb : ev s.t c = .bool true) (h : Wp P N x s Q) : Wp P N (.cond c x y) s Q := Wp.cond hb h
theorem Wp.cond_false {c : Opd} {x y : AC} (hb : ev s.t c = .bool false) (h : Wp P N y s Q) : Wp P N (.cond c x y) s Q := Wp.cond hb h
theorem Wp.cond_split {c : Opd} {x y : AC} {b : Bool} (hb : ev s.t c = .bool b) (ht : b = true → Wp P N x s Q) (hf : b = false → Wp P N y s Q) : Wp P N (.cond c x y) s Q := by
  cases b
  · exact Wp.cond hb (hf rfl)
  · exact Wp.cond hb (ht rfl)
def AExit.inBlock (id : Nat) (Q : AExit → St → Prop) : AExit → St → Prop
  | .exit i, s => if i = id then Q .normal s else Q (.exit i) s
  | e, s => Q e s
theorem code_block {code : Code} {id : Nat} {x : AC} (h : cCode P N code = some (.block id x)) : ∃ a, code = .block id a ∧ cCode P N a = some x := by
  cases code <;> simp only [cCode] at h <;> (try cases h)
  · (repeat' split at h) <;> cases h
  · (repeat' split at h) <;> cases h
  · (repeat' split at h) <;> cases h
  · simp only [Option.map_eq_some_iff] at h
    obtain ⟨a, h1, h2⟩ := h
    cases h2
    exact ⟨_, rfl, h1⟩
  all_goals first | (simp at h; done) | ((repeat' split at h) <;> cases h; done)
theorem Wp.block {id : Nat} {x : AC} (h : Wp P N x s (AExit.inBlock id Q)) : Wp P N (.block id x) s Q := by
  intro code hc
  obtain ⟨a, rfl, ha⟩ := code_block hc
  obtain ⟨e, s1, r1, q1⟩ := h a ha
  cases e with
  | normal =>
    refine ⟨.normal, s1, ⟨r1.1, fun ro okc G w ac r F => wpIn_block (wpIn_mono (r1.2 ro okc.block G w ac r F) ?_)⟩, q1⟩
    rintro e' a' w' ⟨h1, h2⟩
    cases e' <;> simp only [AExit.says] at h1
    exact ⟨trivial, h2⟩
  | goto l =>
    refine ⟨.goto l, s1, ⟨r1.1, fun ro okc G w ac r F => wpIn_block (wpIn_mono (r1.2 ro okc.block G w ac r F) ?_)⟩, q1⟩
    rintro e' a' w' ⟨h1, h2⟩
    cases e' <;> simp only [AExit.says] at h1
    exact ⟨h1, h2⟩
  | ret =>
    refine ⟨.ret, s1, ⟨r1.1, fun ro okc G w ac r F => wpIn_block (wpIn_mono (r1.2 ro okc.block G w ac r F) ?_)⟩, q1⟩
    rintro e' a' w' ⟨h1, h2⟩
    cases e' <;> simp only [AExit.says] at h1
    exact ⟨trivial, h2⟩
  | panic v =>
    refine ⟨.panic v, s1, ⟨r1.1, fun ro okc G w ac r F => wpIn_block (wpIn_mono (r1.2 ro okc.block G w ac r F) ?_)⟩, q1⟩
    rintro e' a' w' ⟨h1, h2⟩
    cases e' <;> simp only [AExit.says] at h1
    exact ⟨h1, h2⟩
  | exit i =>
    simp only [AExit.inBlock] at q1
    by_cases hi : i = id
    · rw [if_pos hi] at q1
      refine ⟨.normal, s1, ⟨r1.1, fun ro okc G w ac r F => wpIn_block (wpIn_mono (r1.2 ro okc.block G w ac r F) ?_)⟩, q1⟩
      rintro e' a' w' ⟨h1, h2⟩
      cases e' <;> simp only [AExit.says] at h1
      subst h1
      simp only [Exit.inBlock, hi, if_true]
      exact ⟨trivial, h2⟩
    · rw [if_neg hi] at q1
      refine ⟨.exit i, s1, ⟨r1.1, fun ro okc G w ac r F => wpIn_block (wpIn_mono (r1.2 ro okc.block G w ac r F) ?_)⟩, q1⟩
      rintro e' a' w' ⟨h1, h2⟩
      cases e' <;> simp only [AExit.says] at h1
      subst h1
      simp only [Exit.inBlock, hi, if_false]
      exact ⟨rfl, h2⟩
structure StLe (s s' : St) : Prop where
  n : s.h.n ≤ s'.h.n
  m : s.h.m ≤ s'.h.m
  go : ∀ N G w a, Rel N s G w a → Fresh G s.h s'.h → ∃ G', Trans G w s.h G' w s'.h ∧ Rel N s' G' w a
theorem StLe.refl (s : St) : StLe s s := ⟨Nat.le_refl _, Nat.le_refl _, fun N G w a r _ => ⟨G, Trans.refl _ _ _, r⟩⟩
theorem StLe.trans {s s' s'' : St} (a : StLe s s') (b : StLe s' s'') : StLe s s'' := by
  refine ⟨Nat.le_trans a.n b.n, Nat.le_trans a.m b.m, fun N G w ac r F => ?_⟩
  obtain ⟨G1, T1, r1⟩ := a.go N G w ac r (F.sub (Nat.le_refl _) b.n (Nat.le_refl _) b.m)
  obtain ⟨G2, T2, r2⟩ := b.go N G1 w ac r1 (F.step T1)
  exact ⟨G2, T1.trans r.h r1.h T2, r2⟩
def OSub : Obj → Obj → Prop
  | .cells cs, .cells cs' => VSubs cs cs'
  | .map es, .map es' => es = es'
  | .loop N t ps a b st p, o' => o' = .loop N t ps a b st p
  | _, _ => False
theorem OSub.refl (o : Obj) : OSub o o := by cases o <;> simp [OSub, VSubs.refl]
def HLe (h h' : H) : Prop := (∀ j o', h'.objs j = some o' → ∃ o, h.objs j = some o ∧ OSub o o') ∧ ∀ t ∈ h'.toks, t ∈ h.toks
theorem H.sub.le {h h' : H} (s : h'.sub h) : HLe h h' := ⟨fun j o x => ⟨o, s.1 j o x, OSub.refl o⟩, s.2⟩
theorem ORel.sub {G : Ghost} {w : World} {o o' : Obj} {x : Option Go.Obj} (h : ORel G w o x) (s : OSub o o') : ORel G w o' x := by
  cases o <;> cases o' <;> simp only [OSub] at s
  · simp only [ORel] at h ⊢
    obtain ⟨vs, rest, T, fr, h1, h2, h3⟩ := h
    exact ⟨vs, rest, T, fr, h1, s G w vs h2, h3⟩
  · subst s; exact h
  all_goals (rw [s]; exact h)
theorem RepH.le {G : Ghost} {w : World} {h h' : H} (R : RepH G h w) (s : HLe h h') : RepH G h' w where
  obj id o' ho' := by
    obtain ⟨o, ho, hs⟩ := s.1 id o' ho'
    obtain ⟨a, b, c, d⟩ := R.obj id o ho
    exact ⟨a, b, c, d.sub hs⟩
  inj id id' o o' ho ho' := by
    obtain ⟨p, hp, -⟩ := s.1 id o ho
    obtain ⟨p', hp', -⟩ := s.1 id' o' ho'
    exact R.inj id id' p p' hp hp'
  tok t ht := R.tok t (s.2 t ht)
  tinj t ht t' ht' := R.tinj t (s.2 t ht) t' (s.2 t' ht')
theorem Trans.le {G : Ghost} {w : World} {h h' : H} (s : HLe h h') (n : h.n ≤ h'.n) (m : h.m ≤ h'.m) : Trans G w h G w h' where
  dom_le _ x := x
  dom_new _ := .inl
  ι_eq _ _ := rfl
  tdom_le _ x := x
  tdom_new _ := .inl
  τ_eq _ _ := rfl
  n_le := n
  m_le := m
  size_le := Nat.le_refl _
  os := rfl
  output := rfl
  form _ _ := SameForm.refl _
  keep _ _ _ _ := rfl
  own_keep _ _ _ := Iff.rfl
  lim_keep _ _ _ _ := rfl
  tok_keep _ _ _ _ e he := ⟨fun _ _ => rfl, fun e' he' => by rw [he] at he'; cases he'; exact Nat.le_refl _⟩
  O_new _ _ := fun ⟨id, o, ho, e⟩ => let ⟨o', ho', _⟩ := s.1 id o ho; ⟨id, o', ho', e⟩
  T_new _ _ := fun ⟨t, ht, e⟩ => ⟨t, s.2 t ht, e⟩
  objs_new j o x := let ⟨o', ho', _⟩ := s.1 j o x; .inl ⟨o', ho'⟩
  toks_new t x := .inl (s.2 t x)
theorem StLe.mk' {t t' : Tm} {h h' : H} (ht : ∀ i, VSub (t i) (t' i)) (hh : HLe h h') (n : h.n ≤ h'.n) (m : h.m ≤ h'.m) : StLe ⟨t, h⟩ ⟨t', h'⟩ :=
  ⟨n, m, fun N G w a r _ => ⟨G, Trans.le hh n m, ⟨r.size, fun i => ht i G w _ (r.t i), r.h.le hh, r.df.mono (Trans.le hh n m)⟩⟩⟩
theorem StLe.tok (t : Tm) (h : H) : StLe ⟨t, h⟩ ⟨t, { h with toks := h.m :: h.toks, m := h.m + 1 }⟩ := by
  refine ⟨Nat.le_refl _, Nat.le_succ _, fun N G w a r F => ?_⟩
  have hm : ¬ G.tdom h.m := F.2 h.m (Nat.le_refl _) (Nat.lt_succ_self _)
  let G' : Ghost := { G with tdom := fun x => G.tdom x ∨ x = h.m, τ := upd G.τ h.m none }
  have hτ : G'.τ h.m = none := by simp [G', upd]
  have hne : ∀ x, G.tdom x → G'.τ x = G.τ x := fun x hx => by
    simp only [G', upd]
    rw [if_neg]
    rintro rfl; exact hm hx
  have T : Trans G w h G' w { h with toks := h.m :: h.toks, m := h.m + 1 } := by
    constructor
    · exact fun _ x => x
    · exact fun _ => .inl
    · exact fun _ _ => rfl
    · exact fun _ => .inl
    · rintro x (hx | rfl)
      · exact .inl hx
      · exact .inr ⟨Nat.le_refl _, Nat.lt_succ_self _⟩
    · exact hne
    · exact Nat.le_refl _
    · exact Nat.le_succ _
    · exact Nat.le_refl _
    · rfl
    · rfl
    · exact fun _ _ => SameForm.refl _
    · exact fun _ _ _ _ => rfl
    · exact fun _ _ _ => Iff.rfl
    · exact fun _ _ _ _ => rfl
    · exact fun _ _ _ _ e he => ⟨fun _ _ => rfl, fun e' he' => by
        have : G.lim _ = some e' := he'
        rw [he] at this; cases this; exact Nat.le_refl _⟩
    · exact fun _ _ x => x
    · rintro B _ ⟨x, hx, e, hte⟩
      rcases List.mem_cons.1 hx with rfl | hx
      · rw [hτ] at hte; cases hte
      · exact ⟨x, hx, e, by rw [← hte]; exact (hne x (r.h.tok x hx).1).symm⟩
    · exact fun j o x => .inl ⟨o, x⟩
    · intro x hx
      rcases List.mem_cons.1 hx with rfl | hx
      · exact .inr ⟨Nat.le_refl _, Nat.lt_succ_self _⟩
      · exact .inl hx
  refine ⟨G', T, r.size, fun i => VRel.mono r.h T _ _ (r.t i), ⟨?_, r.h.inj, ?_, ?_⟩, r.df.mono T⟩
  · intro id o ho
    obtain ⟨q1, q2, q3, q4⟩ := r.h.obj id o ho
    exact ⟨q1, q2, q3, q4.mono r.h T⟩
  · intro x hx
    rcases List.mem_cons.1 hx with rfl | hx
    · exact ⟨.inr rfl, fun B e hte => by rw [hτ] at hte; cases hte⟩
    · obtain ⟨q1, q2⟩ := r.h.tok x hx
      exact ⟨.inl q1, fun B e hte => q2 B e (by rw [← hne x q1]; exact hte)⟩
  · intro x hx x' hx' B e e' h1 h2
    rcases List.mem_cons.1 hx with rfl | hx
    · rw [hτ] at h1; cases h1
    · rcases List.mem_cons.1 hx' with rfl | hx'
      · rw [hτ] at h2; cases h2
      · exact r.h.tinj x hx x' hx' B e e' (by rw [← hne x (r.h.tok x hx).1]; exact h1) (by rw [← hne x' (r.h.tok x' hx').1]; exact h2)
theorem Run.le {c : Code} {s' s'' : St} {e : AExit} (h : StLe s s') (r : Run P N c s' e s'') : Run P N c s e s'' := by
  obtain ⟨⟨rn, rm⟩, rr⟩ := r
  refine ⟨⟨Nat.le_trans h.n rn, Nat.le_trans h.m rm⟩, fun ro okc G w a rel F => ?_⟩
  obtain ⟨G1, T1, rel1⟩ := h.go N G w a rel (F.sub (Nat.le_refl _) rn (Nat.le_refl _) rm)
  refine wpIn_mono (rr ro okc G1 w a rel1 (F.step T1)) ?_
  rintro e' a' w' ⟨h1, h2, G', T, r'⟩
  exact ⟨h1, h2, G', T1.trans rel.h rel1.h T, r'⟩
theorem Wp.le {c : AC} {s' : St} (h : StLe s s') (hw : Wp P N c s' Q) : Wp P N c s Q :=
  fun code hc => let ⟨e, s'', r, q⟩ := hw code hc; ⟨e, s'', r.le h, q⟩
theorem code_loop {code : Code} {x : AC} (h : cCode P N code = some (.loop x)) : ∃ a, code = .loop a ∧ cCode P N a = some x := by
  cases code <;> simp only [cCode] at h <;> (try cases h)
  · (repeat' split at h) <;> cases h
  · (repeat' split at h) <;> cases h
  · (repeat' split at h) <;> cases h
  · simp at h
  · simp only [Option.map_eq_some_iff] at h
    obtain ⟨a, h1, h2⟩ := h
    cases h2
    exact ⟨_, rfl, h1⟩
  all_goals first | (simp at h; done) | ((repeat' split at h) <;> cases h; done)
theorem wp_loop_ix {F : Fence} {n : Nat} {β : Type} {c : Code} {Q : Exit → Act → World → Prop} (I : β → Act → World → Prop) (μ : β → Nat)
    (round : ∀ b a w, I b a w → c.wpIn F n P (Exit.then (fun a' w' => ∃ b', I b' a' w' ∧ μ b' < μ b) Q) a w) {b : β} {a : Act} {w : World} (h₀ : I b a w) : (Code.loop c).wpIn F n P Q a w := by
  intro fr k cs hro hb hr
  have key : ∀ j b a w, μ b = j → I b a w → ∃ e a' w', Q e a' w' ∧ ArrivesIn (Machine.fenced P F) P (lone (fr.atR a (.code c :: .inLoop c :: k)) cs w) fr k cs e a' w' := by
    intro j
    induction j using Nat.strongRecOn with
    | _ j ih =>
      intro b a w hn hI
      obtain ⟨e, a₁, w₁, hq, harr⟩ := round b a w hI fr (.inLoop c :: k) cs hro hb hr
      cases e with
      | normal =>
        obtain ⟨b₁, hI₁, hlt⟩ := hq
        obtain ⟨e₂, a₂, w₂, hq₂, harr₂⟩ := ih (μ b₁) (hn ▸ hlt) b₁ a₁ w₁ rfl hI₁
        exact ⟨e₂, a₂, w₂, hq₂, .of_steps (StepsIn.trans harr (.one (fenced_calm hb hr rfl) stepR_inLoop)) harr₂⟩
      | exit id => exact ⟨_, a₁, w₁, hq, .pass (x := .inLoop c) rfl (fun _ _ => .inl (by simp)) harr⟩
      | goto l => exact ⟨_, a₁, w₁, hq, .pass (x := .inLoop c) rfl (fun _ _ => .inl (by simp)) harr⟩
      | ret => exact ⟨_, a₁, w₁, hq, .pass (x := .inLoop c) rfl (fun _ _ => .inl (by simp)) harr⟩
      | panic ch => exact ⟨_, a₁, w₁, hq, .pass (x := .inLoop c) rfl (fun _ _ => .inl (by simp)) harr⟩
      | outgrown => exact ⟨_, a₁, w₁, hq, .pass (x := .inLoop c) rfl (fun _ _ => .inl (by simp)) harr⟩
  obtain ⟨e, a', w', hq, harr⟩ := key _ b a w rfl h₀
  exact ⟨e, a', w', hq, .of_steps (.one (fenced_calm hb hr rfl) stepR_loop) harr⟩
inductive Comes' {β : Type} (P : Program) (N : Nat) (c : Code) (S : β → St) (μ : β → Nat) : β → AExit → St → Prop where
  | last {b : β} {e : AExit} {s' : St} (r : Run P N c (S b) e s') (hne : e ≠ .normal) : Comes' P N c S μ b e s'
  | more {b b' : β} {e : AExit} {s1 s' : St} (r : Run P N c (S b) .normal s1) (hle : StLe s1 (S b')) (hlt : μ b' < μ b) (rest : Comes' P N c S μ b' e s') : Comes' P N c S μ b e s'
theorem Comes'.nm {β : Type} {c : Code} {S : β → St} {μ : β → Nat} {b : β} {e : AExit} {s' : St} (h : Comes' P N c S μ b e s') : (S b).h.n ≤ s'.h.n ∧ (S b).h.m ≤ s'.h.m := by
  induction h with
  | last r _ => exact r.1
  | more r hle _ _ ih => have := r.1; have := hle.n; have := hle.m; omega
theorem Wp.loop {β : Type} (S : β → St) (I : β → Prop) (μ : β → Nat) {c : AC} (b0 : β) (h0 : I b0) (hs : StLe s (S b0))
    (round : ∀ b, I b → Wp P N c (S b) (AExit.andThen (fun s' => ∃ b', I b' ∧ μ b' < μ b ∧ StLe s' (S b')) Q)) : Wp P N (.loop c) s Q := by
  intro code hc
  obtain ⟨x, rfl, hx⟩ := code_loop hc
  have ex : ∀ n b, μ b = n → I b → ∃ e s', Comes' P N x S μ b e s' ∧ Q e s' := by
    intro n
    induction n using Nat.strongRecOn with
    | _ n ih =>
      intro b hn hb
      obtain ⟨e, s1, r1, q1⟩ := round b hb x hx
      cases e with
      | normal =>
        obtain ⟨b', i1, i2, i3⟩ := q1
        obtain ⟨e, s', r', q'⟩ := ih (μ b') (hn ▸ i2) b' rfl i1
        exact ⟨e, s', .more r1 i3 i2 r', q'⟩
      | exit id => exact ⟨_, s1, .last r1 (by simp), q1⟩
      | goto l => exact ⟨_, s1, .last r1 (by simp), q1⟩
      | ret => exact ⟨_, s1, .last r1 (by simp), q1⟩
      | panic v => exact ⟨_, s1, .last r1 (by simp), q1⟩
  obtain ⟨e, s', hcm, q⟩ := ex _ b0 rfl h0
  refine ⟨e, s', Run.le hs ⟨hcm.nm, fun ro okc G0 w0 a0 rel0 F0 => ?_⟩, q⟩
  refine wp_loop_ix (fun b a w => Comes' P N x S μ b e s' ∧ NewM w0 a0.defers a.defers ∧ ∃ G, Trans G0 w0 (S b0).h G w (S b).h ∧ Rel N (S b) G w a ∧ Fresh G (S b).h s'.h) μ ?_ ⟨hcm, .refl, G0, Trans.refl _ _ _, rel0, F0⟩
  rintro b a w ⟨hcm, hd, G, T, rel, F⟩
  cases hcm with
  | last r hne =>
    refine wpIn_mono (r.2 ro okc.loop G w a rel F) ?_
    rintro e' a' w' ⟨h1, h2, G', T', r'⟩
    have : e' ≠ .normal := by
      rintro rfl
      cases e <;> simp [AExit.says] at h1 hne
    have hgoal : e.says e' ∧ NewM w0 a0.defers a'.defers ∧ ∃ G', Trans G0 w0 (S b0).h G' w' s'.h ∧ Rel N s' G' w' a' := ⟨h1, hd.trans T.size_le h2, G', T.trans rel0.h rel.h T', r'⟩
    cases e' <;> first | exact hgoal | exact absurd rfl this
  | more r hle hlt rest =>
    have nm := rest.nm
    refine wpIn_mono (r.2 ro okc.loop G w a rel (F.sub (Nat.le_refl _) (Nat.le_trans hle.n nm.1) (Nat.le_refl _) (Nat.le_trans hle.m nm.2))) ?_
    rintro e' a' w' ⟨h1, h2, G', T', r'⟩
    cases e' <;> simp only [AExit.says] at h1
    rename_i b' s1
    have F1 := F.step T'
    obtain ⟨G2, T2, r2⟩ := hle.go N G' w' a' r' (F1.sub (Nat.le_refl _) nm.1 (Nat.le_refl _) nm.2)
    have T3 := (T.trans rel0.h rel.h T').trans rel0.h r'.h T2
    exact ⟨b', ⟨rest, hd.trans T.size_le h2, G2, T3, r2, F1.step T2⟩, hlt⟩
def findL : AC → Nat → Option AC
  | .seq a b, l => match findL a l with
    | some r => some (.seq r b)
    | none => findL b l
  | .label l', l => if l' = l then some .skip else none
  | _, _ => none
theorem find_label {l : Nat} : ∀ {c : Code} {x : AC}, cCode P N c = some x → match findLabel c l with | some rest => ∃ y, cCode P N rest = some y ∧ findL x l = some y | none => findL x l = none := by
  intro c
  induction c with
  | seq a b iha ihb =>
    intro x h
    obtain ⟨a', b', he, h1, h2⟩ : ∃ a' b', x = .seq a' b' ∧ cCode P N a = some a' ∧ cCode P N b = some b' := by
      simp only [cCode] at h
      split at h
      · cases h; exact ⟨_, _, rfl, ‹_›, ‹_›⟩
      · cases h
    subst he
    have ga := iha h1
    have gb := ihb h2
    simp only [findLabel, findL]
    cases hf : findLabel a l with
    | some rest =>
      rw [hf] at ga
      obtain ⟨y, y1, y2⟩ := ga
      simp only [y2]
      exact ⟨_, by simp only [cCode, y1, h2], rfl⟩
    | none =>
      rw [hf] at ga
      simp only at ga
      simp only [ga]
      exact gb
  | label l' =>
    intro x h
    simp only [cCode, Option.some.injEq] at h
    subst h
    simp only [findLabel, findL]
    by_cases e : l' = l
    · simp only [e, beq_self_eq_true, if_true]
      exact ⟨.skip, rfl, rfl⟩
    · have : (l' == l) = false := by simpa using e
      simp only [this, if_neg e, Bool.false_eq_true, if_false]
  | skip => intro x h; simp only [cCode, Option.some.injEq] at h; subst h; simp [findLabel, findL]
  | region id ops draw =>
    intro x h
    simp only [cCode] at h
    (repeat' split at h) <;> cases h <;> simp [findLabel, findL]
  | cond z a b _ _ =>
    intro x h
    simp only [cCode] at h
    split at h <;> cases h
    simp [findLabel, findL]
  | block id a _ => intro x h; simp only [cCode, Option.map_eq_some_iff] at h; obtain ⟨_, _, rfl⟩ := h; simp [findLabel, findL]
  | loop a _ => intro x h; simp only [cCode, Option.map_eq_some_iff] at h; obtain ⟨_, _, rfl⟩ := h; simp [findLabel, findL]
  | rangeFunc g ps a b _ _ =>
    intro x h
    simp only [cCode] at h
    (repeat' split at h) <;> cases h <;> simp [findLabel, findL]
  | exit id => intro x h; simp only [cCode, Option.some.injEq] at h; subst h; simp [findLabel, findL]
  | scope a _ => intro x h; simp only [cCode, Option.map_eq_some_iff] at h; obtain ⟨_, _, rfl⟩ := h; simp [findLabel, findL]
  | goto l' => intro x h; simp only [cCode, Option.some.injEq] at h; subst h; simp [findLabel, findL]
  | ret => intro x h; simp only [cCode, Option.some.injEq] at h; subst h; simp [findLabel, findL]
  | refuse => intro x h; simp [cCode] at h
def ScopeWp (F : Fence) (n : Nat) (P : Program) (c cur : Code) (Q : Exit → Act → World → Prop) (a : Act) (w : World) : Prop :=
  ∀ (b : Frame) (k : List Item) (cs : List Frame), b.roundOf = F.round → F.fn b.fn → F.room (cs.length + 1 + n) →
    ∃ e a' w', Q e a' w' ∧ ArrivesIn (Machine.fenced P F) P (lone (b.atR a (.code cur :: .inScope c :: k)) cs w) b k cs e a' w'
theorem stepR_scope {b : Frame} {a : Act} {k : List Item} {cs : List Frame} {w : World} {c : Code} : step P (lone (b.atR a (.code (.scope c) :: k)) cs w) = .next (lone (b.atR a (.code c :: .inScope c :: k)) cs w) :=
  step_lone_go (by simp [stepG, stepG.exec, Frame.atR])
theorem stepR_inScope {b : Frame} {a : Act} {k : List Item} {cs : List Frame} {w : World} {c : Code} : step P (lone (b.atR a (.inScope c :: k)) cs w) = .next (lone (b.atR a k) cs w) :=
  step_lone_go (by simp [stepG, stepG.exec, Frame.atR])
theorem ScopeWp.start {F : Fence} {n : Nat} {c : Code} {Q : Exit → Act → World → Prop} {a : Act} {w : World} (h : ScopeWp F n P c c Q a w) : (Code.scope c).wpIn F n P Q a w := by
  intro b k cs hro hb hr
  obtain ⟨e, a₁, w₁, hq, harr⟩ := h b k cs hro hb hr
  exact ⟨e, a₁, w₁, hq, .of_steps (.one (fenced_calm hb hr rfl) stepR_scope) harr⟩
def Exit.within (F : Fence) (n : Nat) (P : Program) (c : Code) (Q : Exit → Act → World → Prop) : Exit → Act → World → Prop
  | .goto l, a, w => match findLabel c l with
    | some rest => ScopeWp F n P c rest Q a w
    | none => Q (.goto l) a w
  | e, a, w => Q e a w
theorem ScopeWp.step {F : Fence} {n : Nat} {c cur : Code} {Q : Exit → Act → World → Prop} {a : Act} {w : World} (h : cur.wpIn F n P (Exit.within F n P c Q) a w) : ScopeWp F n P c cur Q a w := by
  intro b k cs hro hb hr
  obtain ⟨e, a₁, w₁, hq, harr⟩ := h b (.inScope c :: k) cs hro hb hr
  cases e with
  | normal => exact ⟨.normal, a₁, w₁, hq, StepsIn.trans harr (.one (fenced_calm hb hr rfl) stepR_inScope)⟩
  | exit id => exact ⟨.exit id, a₁, w₁, hq, fun k' hk => harr.1 k' (by simp [exitTo, hk]), fun h1 h2 => harr.2 h1 (by simp [exitTo, h2])⟩
  | goto l =>
    simp only [Exit.within] at hq
    cases hf : findLabel c l with
    | some rest =>
      rw [hf] at hq
      obtain ⟨e₂, a₂, w₂, hq₂, harr₂⟩ := hq b k cs hro hb hr
      exact ⟨e₂, a₂, w₂, hq₂, .of_steps (harr.1 _ (by simp [gotoIn, hf])) harr₂⟩
    | none =>
      rw [hf] at hq
      exact ⟨.goto l, a₁, w₁, hq, fun k' hk => harr.1 k' (by simp [gotoIn, hf, hk]), fun h1 h2 => harr.2 h1 (by simp [gotoIn, hf, h2])⟩
  | ret => exact ⟨_, a₁, w₁, hq, harr⟩
  | panic ch => exact ⟨_, a₁, w₁, hq, harr⟩
  | outgrown => exact ⟨_, a₁, w₁, hq, harr⟩
def RunS (P : Program) (N : Nat) (c cur : Code) (s : St) (e : AExit) (s' : St) : Prop :=
  (s.h.n ≤ s'.h.n ∧ s.h.m ≤ s'.h.m) ∧ ∀ ro, okR c ro → okR cur ro → ∀ G w a, Rel N s G w a → Fresh G s.h s'.h → ScopeWp (rd ro) 0 P c cur (fun e' a' w' => e.says e' ∧ NewM w a.defers a'.defers ∧ ∃ G', Trans G w s.h G' w' s'.h ∧ Rel N s' G' w' a') a w
def WpS (P : Program) (N : Nat) (c cur : AC) (s : St) (Q : AExit → St → Prop) : Prop :=
  ∀ code ccur, cCode P N code = some c → cCode P N ccur = some cur → ∃ e s', RunS P N code ccur s e s' ∧ Q e s'
theorem code_scope {code : Code} {x : AC} (h : cCode P N code = some (.scope x)) : ∃ a, code = .scope a ∧ cCode P N a = some x := by
  cases code <;> simp only [cCode] at h <;> (try cases h)
  all_goals first
    | (simp only [Option.map_eq_some_iff] at h
       obtain ⟨a, h1, h2⟩ := h
       cases h2
       exact ⟨_, rfl, h1⟩)
    | (simp at h; done)
    | ((repeat' split at h) <;> cases h; done)
theorem code_label {code : Code} {l : Nat} (h : cCode P N code = some (.label l)) : code = .label l := by
  cases code <;> simp only [cCode] at h <;> (try cases h) <;> (try rfl)
  all_goals first | ((repeat' split at h) <;> cases h; done) | (simp at h; done)
theorem code_goto {code : Code} {l : Nat} (h : cCode P N code = some (.goto l)) : code = .goto l := by
  cases code <;> simp only [cCode] at h <;> (try cases h) <;> (try rfl)
  all_goals first | ((repeat' split at h) <;> cases h; done) | (simp at h; done)
theorem Wp.label {l : Nat} (h : Q .normal s) : Wp P N (.label l) s Q := by
  intro code hc
  obtain rfl := code_label hc
  exact ⟨.normal, s, ⟨⟨Nat.le_refl _, Nat.le_refl _⟩, fun ro okc G w a r _ => wpIn_label ⟨trivial, .refl, G, Trans.refl _ _ _, r⟩⟩, h⟩
theorem Wp.goto {l : Nat} (h : Q (.goto l) s) : Wp P N (.goto l) s Q := by
  intro code hc
  obtain rfl := code_goto hc
  exact ⟨.goto l, s, ⟨⟨Nat.le_refl _, Nat.le_refl _⟩, fun ro okc G w a r _ => wpIn_goto ⟨rfl, .refl, G, Trans.refl _ _ _, r⟩⟩, h⟩
theorem Wp.scope {c : AC} (h : WpS P N c c s Q) : Wp P N (.scope c) s Q := by
  intro code hc
  obtain ⟨x, rfl, hx⟩ := code_scope hc
  obtain ⟨e, s', r, q⟩ := h x x hx hx
  exact ⟨e, s', ⟨r.1, fun ro okc G w a rel F => (r.2 ro okc.scope okc.scope G w a rel F).start⟩, q⟩
theorem RunS.le {c cur : Code} {s' s'' : St} {e : AExit} (h : StLe s s') (r : RunS P N c cur s' e s'') : RunS P N c cur s e s'' := by
  obtain ⟨⟨rn, rm⟩, rr⟩ := r
  refine ⟨⟨Nat.le_trans h.n rn, Nat.le_trans h.m rm⟩, fun ro okc okd G w a rel F => ?_⟩
  obtain ⟨G1, T1, rel1⟩ := h.go N G w a rel (F.sub (Nat.le_refl _) rn (Nat.le_refl _) rm)
  intro b k cs hro hb hr
  obtain ⟨e', a', w', ⟨h1, h2, G', T, r'⟩, harr⟩ := rr ro okc okd G1 w a rel1 (F.step T1) b k cs hro hb hr
  exact ⟨e', a', w', ⟨h1, h2, G', T1.trans rel.h rel1.h T, r'⟩, harr⟩
theorem WpS.le {c cur : AC} {s' : St} (h : StLe s s') (hw : WpS P N c cur s' Q) : WpS P N c cur s Q :=
  fun code ccur h1 h2 => let ⟨e, s'', r, q⟩ := hw code ccur h1 h2; ⟨e, s'', r.le h, q⟩
def AExit.within (P : Program) (N : Nat) (c : AC) (Q : AExit → St → Prop) : AExit → St → Prop
  | .goto l, s => match findL c l with
    | some rest => WpS P N c rest s Q
    | none => Q (.goto l) s
  | e, s => Q e s
theorem WpS.step {c cur : AC} (h : Wp P N cur s (AExit.within P N c Q)) : WpS P N c cur s Q := by
  intro code ccur hc hcur
  obtain ⟨e, s1, r1, q1⟩ := h ccur hcur
  cases e with
  | normal =>
    refine ⟨.normal, s1, ⟨r1.1, fun ro okc okd G w ac r F => .step (wpIn_mono (r1.2 ro okd G w ac r F) ?_)⟩, q1⟩
    rintro e' a' w' ⟨h1, h2⟩
    cases e' <;> simp only [AExit.says] at h1
    exact ⟨trivial, h2⟩
  | ret =>
    refine ⟨.ret, s1, ⟨r1.1, fun ro okc okd G w ac r F => .step (wpIn_mono (r1.2 ro okd G w ac r F) ?_)⟩, q1⟩
    rintro e' a' w' ⟨h1, h2⟩
    cases e' <;> simp only [AExit.says] at h1
    exact ⟨trivial, h2⟩
  | panic v =>
    refine ⟨.panic v, s1, ⟨r1.1, fun ro okc okd G w ac r F => .step (wpIn_mono (r1.2 ro okd G w ac r F) ?_)⟩, q1⟩
    rintro e' a' w' ⟨h1, h2⟩
    cases e' <;> simp only [AExit.says] at h1
    exact ⟨h1, h2⟩
  | exit i =>
    refine ⟨.exit i, s1, ⟨r1.1, fun ro okc okd G w ac r F => .step (wpIn_mono (r1.2 ro okd G w ac r F) ?_)⟩, q1⟩
    rintro e' a' w' ⟨h1, h2⟩
    cases e' <;> simp only [AExit.says] at h1
    exact ⟨h1, h2⟩
  | goto l =>
    simp only [AExit.within] at q1
    have hfl := find_label (l := l) hc
    cases hf : findLabel code l with
    | none =>
      rw [hf] at hfl
      simp only at hfl
      rw [hfl] at q1
      refine ⟨.goto l, s1, ⟨r1.1, fun ro okc okd G w ac r F => .step (wpIn_mono (r1.2 ro okd G w ac r F) ?_)⟩, q1⟩
      rintro e' a' w' ⟨h1, h2⟩
      cases e' <;> simp only [AExit.says] at h1
      subst h1
      simp only [Exit.within, hf]
      exact ⟨rfl, h2⟩
    | some rest =>
      rw [hf] at hfl
      obtain ⟨y, y1, y2⟩ := hfl
      rw [y2] at q1
      obtain ⟨e2, s2, r2, q2⟩ := q1 code rest hc y1
      obtain ⟨⟨l1, l2⟩, r1⟩ := r1
      obtain ⟨⟨l3, l4⟩, r2⟩ := r2
      refine ⟨e2, s2, ⟨⟨by omega, by omega⟩, fun ro okc okd G w ac r F => .step (wpIn_mono (r1 ro okd G w ac r (F.sub (Nat.le_refl _) l3 (Nat.le_refl _) l4)) ?_)⟩, q2⟩
      rintro e' a' w' ⟨h1, h2, G', T1, r'⟩
      cases e' <;> simp only [AExit.says] at h1
      subst h1
      simp only [Exit.within, hf]
      intro b k cs hro hb hr
      obtain ⟨e'', a'', w'', ⟨k1, k2, G'', T2, r''⟩, harr⟩ := r2 ro okc (okc.find hf) G' w' a' r' (F.step T1) b k cs hro hb hr
      exact ⟨e'', a'', w'', ⟨k1, h2.trans T1.size_le k2, G'', T1.trans r.h r'.h T2, r''⟩, harr⟩
end
end Go.Av
end
section
set_option linter.unusedVariables false
set_option linter.unusedSimpArgs false
namespace Go.Av
section
variable {P : Program} {N : Nat}
theorem putParts_congr {ρ ρ' : Opd → AV} : ∀ {l : List (Nat × Nat × Opd)} {cs : List AV}, (∀ x ∈ l.map (fun p => p.2.2), ρ x = ρ' x) → putParts ρ l cs = putParts ρ' l cs
  | [], _, _ => rfl
  | (off, n, x) :: l, cs, h => by
    have hx : ρ x = ρ' x := h x (by simp)
    simp only [putParts, hx]
    split
    · exact putParts_congr fun y hy => h y (by simp at hy ⊢; exact .inr hy)
    · rfl
theorem aop_congr {ρ ρ' : Opd → AV} {h : H} {op : AOp} (hh : ∀ x ∈ opdsOf op, ρ x = ρ' x) : aop ρ h op = aop ρ' h op := by
  cases op with
  | build z parts => simp only [aop, putParts_congr (l := parts) hh]
  | buildSl sz parts =>
    have e1 : parts.map ρ = parts.map ρ' := List.map_congr_left hh
    have e2 : parts.all (fun x => decide ((cellsOf (ρ x)).length = sz ∧ shaped (ρ x) = true)) = parts.all (fun x => decide ((cellsOf (ρ' x)).length = sz ∧ shaped (ρ' x) = true)) := by
      rw [Bool.eq_iff_iff]
      simp only [List.all_eq_true]
      exact ⟨fun k x hx => by rw [← hh x hx]; exact k x hx, fun k x hx => by rw [hh x hx]; exact k x hx⟩
    simp only [aop, e1, e2]
  | mkfn fn a b =>
    have e1 : a.map ρ = a.map ρ' := List.map_congr_left fun x hx => hh x (by simp [opdsOf, hx])
    have e2 : b.map ρ = b.map ρ' := List.map_congr_left fun x hx => hh x (by simp [opdsOf, hx])
    simp only [aop, e1, e2]
  | slc str sz x a b c =>
    have e0 : ρ x = ρ' x := hh x (by simp [opdsOf])
    have e1 : ∀ y : Option Opd, (∀ z ∈ y.toList, ρ z = ρ' z) → y.map ρ = y.map ρ' := by
      intro y hy; cases y with
      | none => rfl
      | some z => simp [hy z (by simp)]
    have e2 : (c.map fun m => some (ρ m)) = (c.map fun m => some (ρ' m)) := by
      cases c with
      | none => rfl
      | some z => simp [hh z (by simp [opdsOf])]
    simp only [aop, e0, e1 a (fun z hz => hh z (by simp only [opdsOf, List.mem_cons, List.mem_append]; exact .inr (.inl (.inl hz)))), e1 b (fun z hz => hh z (by simp only [opdsOf, List.mem_cons, List.mem_append]; exact .inr (.inl (.inr hz)))), e2]
  | call f l => rfl
  | callv x l => rfl
  | alloc z => rfl
  | dead => rfl
  | pan x => rfl
  | _ => simp [opdsOf] at hh; simp only [aop, hh]
def cutTo (l : List Nat) (t : Tm) : Tm := fun i => if l.contains i then t i else .any
theorem cut_rel {l : List Nat} {G : Ghost} {w : World} {t : Tm} {a : Act} (h : TOn l G w t a) : TRel G w (cutTo l t) a := by
  intro i
  unfold cutTo
  split
  · rename_i hh; exact h i (by simpa using hh)
  · simp [VRel]
theorem cut_ev {l : List Nat} {t : Tm} {xs : List Opd} (h : (tmpsOf xs).all (fun i => l.contains i) = true) : ∀ x ∈ xs, ev (cutTo l t) x = ev t x := by
  intro x hx
  cases x with
  | c a => rfl
  | t i =>
    simp only [ev, cutTo]
    rw [List.all_eq_true] at h
    have := h i (by simp only [tmpsOf, List.mem_filterMap]; exact ⟨_, hx, rfl⟩)
    rw [if_pos this]
def guardOf (t : Tm) (g : Option (Nat × Bool)) : Option Bool :=
  match g with
  | none => some true
  | some (d, w) => match t d with
    | .bool b => some (b == w)
    | .sc (.tuple _) => some false
    | _ => none
theorem guard_wanted {ops : Array Oper} {o : Oper} {g : Option (Nat × Bool)} {t : Tm} {a : Act} {G : Ghost} {w : World} {b : Bool} (hg : cGuard ops o.guard = some g) (ht : TOn (names ops o) G w t a) (hb : guardOf t g = some b) :
    Region.wanted o (yielded ops a.tmps) = b := by
  unfold Region.wanted
  cases hog : o.guard with
  | none =>
    rw [hog] at hg
    simp [cGuard] at hg; subst hg
    simp [guardOf] at hb; simp [hb]
  | some jw =>
    obtain ⟨j, want⟩ := jw
    rw [hog] at hg
    simp only [cGuard] at hg
    split at hg
    · rename_i d hd
      cases hg
      simp only [guardOf] at hb
      split at hb
      · rename_i c hc
        cases hb
        have hr := ht d (by simp only [names, hog, List.mem_append]; right; simp [hd])
        rw [hc] at hr
        simp only [VRel] at hr
        have hy : yielded ops a.tmps j = some c := by
          unfold yielded
          rw [hd]
          simp only [Option.bind_some]
          have : a.tmps[d]? = some (.bool c) := by
            cases hk : a.tmps[d]? with
            | none => simp [hk] at hr; simp [undef] at hr
            | some v => simp [hk] at hr; rw [hr]
          rw [this]
        simp only [hy]
        cases c <;> cases want <;> rfl
      · rename_i xs hc
        cases hb
        have hr := ht d (by simp only [names, hog, List.mem_append]; right; simp [hd])
        rw [hc] at hr
        simp only [VRel] at hr
        have hy : yielded ops a.tmps j = none := by
          unfold yielded
          rw [hd]
          simp only [Option.bind_some]
          cases hk : a.tmps[d]? with
          | none => rfl
          | some v => simp [hk] at hr; rw [hr]
        simp only [hy]
        cases want <;> rfl
      · cases hb
    · cases hg
theorem cOp_plain {o : Oper} {op : AOp} (h : cOp P o = some op) : ∀ c, o.op ≠ .defer c := by
  intro c e
  unfold cOp at h
  rw [e] at h
  cases h
theorem callsIn_rd {ro : Option Nat} {n : Nat} {f : FuncId} {args : Array Value} {w : World} {R : Ending → World → Prop} (h : Calls P f args w R) : CallsIn (rd ro) n P f args w R := by
  have h2 : CallsIn Fence.wide n P f args w R := callsIn_wide.2 h
  exact h2
theorem itrun_op {ops : Array Oper} {i : Nat} {o : Oper} {it : AItem} {t : Tm} {h h' : H} {x : AV} {en : Ent} (ho : ops[i]? = some o) (hit : cItem P N ops o = some it) (hg : guardOf t it.guard = some true) (hx : aop (ev t) h it.op = some (x, h', en)) :
    ∃ h1 h1', Touch h h1 h1' h' en ∧ ItRun P ops i o t h1 x h1' := by
  unfold cItem at hit
  split at hit
  · rename_i op g hop hgd
    split at hit <;> cases hit
    rename_i hcond
    simp only [Bool.and_eq_true] at hcond
    have hop := cOpD_of hop (by rintro rfl; simp [aop] at hx)
    have hx' : aop (ev (cutTo (names ops o) t)) h op = some (x, h', en) := by
      rw [aop_congr (cut_ev hcond.2)]; exact hx
    obtain ⟨h1, h1', tc, loc⟩ := aop_loc hop hx'
    refine ⟨h1, h1', tc, fun G w a ht R F K Q hK ro => ?_⟩
    obtain ⟨nx, v, w', G', e1, e2, T1, R1, V⟩ := loc G w a (cut_rel ht) R F
    unfold wpOpIn
    rw [ho]
    simp only [guard_wanted hgd ht hg, if_true]
    refine ⟨fun _ _ => trivial, ?_⟩
    rw [Oper.semAt_eq _ _ _ (cOp_plain hop), e1]
    rcases e2 with rfl | ⟨rfl, rfl⟩
    · rw [Oper.uponIn_value]; exact hK G' w' v T1 R1 V
    · rw [Oper.uponIn_skip]; exact hK G' w' undef T1 R1 V
  · cases hit
theorem itrun_skip {ops : Array Oper} {i : Nat} {o : Oper} {it : AItem} {t : Tm} {h : H} (ho : ops[i]? = some o) (hit : cItem P N ops o = some it) (hg : guardOf t it.guard = some false) :
    ItRun P ops i o t (H0 h.n h.m) (.sc undef) (H0 h.n h.m) := by
  unfold cItem at hit
  split at hit
  · rename_i op g hop hgd
    split at hit <;> cases hit
    intro G w a ht R F K Q hK ro
    unfold wpOpIn
    rw [ho]
    simp only [guard_wanted hgd ht hg, if_false, Bool.false_eq_true]
    refine ⟨fun _ _ => trivial, ?_⟩
    exact hK G w undef (Trans.refl _ _ _) R (by simp [VRel])
  · cases hit
theorem cOp_call {o : Oper} {f : FuncId} {l : List Opd} (h : cOp P o = some (.call f l)) : ∃ c fn, o.op = .call c ∧ c.callee = .value (.func f) ∧ opds P c.argTypes.toList c.args.toList = some l ∧ P.funcs[f]? = some fn ∧ fn.body.isSome = true ∧ fn.name ≠ "runtime.NumGoroutine" := by
  unfold cOp at h
  split at h
  case h_28 c hop =>
    split at h
    case h_8 f' hc =>
      split at h
      · split at h
        · rename_i fn hfn hcond
          simp only [Option.map_eq_some_iff] at h
          obtain ⟨l', h1, h2⟩ := h
          cases h2
          exact ⟨c, fn, hop, hc, h1, hfn, hcond.1, hcond.2⟩
        · cases h
      · cases h
    all_goals first
      | (cases h; done)
      | ((repeat' split at h) <;> (try cases h) <;> simp at h)
  all_goals first
    | (cases h; done)
    | (simp at h; done)
    | ((repeat' split at h) <;> (try cases h) <;> (try simp at h) ; done)
    | skip
theorem cOp_callv {o : Oper} {y : Opd} {l : List Opd} (h : cOp P o = some (.callv y l)) : ∃ c z, o.op = .call c ∧ c.callee = .value z ∧ opd P 0 z = some y ∧ opds P c.argTypes.toList c.args.toList = some l := by
  unfold cOp at h
  split at h
  case h_28 c hop =>
    split at h
    case h_9 z _ hc =>
      split at h
      · rename_i a l' h1 h2
        cases h
        exact ⟨c, z, hop, hc, h1, h2⟩
      · cases h
    all_goals first
      | (cases h; done)
      | ((repeat' split at h) <;> (try cases h) <;> simp at h)
  all_goals first
    | (cases h; done)
    | (simp at h; done)
    | ((repeat' split at h) <;> (try cases h) <;> (try simp at h) ; done)
theorem run_callFunc {f : FuncId} {fn : Func} {args : Array Value} (w : World) (hf : P.funcs[f]? = some fn) (hb : fn.body.isSome = true) (hn : fn.name ≠ "runtime.NumGoroutine") : (callFunc f args).run P w = .ok (.enter f args) w := by
  have hb' : fn.body ≠ none := by intro h; rw [h] at hb; cases hb
  simp [callFunc, hf, hn, hb']
theorem upon_calls {o : Oper} {f : FuncId} {vals : List AV} {h1 h1' : H} {r : AV} (hc : ACalls P f vals h1 r h1') {G : Ghost} {w : World} {a : Act} {vs : List Value} (hv : VRels G w vals vs) (R : RepH G h1 w) (F : Fresh G h1 h1') {K : Act → World → Prop} {Q : Exit → Act → World → Prop} {ro : Option Nat} (hd : ∀ c, o.op ≠ .defer c)
    (hK : ∀ G' w' v, Trans G w h1 G' w' h1' → RepH G' h1' w' → VRel G' w' r v → K (a.put o.dst v) w') (hrun : (execOp a.eval o).run P w = .ok (.enter f vs.toArray) w) : o.wpIn (rd ro) 0 P a w K Q := by
  refine ⟨fun _ _ => trivial, ?_⟩
  rw [Oper.semAt_eq _ _ _ hd, hrun, Oper.uponIn_enter]
  refine ⟨fun h => by simp [rd, Fence.wide] at h, callsIn_rd ?_⟩
  refine (hc G w vs hv R F).mono ?_
  rintro e w' ⟨v, G', rfl, T, R', V⟩
  exact hK G' w' v T R' V
theorem itrun_call {ops : Array Oper} {i : Nat} {o : Oper} {it : AItem} {t : Tm} {f : FuncId} {l : List Opd} {vals : List AV} {h1 h1' : H} {r : AV} (ho : ops[i]? = some o) (hit : cItem P N ops o = some it) (hg : guardOf t it.guard = some true) (hop : it.op = .call f l)
    (hs : VSubs (l.map (ev t)) vals) (hc : ACalls P f vals h1 r h1') : ItRun P ops i o t h1 r h1' := by
  unfold cItem at hit
  split at hit
  · rename_i op g hcop hgd
    split at hit <;> cases hit
    rename_i hcond
    simp only [Bool.and_eq_true] at hcond
    simp only at hop
    subst hop
    have hcop := cOpD_of hcop (by simp)
    obtain ⟨c, fn, e1, e2, e3, e4, e5, e6⟩ := cOp_call hcop
    intro G w a ht R F K Q hK ro
    unfold wpOpIn
    rw [ho]
    simp only [guard_wanted hgd ht hg, if_true]
    have rr := opds_rel (P := P) (cut_rel ht) e3
    have el : l.map (ev (cutTo (names ops o) t)) = l.map (ev t) := List.map_congr_left fun x hx => cut_ev hcond.2 x (by simpa [opdsOf] using hx)
    rw [el] at rr
    refine upon_calls hc (hs G w _ rr) R F (cOp_plain hcop) hK ?_
    have hargs : (c.args.map a.eval) = (c.args.toList.map a.eval).toArray := by cases c.args; simp
    simp [execOp, e1, resolve, e2, Act.eval, Deferred.ofValue, invoke, hargs, run_callFunc w e4 e5 e6]
  · cases hit
theorem itrun_callv {ops : Array Oper} {i : Nat} {o : Oper} {it : AItem} {t : Tm} {f : FuncId} {fn : Func} {y : Opd} {l : List Opd} {first caps vals : List AV} {h1 h1' : H} {r : AV} (ho : ops[i]? = some o) (hit : cItem P N ops o = some it) (hg : guardOf t it.guard = some true) (hop : it.op = .callv y l)
    (hy : ev t y = .clo (.func f) first caps) (hf : P.funcs[f]? = some fn) (hb : fn.body.isSome = true) (hn : fn.name ≠ "runtime.NumGoroutine")
    (hs : VSubs (first ++ l.map (ev t) ++ caps) vals) (hc : ACalls P f vals h1 r h1') : ItRun P ops i o t h1 r h1' := by
  unfold cItem at hit
  split at hit
  · rename_i op g hcop hgd
    split at hit <;> cases hit
    rename_i hcond
    simp only [Bool.and_eq_true] at hcond
    simp only at hop
    subst hop
    have hcop := cOpD_of hcop (by simp)
    obtain ⟨c, z, e1, e2, e3, e4⟩ := cOp_callv hcop
    intro G w a ht R F K Q hK ro
    unfold wpOpIn
    rw [ho]
    simp only [guard_wanted hgd ht hg, if_true]
    have rr := opds_rel (P := P) (cut_rel ht) e4
    have rz := opd_rel (P := P) e3 (cut_rel ht)
    have hcut := cut_ev (t := t) hcond.2
    have el : l.map (ev (cutTo (names ops o) t)) = l.map (ev t) := List.map_congr_left fun x hx => hcut x (by simp [opdsOf, hx])
    rw [el] at rr
    rw [hcut y (by simp [opdsOf]), hy] at rz
    simp only [VRel] at rz
    obtain ⟨vs, us, q1, q2, q3⟩ := rz
    refine upon_calls hc (hs G w _ ((q2.append rr).append q3)) R F (cOp_plain hcop) hK ?_
    have hargs : (c.args.map a.eval) = (c.args.toList.map a.eval).toArray := by cases c.args; simp
    simp [execOp, e1, resolve, e2, q1, Deferred.ofValue, invoke, hargs, run_callFunc w hf hb hn]
  · cases hit
def WpItems (P : Program) (N : Nat) (items : List AItem) (t : Tm) (h : H) (log : List Ent) (K : Tm → H → List Ent → Prop) : Prop :=
  ∀ ops i, i ≤ ops.size → cItems P N ops (ops.toList.drop i) = some items →
    ∃ recs t' h', Chain P ops i recs t h t' h' ∧ K t' h' (log.reverse ++ recs.map (·.en)) ∧ ∀ (k : Nat) r it, recs[k]? = some r → items[k]? = some it → touchy it.op = false → r.en = ent0
theorem WpItems.nil {t : Tm} {h : H} {log : List Ent} {K : Tm → H → List Ent → Prop} (hk : K t h log.reverse) : WpItems P N [] t h log K := by
  intro ops i hi hc
  have : i = ops.size := by
    cases hd : ops.toList.drop i with
    | nil => have := List.drop_eq_nil_iff.1 hd; simp at this; omega
    | cons o l =>
      rw [hd] at hc
      simp only [cItems] at hc
      split at hc <;> simp at hc
  exact ⟨[], t, h, .nil this, by simpa using hk, by simp⟩
theorem items_cons {ops : Array Oper} {i : Nat} {it : AItem} {its : List AItem} (hi : i ≤ ops.size) (hc : cItems P N ops (ops.toList.drop i) = some (it :: its)) :
    ∃ o, ops[i]? = some o ∧ cItem P N ops o = some it ∧ i + 1 ≤ ops.size ∧ cItems P N ops (ops.toList.drop (i + 1)) = some its := by
  cases hd : ops.toList.drop i with
  | nil => rw [hd] at hc; simp [cItems] at hc
  | cons o l =>
    rw [hd] at hc
    simp only [cItems] at hc
    split at hc
    · rename_i a r h1 h2
      cases hc
      have hlt : i < ops.toList.length := by
        rcases Nat.lt_or_ge i ops.toList.length with h | h
        · exact h
        · rw [List.drop_eq_nil_of_le h] at hd; cases hd
      have e := List.drop_eq_getElem_cons hlt
      rw [hd] at e
      obtain ⟨e1, e2⟩ := List.cons.inj e
      have hlt' : i < ops.size := by simpa using hlt
      refine ⟨o, ?_, h1, by omega, by rw [← e2]; exact h2⟩
      rw [Array.getElem?_eq_getElem hlt', e1]; simp
    · cases hc
theorem WpItems.step {it : AItem} {its : List AItem} {t : Tm} {h h' h1 h1' : H} {x : AV} {en : Ent} {log : List Ent} {K : Tm → H → List Ent → Prop} (tc : Touch h h1 h1' h' en)
    (run : ∀ (ops : Array Oper) i o, ops[i]? = some o → cItem P N ops o = some it → ItRun P ops i o t h1 x h1') (hen : touchy it.op = false → en = ent0)
    (rest : WpItems P N its (putT t it.dst x) h' (en :: log) K) : WpItems P N (it :: its) t h log K := by
  intro ops i hi hc
  obtain ⟨o, ho, hit, hi', hc'⟩ := items_cons hi hc
  obtain ⟨recs, t', hh', ch, hk, he⟩ := rest ops (i + 1) hi' hc'
  have hdst : it.dst = o.dst := by
    unfold cItem at hit
    split at hit
    · split at hit <;> cases hit; rfl
    · cases hit
  refine ⟨⟨t, h, h1, h1', h', x, en⟩ :: recs, t', hh', .cons ho rfl rfl tc (run ops i o ho hit) (by rw [← hdst]; exact ch), by simpa using hk, ?_⟩
  intro k r it' hr hit' ht
  cases k with
  | zero => simp at hr hit'; subst hr hit'; exact hen ht
  | succ k => simp at hr hit'; exact he k r it' hr hit' ht
theorem aop_ent {ρ : Opd → AV} {h h' : H} {op : AOp} {x : AV} {en : Ent} (ht : touchy op = false) (hx : aop ρ h op = some (x, h', en)) : en = ent0 ∨ ∃ n y, op = .load n y := by
  cases op <;> simp [touchy] at ht <;> simp only [aop] at hx <;> first
    | (simp only [Option.some.injEq, Prod.mk.injEq] at hx; exact .inl hx.2.2.symm)
    | (simp only [Option.map_eq_some_iff, Prod.mk.injEq] at hx; obtain ⟨_, _, _, _, h⟩ := hx; exact .inl h.symm)
    | ((repeat' split at hx) <;> (first | (cases hx; done) | (cases hx; exact .inl rfl) | (simp only [Option.map_eq_some_iff, Prod.mk.injEq] at hx; obtain ⟨_, _, _, _, h⟩ := hx; exact .inl h.symm) | skip))
  all_goals simp_all
def evalOps : List AItem → Tm → H → List Ent → List AItem × Tm × H × List Ent
  | [], t, h, l => ([], t, h, l)
  | it :: its, t, h, l => match guardOf t it.guard with
    | some true => (match aop (ev t) h it.op with
      | some (x, h', en) => evalOps its (putT t it.dst x) h' (en :: l)
      | none => (it :: its, t, h, l))
    | some false => evalOps its (putT t it.dst (.sc undef)) h (ent0 :: l)
    | none => (it :: its, t, h, l)
theorem WpItems.evalA {b : List AItem} : ∀ {items its : List AItem} {t t' : Tm} {h h' : H} {log log' : List Ent} {K : Tm → H → List Ent → Prop}, evalOps items t h log = (its, t', h', log') → WpItems P N (its ++ b) t' h' log' K → WpItems P N (items ++ b) t h log K
  | [], its, t, t', h, h', log, log', K, he, hw => by simp only [evalOps, Prod.mk.injEq] at he; obtain ⟨rfl, rfl, rfl, rfl⟩ := he; exact hw
  | it :: items, its, t, t', h, h', log, log', K, he, hw => by
    simp only [evalOps] at he
    split at he
    · rename_i hg
      split at he
      · rename_i x h2 en hx
        have rest := WpItems.evalA he hw
        intro ops i hi hc
        obtain ⟨o, ho, hit, hi', hc'⟩ := items_cons hi hc
        obtain ⟨h1, h1', tc, run⟩ := itrun_op ho hit hg hx
        obtain ⟨recs, t', hh', ch, hk, hen⟩ := rest ops (i + 1) hi' hc'
        have hdst : it.dst = o.dst := by
          unfold cItem at hit
          split at hit
          · split at hit <;> cases hit; rfl
          · cases hit
        refine ⟨⟨t, h, h1, h1', h2, x, en⟩ :: recs, t', hh', .cons ho rfl rfl tc run (by rw [← hdst]; exact ch), by simpa using hk, ?_⟩
        intro k r it' hr hit' ht
        cases k with
        | zero =>
          simp at hr hit'; subst hr hit'
          rcases aop_ent ht hx with h | ⟨n, y, h⟩
          · exact h
          · rw [h] at ht; simp [touchy] at ht
        | succ k => simp at hr hit'; exact hen k r it' hr hit' ht
      · simp only [Prod.mk.injEq] at he; obtain ⟨rfl, rfl, rfl, rfl⟩ := he; exact hw
    · rename_i hg
      have rest := WpItems.evalA he hw
      exact WpItems.step (touch_none h) (fun ops i o ho hit => itrun_skip ho hit hg) (fun _ => rfl) rest
    · simp only [Prod.mk.injEq] at he; obtain ⟨rfl, rfl, rfl, rfl⟩ := he; exact hw
theorem WpItems.eval {items its : List AItem} {t t' : Tm} {h h' : H} {log log' : List Ent} {K : Tm → H → List Ent → Prop} (he : evalOps items t h log = (its, t', h', log')) (hw : WpItems P N its t' h' log' K) : WpItems P N items t h log K := by
  have := WpItems.evalA (b := []) he (by rw [List.append_nil]; exact hw)
  rwa [List.append_nil] at this
theorem WpItems.part (k : Nat) {items : List AItem} {t t' : Tm} {h h' : H} {log log' : List Ent} {K : Tm → H → List Ent → Prop} (he : evalOps (items.take k) t h log = ([], t', h', log')) (hw : WpItems P N (items.drop k) t' h' log' K) : WpItems P N items t h log K := by
  have := WpItems.evalA (b := items.drop k) he (by rw [List.nil_append]; exact hw)
  rwa [List.take_append_drop] at this
theorem WpItems.pcall {dst : Option Nat} {g : Option (Nat × Bool)} {f : FuncId} {l : List Opd} {its : List AItem} {t : Tm} {h : H} {log : List Ent} {K : Tm → H → List Ent → Prop} {vals : List AV} {r : AV} (hg : guardOf t g = some true) (hs : VSubs (l.map (ev t)) vals) (hc : PCalls P f vals r)
    (rest : WpItems P N its (putT t dst r) h (ent0 :: log) K) : WpItems P N (⟨dst, g, .call f l⟩ :: its) t h log K :=
  WpItems.step (touch_none h) (fun ops i o ho hit => itrun_call ho hit hg rfl hs (hc h.n h.m)) (fun _ => rfl) rest
theorem WpItems.pcallv {dst : Option Nat} {g : Option (Nat × Bool)} {f : FuncId} {fn : Func} {y : Opd} {l : List Opd} {its : List AItem} {t : Tm} {h : H} {log : List Ent} {K : Tm → H → List Ent → Prop} {first caps vals : List AV} {r : AV} (hg : guardOf t g = some true) (hy : ev t y = .clo (.func f) first caps)
    (hf : P.funcs[f]? = some fn) (hb : fn.body.isSome = true) (hn : fn.name ≠ "runtime.NumGoroutine") (hs : VSubs (first ++ l.map (ev t) ++ caps) vals) (hc : PCalls P f vals r)
    (rest : WpItems P N its (putT t dst r) h (ent0 :: log) K) : WpItems P N (⟨dst, g, .callv y l⟩ :: its) t h log K :=
  WpItems.step (touch_none h) (fun ops i o ho hit => itrun_callv ho hit hg rfl hy hf hb hn hs (hc h.n h.m)) (fun _ => rfl) rest
theorem WpItems.acall {dst : Option Nat} {g : Option (Nat × Bool)} {f : FuncId} {l : List Opd} {its : List AItem} {t : Tm} {h h' h1 h1' : H} {log : List Ent} {en : Ent} {K : Tm → H → List Ent → Prop} {vals : List AV} {r : AV} (hg : guardOf t g = some true) (hs : VSubs (l.map (ev t)) vals) (hc : ACalls P f vals h1 r h1')
    (tc : Touch h h1 h1' h' en) (rest : WpItems P N its (putT t dst r) h' (en :: log) K) : WpItems P N (⟨dst, g, .call f l⟩ :: its) t h log K :=
  WpItems.step tc (fun ops i o ho hit => itrun_call ho hit hg rfl hs hc) (fun h => by simp [touchy] at h) rest
end
end Go.Av
end
section
set_option linter.unusedVariables false
set_option linter.unusedSimpArgs false
namespace Go.Av
section
variable {P : Program} {N : Nat}
def rowOf (acc : Array Nat) (o : Oper) : Nat := o.after.foldl (fun s e => if Region.binds .any e then s ||| 2 ^ e.on ||| acc.getD e.on 0 else s) 0
theorem rowOf_bit {acc : Array Nat} {o : Oper} {j : Nat} (h : (rowOf acc o).testBit j = true) : ∃ e ∈ o.after, Region.binds .any e = true ∧ (j = e.on ∨ (acc.getD e.on 0).testBit j = true) := by
  have key : ∀ (l : List Edge) (s : Nat), (l.foldl (fun s e => if Region.binds .any e then s ||| 2 ^ e.on ||| acc.getD e.on 0 else s) s).testBit j = true → s.testBit j = true ∨ ∃ e ∈ l, Region.binds .any e = true ∧ (j = e.on ∨ (acc.getD e.on 0).testBit j = true) := by
    intro l
    induction l with
    | nil => intro s h; exact .inl h
    | cons e l ih =>
      intro s h
      rcases ih _ h with h | ⟨e', h1, h2⟩
      · by_cases hb : Region.binds .any e = true
        · simp only [hb, if_true, Nat.testBit_or, Bool.or_eq_true] at h
          rcases h with (h | h) | h
          · exact .inl h
          · rw [Nat.testBit_two_pow] at h
            exact .inr ⟨e, by simp, hb, .inl (by simpa using h.symm : e.on = j).symm⟩
          · exact .inr ⟨e, by simp, hb, .inr h⟩
        · simp only [hb, if_false, Bool.false_eq_true] at h
          exact .inl h
      · exact .inr ⟨e', by simp [h1], h2⟩
  unfold rowOf at h
  rw [← Array.foldl_toList] at h
  rcases key _ _ h with h | ⟨e, h1, h2⟩
  · simp at h
  · exact ⟨e, by simpa using h1, h2⟩
theorem before_spec (ops : Array Oper) : ∀ (i : Nat) o, ops[i]? = some o → ∀ j, isAnc ops j i = true → ∃ e ∈ o.after, Region.binds .any e = true ∧ (j = e.on ∨ isAnc ops j e.on = true) := by
  have key : ∀ (l : List Oper) (acc : Array Nat), let B := l.foldl (fun acc o => acc.push (rowOf acc o)) acc
      (B.size = acc.size + l.length) ∧ (∀ k, k < acc.size → B.getD k 0 = acc.getD k 0) ∧ ∀ k o, l[k]? = some o → ∀ j, (B.getD (acc.size + k) 0).testBit j = true → ∃ e ∈ o.after, Region.binds .any e = true ∧ (j = e.on ∨ (B.getD e.on 0).testBit j = true) := by
    intro l
    induction l with
    | nil => intro acc; simp
    | cons o l ih =>
      intro acc
      obtain ⟨a1, a2, a3⟩ := ih (acc.push (rowOf acc o))
      simp only [List.foldl_cons]
      refine ⟨by rw [a1]; simp; omega, fun k hk => ?_, fun k o' ho' j hj => ?_⟩
      · rw [a2 k (by simp; omega)]
        simp [Array.getElem?_push, hk]
        rw [if_neg (by omega)]; rfl
      · cases k with
        | zero =>
          simp at ho'; subst ho'
          rw [a2 _ (by simp)] at hj
          simp at hj
          obtain ⟨e, h1, h2⟩ := rowOf_bit hj
          refine ⟨e, h1, h2.1, h2.2.imp (fun z => z) fun h => ?_⟩
          have hlt : e.on < acc.size := by
            rcases Nat.lt_or_ge e.on acc.size with h' | h'
            · exact h'
            · simp [h'] at h
          rw [a2 _ (by simp; omega)]
          simp only [Array.getD_eq_getD_getElem?, Array.getElem?_push] at h ⊢
          rw [if_neg (by omega)]; exact h
        | succ k =>
          simp at ho'
          have := a3 k o' ho' j (by simpa [Nat.add_assoc, Nat.add_comm 1 k] using hj)
          exact this
  obtain ⟨a1, a2, a3⟩ := key ops.toList #[]
  have hB : Region.before ops = ops.toList.foldl (fun acc o => acc.push (rowOf acc o)) #[] := by
    unfold Region.before
    rw [← Array.foldl_toList]
    rfl
  intro i o ho j hj
  unfold isAnc at hj ⊢
  rw [hB] at hj ⊢
  exact a3 i o (by simpa using ho) j (by simpa using hj)
theorem tidy_ok {ops : Array Oper} (h : tidy ops = true) : Tidy ops := by
  unfold tidy at h
  simp only [Bool.and_eq_true, List.all_eq_true] at h
  obtain ⟨h1, h2⟩ := h
  have hm : ∀ (i : Nat) o, ops[i]? = some o → (o, i) ∈ ops.toList.zipIdx := by
    intro i o ho
    rw [List.mem_iff_getElem?]
    exact ⟨i, by simp [List.getElem?_zipIdx, ho]⟩
  constructor
  · intro i o ho e he hbd
    have := h1 (o, i) (hm i o ho)
    rw [Array.all_eq_true_iff_forall_mem] at this
    have := this e he
    simpa [hbd] using this
  · exact before_spec ops
  · intro i j o o' ho ho' hne d hd hn
    have := h2 (o, i) (hm i o ho)
    simp only [hd, List.all_eq_true] at this
    have := this (o', j) (hm j o' ho')
    simp only [Bool.or_eq_true, Bool.not_eq_true', beq_iff_eq] at this
    rcases this with ((h | h) | h) | h
    · exact absurd h hne
    · have h3 : (names ops o').contains d = true := by simpa using hn
      rw [h3] at h; cases h
    · exact .inl h
    · exact .inr h
def pairsOk : List (Nat × Nat) → List Ent → Prop
  | [], _ => True
  | (i, j) :: l, log => apart (log.getD i ent0) (log.getD j ent0) ∧ pairsOk l log
theorem pairsOk_mem : ∀ {l : List (Nat × Nat)} {log : List Ent}, pairsOk l log → ∀ {i j : Nat}, (i, j) ∈ l → apart (log.getD i ent0) (log.getD j ent0)
  | (a, b) :: l, log, h, i, j, hm => by
    rcases List.mem_cons.1 hm with e | hm
    · cases e; exact h.1
    · exact pairsOk_mem h.2 hm
theorem apart_ent0 (e : Ent) : apart ent0 e ∧ apart e ent0 := by
  constructor
  · exact ⟨fun id h => by simp [ent0] at h, fun id h => by simp [ent0], fun t h => by simp [ent0] at h⟩
  · exact ⟨fun id h => by simp [ent0], fun id h => by simp [ent0] at h, fun t h => by simp [ent0]⟩
def pairsQ (p : Option (List (Nat × Nat))) (log : List Ent) : Prop :=
  match p with
  | none => True
  | some l => pairsOk l log
theorem cItems_len {ops : Array Oper} : ∀ {l : List Oper} {items : List AItem}, cItems P N ops l = some items → items.length = l.length ∧ ∀ (k : Nat) o it, l[k]? = some o → items[k]? = some it → cItem P N ops o = some it
  | [], items, h => by simp [cItems] at h; subst h; simp
  | o :: l, items, h => by
    simp only [cItems] at h
    split at h
    · rename_i a r h1 h2
      cases h
      obtain ⟨e1, e2⟩ := cItems_len h2
      refine ⟨by simp [e1], fun k o' it ho hit => ?_⟩
      cases k with
      | zero => simp at ho hit; subst ho hit; exact h1
      | succ k => simp at ho hit; exact e2 k o' it ho hit
    · cases h
theorem code_reg {code : Code} {items : List AItem} {p : Option (List (Nat × Nat))} (h : cCode P N code = some (.reg items p)) :
    ∃ id ops draw, code = .region id ops draw ∧ cItems P N ops ops.toList = some items ∧ ((draw = false ∧ p = none) ∨ (draw = true ∧ P.follows .mixedOrders = true ∧ tidy ops = true ∧ p = some (pairsOf ops items))) := by
  cases code <;> simp only [cCode] at h <;> (try cases h)
  · split at h
    · rename_i id ops draw _ items' hi
      split at h
      · split at h <;> cases h
        rename_i hd hcond
        simp only [Bool.and_eq_true] at hcond
        exact ⟨_, _, _, rfl, hi, .inr ⟨hd, hcond.1, hcond.2, rfl⟩⟩
      · cases h
        rename_i hd
        exact ⟨_, _, _, rfl, hi, .inl ⟨by simpa using hd, rfl⟩⟩
    · cases h
  all_goals first | ((repeat' split at h) <;> cases h; done) | (simp at h; done)
theorem trans_draw (G : Ghost) (w w' : World) (h : H) (e1 : w'.heap = w.heap) (e2 : w'.os = w.os) (e3 : w'.output = w.output) : Trans G w h G w' h where
  dom_le _ x := x
  dom_new _ x := .inl x
  ι_eq _ _ := rfl
  tdom_le _ x := x
  tdom_new _ x := .inl x
  τ_eq _ _ := rfl
  n_le := Nat.le_refl _
  m_le := Nat.le_refl _
  size_le := by rw [e1]; exact Nat.le_refl _
  os := e2
  output := e3
  form B _ := by rw [e1]; exact SameForm.refl _
  keep _ _ _ _ := by rw [e1]
  own_keep _ _ _ := Iff.rfl
  lim_keep _ _ _ _ := rfl
  tok_keep _ _ _ _ e he := ⟨fun _ _ => cell_of_heap e1 _, fun e' he' => by rw [he] at he'; cases he'; exact Nat.le_refl _⟩
  O_new _ _ x := x
  T_new _ _ x := x
  objs_new _ o x := .inl ⟨o, x⟩
  toks_new _ x := .inl x
theorem RepH.draw {G : Ghost} {w w' : World} {h : H} (R : RepH G h w) (e1 : w'.heap = w.heap) (e2 : w'.os = w.os) (e3 : w'.output = w.output) : RepH G h w' where
  obj id o ho := by
    obtain ⟨a, b, c, d⟩ := R.obj id o ho
    exact ⟨a, b, by rw [e1]; exact c, by rw [e1]; exact d.mono R (trans_draw G w w' h e1 e2 e3)⟩
  inj := R.inj
  tok t ht := ⟨(R.tok t ht).1, fun B e he => by rw [e1]; exact (R.tok t ht).2 B e he⟩
  tinj := R.tinj
theorem Wp.reg {items : List AItem} {p : Option (List (Nat × Nat))} {s : St} {Q : AExit → St → Prop} (h : WpItems P N items s.t s.h [] fun t' h' log => pairsQ p log ∧ Q .normal ⟨t', h'⟩) : Wp P N (.reg items p) s Q := by
  intro code hc
  obtain ⟨id, ops, draw, rfl, hi, hd⟩ := code_reg hc
  obtain ⟨recs, t', h', ch, ⟨hp, hq⟩, hen⟩ := h ops 0 (Nat.zero_le _) (by simpa using hi)
  simp only [List.reverse_nil, List.nil_append] at hp
  obtain ⟨nm, -, -⟩ := chain_nm ch
  obtain ⟨cl, ci⟩ := cItems_len hi
  have hN : ∀ (i : Nat) o d, ops[i]? = some o → o.dst = some d → d < N := by
    intro i o d ho hdd
    have hlt : i < ops.size := (Array.getElem?_eq_some_iff.1 ho).1
    have hit : i < items.length := by rw [cl]; simpa using hlt
    have := ci i o items[i] (by simpa using ho) (List.getElem?_eq_getElem hit)
    generalize items[i] = it at this
    unfold cItem at this
    split at this
    · split at this <;> cases this
      rename_i hcond
      simp only [Bool.and_eq_true] at hcond
      have := hcond.1
      rw [hdd] at this
      simpa using this
    · cases this
  refine ⟨.normal, ⟨t', h'⟩, ⟨nm, fun ro okc G w a r F => ?_⟩, hq⟩
  rcases hd with ⟨rfl, rfl⟩ | ⟨rfl, hm, ht, rfl⟩
  · refine wpIn_region ?_
    rw [List.range_eq_range']
    have := chain_seq ro (Q := fun e' a' w' => AExit.normal.says e' ∧ NewM w a.defers a'.defers ∧ ∃ G', Trans G w s.h G' w' h' ∧ Rel N ⟨t', h'⟩ G' w' a') hN ch G w a r.size r.t r.h F
      (fun G' w' a' T1 t1 R1 s1 d1 => ⟨trivial, by rw [d1]; exact .refl, G', T1, ⟨s1, t1, R1, by rw [d1]; exact r.df.mono T1⟩⟩)
    simpa using this
  · refine wpIn_region_any hm ?_
    obtain ⟨a1, a2, -⟩ := chain_facts ch
    rw [Nat.zero_add] at a1
    have ap : ∀ i j, i < j → j < ops.size → isAnc ops i j = false → apart (recs.getD i rec0).en (recs.getD j rec0).en := by
      intro i j hij hj hanc
      have hir : i < recs.length := by omega
      have hjr : j < recs.length := by omega
      have hii : i < items.length := by rw [cl]; simp; omega
      have hjj : j < items.length := by rw [cl]; simp; omega
      have ei : (recs.getD i rec0).en = (recs.map (·.en)).getD i ent0 := by simp [List.getD, List.getElem?_eq_getElem hir]
      have ej : (recs.getD j rec0).en = (recs.map (·.en)).getD j ent0 := by simp [List.getD, List.getElem?_eq_getElem hjr]
      have gi : (recs.getD i rec0) = recs[i] := by simp [List.getD, List.getElem?_eq_getElem hir]
      have gj : (recs.getD j rec0) = recs[j] := by simp [List.getD, List.getElem?_eq_getElem hjr]
      by_cases ti : touchy items[i].op = true
      · by_cases tj : touchy items[j].op = true
        · rw [ei, ej]
          refine pairsOk_mem hp ?_
          unfold pairsOf
          simp only [List.mem_flatMap, List.mem_range, List.mem_filterMap]
          refine ⟨j, hj, i, hij, ?_⟩
          unfold isAnc at hanc
          simp [List.getElem?_eq_getElem hii, List.getElem?_eq_getElem hjj, ti, tj]
          simpa using hanc
        · rw [gj, hen j _ _ (List.getElem?_eq_getElem hjr) (List.getElem?_eq_getElem hjj) (by simpa using tj)]
          exact (apart_ent0 _).2
      · rw [gi, hen i _ _ (List.getElem?_eq_getElem hir) (List.getElem?_eq_getElem hii) (by simpa using ti)]
        exact (apart_ent0 _).1
    let w1 : World := { w with drawn := w.drawn + 1 }
    have hz : ∀ k, (Array.replicate ops.size false).getD k false = false := by intro k; simp [Array.getElem?_replicate]; split <;> rfl
    have hz' : (fun k => (Array.replicate ops.size false).getD k false) = fun _ => false := funext hz
    have vz : ∀ {β : Type} (u : Nat → Option β) (n : Nat) (v : β), val u (fun _ => false) n v = v := by
      intro β u n v
      induction n with
      | zero => rfl
      | succ n ih => simp only [val, Bool.false_eq_true, if_false, ih]
    have R1 : RepH G s.h w1 := r.h.draw rfl rfl rfl
    have hk : ∀ t, t ∈ (HS recs s.h ops.size h'.n h'.m (fun _ => false)).toks ↔ t ∈ s.h.toks := by
      intro t; rw [mem_HS a1.symm, vz]; simp
    have ho : (HS recs s.h ops.size h'.n h'.m (fun _ => false)).objs = s.h.objs := by
      funext id; simp only [HS]; rw [vz]
    refine chain_any ro (N := N) (G0 := G) (w0 := w1) (a0 := a) hN (tidy_ok ht) ch ap R1 F ?_ ops.size (Array.replicate ops.size false) G w1 a (by simp) ?_ ?_ r.size rfl ?_ ?_ ?_ ?_ ?_
    · intro G' w' a' T1 t1 R1' s1 d1
      exact ⟨trivial, by rw [d1]; exact .refl, G', (trans_draw G w w1 s.h rfl rfl rfl).trans r.h R1 T1, ⟨s1, t1, R1', by rw [d1]; exact r.df.mono ((trans_draw G w w1 s.h rfl rfl rfl).trans r.h R1 T1)⟩⟩
    · unfold count
      exact Nat.le_trans (List.length_filter_le _ _) (by simp)
    · rw [hz']; intro i o _ h; cases h
    · rw [hz']; intro d; rw [vz]; exact VRel.mono r.h (trans_draw G w w1 s.h rfl rfl rfl) _ _ (r.t d)
    · rw [hz']; exact R1.same ho fun t x => (hk t).1 x
    · rw [hz']
      exact (Trans.refl G w1 s.h).same rfl (fun _ => Iff.rfl) ho hk (Nat.le_refl _) nm.1 nm.1 (Nat.le_refl _) nm.2 nm.2
    · exact fun id x => .inl x
    · exact fun id x => .inl x
def initT (args : List AV) : Tm := fun i => args.getD i .any
inductive RV where
  | tmp (d : Nat)
  | cell (d : Nat) (n : Option Nat)
def cRes (P : Program) : ResultVar → Option RV
  | .tmp t => some (.tmp t)
  | .cell a t => if (P.info? t).isSome ∧ (P.underlying t).isSome then some (.cell a (if isAggT P t then some (P.cellsOf t) else none)) else none
def cRess (P : Program) : List ResultVar → Option (List RV)
  | [] => some []
  | r :: l => match cRes P r, cRess P l with
    | some a, some m => some (a :: m)
    | _, _ => none
def rv (t : Tm) (h : H) : RV → Option AV
  | .tmp d => some (t d)
  | .cell d n => match t d with
    | .ptr id off => match h.objs id with
      | some (.cells cs) => part off n cs
      | _ => none
    | _ => none
def rvs (t : Tm) (h : H) : List RV → Option (List AV)
  | [] => some []
  | r :: l => match rv t h r, rvs t h l with
    | some a, some m => some (a :: m)
    | _, _ => none
def resOf (ds : List RV) (t : Tm) (h : H) : Option AV :=
  match rvs t h ds with
  | some [x] => some x
  | some l => some (.tup l)
  | none => none
def isEnd : AExit → Prop
  | .normal | .ret => True
  | _ => False
theorem init_rel {G : Ghost} {w : World} {n : Nat} : ∀ {args : List AV} {vs : List Value}, VRels G w args vs → TRel G w (initT args) { tmps := vs.toArray ++ Array.replicate n undef, defers := [] } := by
  intro args vs h i
  unfold initT
  by_cases hi : i < args.length
  · obtain ⟨v, h1, h2⟩ := h.get (i := i) (x := args[i]) (List.getElem?_eq_getElem hi)
    have e : ((vs.toArray ++ Array.replicate n undef).getD i undef) = v := by
      have hlt : i < vs.length := by rw [h.length]; exact hi
      rw [List.getElem?_eq_getElem hlt] at h1
      simp [Array.getElem?_append, hlt]
      exact Option.some.inj h1
    rw [e]
    simpa [List.getD, List.getElem?_eq_getElem hi] using h2
  · have : args.getD i .any = .any := by simp [List.getD, List.getElem?_eq_none (Nat.le_of_not_lt hi)]
    rw [this]; simp [VRel]
theorem rvs_run {G : Ghost} {w : World} {t : Tm} {h : H} {a : Act} (ht : TRel G w t a) (R : RepH G h w) : ∀ {l : List ResultVar} {ds : List RV} {xs : List AV}, cRess P l = some ds → rvs t h ds = some xs →
    ∃ vs, (l.mapM (fun | .tmp t => pure (a.tmps.getD t undef) | .cell b t => do loadVar t (← asAddr (a.tmps.getD b undef)) : ResultVar → Sem Value)).run P w = .ok vs w ∧ VRels G w xs vs
  | [], ds, xs, h1, h2 => by
    simp [cRess] at h1; subst h1
    simp [rvs] at h2; subst h2
    exact ⟨[], by simp, .nil⟩
  | r :: l, ds, xs, h1, h2 => by
    simp only [cRess] at h1
    split at h1
    · rename_i d ds' e1 e2
      cases h1
      simp only [rvs] at h2
      split at h2
      · rename_i x xs' e3 e4
        cases h2
        obtain ⟨vs, g1, g2⟩ := rvs_run ht R e2 e4
        cases r with
        | tmp k =>
          simp [cRes] at e1; subst e1
          simp [rv] at e3; subst e3
          refine ⟨a.tmps.getD k undef :: vs, ?_, .cons (ht k) g2⟩
          simp only [List.mapM_cons, Sem.run_bind, Sem.run_pure, Result.andThen_ok, g1]
        | cell k ty =>
          simp only [cRes] at e1
          split at e1
          · rename_i hc
            cases e1
            simp only [rv] at e3
            split at e3
            · rename_i id off hk
              split at e3
              · rename_i cs ho
                have r1 := ht k
                rw [hk] at r1
                simp only [VRel] at r1
                obtain ⟨vs0, rest0, T, fr, hg, hvs, -⟩ := obj_cells R ho
                have hcell : ∀ j v, vs0[j]? = some v → w.cell? ⟨G.ι id, j, none⟩ = some v := by
                  intro j v hj
                  have hj' : j < vs0.length := (List.getElem?_eq_some_iff.1 hj).1
                  unfold World.cell?; simp only [hg]; simpa [List.getElem?_append_left hj'] using hj
                have hl : ∃ v, (loadVar ty ⟨G.ι id, off, none⟩).run P w = .ok v w ∧ VRel G w x v := by
                  rcases part_sound hvs e3 with ⟨e, v, q1, q2⟩ | ⟨m, e, q1, q2⟩
                  · have hagg : isAggT P ty = false := by cases hh : isAggT P ty <;> simp [hh] at e ⊢
                    exact ⟨v, run_loadVar_cell P w ty _ v hc.2 hagg (hcell _ _ q1), q2⟩
                  · have hagg : isAggT P ty = true := by cases hh : isAggT P ty <;> simp [hh] at e ⊢
                    have hm : m = P.cellsOf ty := by simpa [hagg] using e.symm
                    refine ⟨_, run_loadVar_cells P w ty (G.ι id) off ((vs0.drop off).take m) hc.1 hc.2 hagg (by simp [hm] at q1 ⊢; omega) (fun j v hj => hcell _ _ (by
                      rw [List.getElem?_take] at hj
                      split at hj
                      · simpa [List.getElem?_drop] using hj
                      · cases hj)), q2⟩
                obtain ⟨v, q1, q2⟩ := hl
                refine ⟨v :: vs, ?_, .cons q2 g2⟩
                have ha : (asAddr (a.tmps.getD k undef)).run P w = .ok ⟨G.ι id, off, none⟩ w := by rw [r1.2]; rfl
                simp only [List.mapM_cons, Sem.run_bind, ha, Sem.run_pure, Result.andThen_ok, q1, g1]
              · cases e3
            · cases e3
          · cases e1
      · cases h2
    · cases h1
theorem results_run {fn : Func} {ds : List RV} {G : Ghost} {w : World} {t : Tm} {h : H} {a : Act} {x : AV} (hr : cRess P fn.results.toList = some ds) (ht : TRel G w t a) (R : RepH G h w) (hx : resOf ds t h = some x) : ∃ v, (results fn a.tmps).run P w = .ok v w ∧ VRel G w x v := by
  unfold resOf at hx
  have hxs : ∃ xs, rvs t h ds = some xs ∧ ((∃ y, xs = [y] ∧ x = y) ∨ (xs.length ≠ 1 ∧ x = .tup xs)) := by
    split at hx
    · rename_i y e; cases hx; exact ⟨_, e, .inl ⟨_, rfl, rfl⟩⟩
    · rename_i l hne e
      cases hx
      refine ⟨_, e, .inr ⟨fun hl => ?_, rfl⟩⟩
      obtain ⟨y, rfl⟩ := List.length_eq_one_iff.1 hl
      exact hne y rfl
    · cases hx
  obtain ⟨xs, e, hc⟩ := hxs
  obtain ⟨vs, g1, g2⟩ := rvs_run (P := P) ht R hr e
  have hm' : (fn.results.mapM (fun | .tmp t => pure (a.tmps.getD t undef) | .cell b t => do loadVar t (← asAddr (a.tmps.getD b undef)) : ResultVar → Sem Value)).run P w = .ok vs.toArray w := by
    rw [Array.mapM_eq_mapM_toList]
    simp only [Sem.run_map, g1, Result.andThen_ok]
  have key : (results fn a.tmps).run P w = .ok (if h : vs.toArray.size = 1 then vs.toArray[0] else .tuple vs.toArray) w := by
    unfold results
    rw [Sem.run_bind]
    exact congrArg (fun x : Result (Array Value) => x.andThen fun vs w' => (Pure.pure (if h : vs.size = 1 then vs[0] else .tuple vs) : Sem Value).run P w') hm'
  rw [key]
  have hl := g2.length
  rcases hc with ⟨y, rfl, rfl⟩ | ⟨hn, rfl⟩
  · simp only [VRels] at g2
    obtain ⟨v, us, rfl, q1, rfl⟩ := g2
    exact ⟨v, by simp, q1⟩
  · have : ¬ vs.toArray.size = 1 := by simp; omega
    rw [dif_neg this]
    refine ⟨_, rfl, ?_⟩
    simp only [VRel]
    exact ⟨vs, rfl, g2⟩
theorem Turned.results {D : Nat} {w : World} (h : w.heap[D]? = some (.deferred (some []))) : Turned D w (w.putObj D (.deferred none)) :=
  ⟨by simp, fun B hB => World.putObj_heap_other hB, fun c T fr e => absurd (h.symm.trans e) (by simp), rfl, rfl⟩
theorem leaves_marks {F : Fence} {n : Nat} {fn : Func} {tmps : Array Value} {R : Ending → World → Prop} (Ds : Nat → Prop) (I : World → Prop)
    (hI : ∀ w D, Ds D → I w → w.heap[D]? = some (.deferred (some [])) → I (w.putObj D (.deferred none))) (hend : ∀ w, I w → ∃ v, (results fn tmps).run P w = .ok v w ∧ R (.returned v) w) :
    ∀ (l : List Deferred) (w : World), l.Nodup → (∀ d ∈ l, ∃ D, Ds D ∧ d = { target := .collected D, args := #[] } ∧ w.heap[D]? = some (.deferred (some []))) → I w → LeavesInM F n P fn tmps R l .returning w := by
  intro l
  induction l with
  | nil => intro w _ _ hi; exact hend w hi
  | cons d l ih =>
    intro w hn hm hi
    obtain ⟨D, h1, h2, h3⟩ := hm d (by simp)
    refine ⟨by simp, .inl ⟨D, _, by rw [h2], run_takeDeferred h3, ih _ (List.nodup_cons.1 hn).2 (fun d' hd' => ?_) (hI w D h1 hi h3)⟩⟩
    obtain ⟨D', k1, k2, k3⟩ := hm d' (by simp [hd'])
    refine ⟨D', k1, k2, ?_⟩
    rw [World.putObj_heap_other ?_]
    · exact k3
    · rintro rfl
      exact (List.nodup_cons.1 hn).1 (by rw [h2, ← k2]; exact hd')
theorem acalls_of {f : FuncId} {fn : Func} {code : Code} {ac : AC} {args : List AV} {h : H} {ds : List RV} {Q : AV → H → Prop} (hf : P.funcs[f]? = some fn) (hb : fn.body = some code) (hc : cCode P fn.ntmps code = some ac) (hr : cRess P fn.results.toList = some ds) (hl : args.length ≤ fn.ntmps)
    (hw : Wp P fn.ntmps ac ⟨initT args, h⟩ fun e s' => isEnd e ∧ ∃ r, resOf ds s'.t s'.h = some r ∧ Q r s'.h) : ∃ r h', ACalls P f args h r h' ∧ Q r h' := by
  obtain ⟨e, s', run, he, r, hres, hq⟩ := hw code hc
  refine ⟨r, s'.h, ?_, hq⟩
  intro G w vs hv R F
  have hlen := hv.length
  refine callsIn_wide.1 (callsIn_of_wp_marks (F := rd none) (n := 0) hf hb trivial (wpIn_mono (run.2 none (.inl rfl) G w _ ⟨?_, init_rel hv, R, ⟨by simp, by simp⟩⟩ F) ?_) rfl)
  · simp; omega
  · rintro e' a' w' ⟨h1, h2, G', T, r'⟩
    have key : LeavesInM (rd none) 0 P fn a'.tmps (fun e w' => ∃ v G', e = .returned v ∧ Trans G w h G' w' s'.h ∧ RepH G' s'.h w' ∧ VRel G' w' r v) a'.defers .returning w' := by
      refine leaves_marks (fun D => w.heap.size ≤ D ∧ ¬ s'.h.O G' D ∧ ¬ s'.h.T G' D) (fun w2 => Trans G w h G' w2 s'.h ∧ RepH G' s'.h w2 ∧ TRel G' w2 s'.t a') ?_ ?_ _ _ r'.df.1 ?_ ⟨T, r'.h, r'.t⟩
      · rintro w2 D ⟨d1, d2, d3⟩ ⟨T2, R2, t2⟩ hD
        have tu := Turned.results hD
        exact ⟨T2.turn tu d1, R2.turn tu d2, fun i => VRel.turn tu _ _ (t2 i)⟩
      · rintro w2 ⟨T2, R2, t2⟩
        obtain ⟨v, q1, q2⟩ := results_run (P := P) hr t2 R2 hres
        exact ⟨v, q1, v, G', rfl, T2, R2, q2⟩
      · intro d hd
        obtain ⟨D, e, k1, k2, k3⟩ := r'.df.2 d hd
        rcases h2 d hd with h | ⟨D', k4, e'⟩
        · simp at h
        · rw [e] at e'
          simp only [Deferred.mk.injEq, Target.collected.injEq, and_true] at e'
          subst e'
          exact ⟨D, ⟨k4, k2, k3⟩, e, k1⟩
    cases e <;> cases e' <;> simp only [AExit.says, isEnd] at h1 he <;> exact key
def FnIs (P : Program) (f : FuncId) (N : Nat) (ac : AC) (ds : List RV) : Prop := ∃ fn, P.funcs[f]? = some fn ∧ fn.ntmps = N ∧ fn.body.bind (cCode P N) = some ac ∧ cRess P fn.results.toList = some ds
theorem FnIs.acalls {f : FuncId} {ac : AC} {args : List AV} {h : H} {ds : List RV} {Q : AV → H → Prop} (hF : FnIs P f N ac ds) (hl : args.length ≤ N) (hw : Wp P N ac ⟨initT args, h⟩ fun e s' => isEnd e ∧ ∃ r, resOf ds s'.t s'.h = some r ∧ Q r s'.h) : ∃ r h', ACalls P f args h r h' ∧ Q r h' := by
  obtain ⟨fn, h1, h2, h3, h4⟩ := hF
  subst h2
  obtain ⟨code, hb, hc⟩ := Option.bind_eq_some_iff.1 h3
  exact acalls_of h1 hb hc h4 hl hw
def VPure (x : AV) : Prop := ∀ G G' w v, G'.own = G.own → G'.lim = G.lim → VRel G w x v → VRel G' w x v
def VPures (l : List AV) : Prop := ∀ G G' w vs, G'.own = G.own → G'.lim = G.lim → VRels G w l vs → VRels G' w l vs
theorem ACalls.pure {f : FuncId} {args : List AV} {n m : Nat} {r r' : AV} {h' : H} (ha : VPures args) (hc : ACalls P f args (H0 n m) r h') (hs : VSub r r') (hp : VPure r') : ACalls P f args (H0 n m) r' (H0 n m) := by
  intro G w vs hv R F
  let G0 : Ghost := { G with dom := fun _ => False, tdom := fun _ => False }
  refine (hc G0 w vs (ha G G0 w vs rfl rfl hv) only_rep ⟨fun _ _ _ h => h, fun _ _ _ h => h⟩).mono ?_
  rintro e w' ⟨v, G', rfl, T, R', V⟩
  refine ⟨v, { G' with dom := G.dom, ι := G.ι, tdom := G.tdom, τ := G.τ }, rfl, ?_, only_rep, hp G' _ w' v rfl rfl (hs G' w' v V)⟩
  have hO : ∀ {G : Ghost} B, ¬ (H0 n m).O G B := fun B => only_O B
  have hT : ∀ {G : Ghost} B, ¬ (H0 n m).T G B := fun B ⟨t, ht, _⟩ => by simp [H0, H.only] at ht
  constructor
  · exact fun _ x => x
  · exact fun _ => .inl
  · exact fun _ _ => rfl
  · exact fun _ x => x
  · exact fun _ => .inl
  · exact fun _ _ => rfl
  · exact Nat.le_refl _
  · exact Nat.le_refl _
  · exact T.size_le
  · exact T.os
  · exact T.output
  · exact T.form
  · exact fun B hB _ _ => T.keep B hB (hO B) (hT B)
  · exact fun B hB _ => T.own_keep B hB (hO B)
  · exact fun B hB _ _ => T.lim_keep B hB (hO B) (hT B)
  · exact fun B hB x => absurd x (hT B)
  · exact fun B _ x => absurd x (hO B)
  · exact fun B _ x => absurd x (hT B)
  · exact fun j o x => by simp [H0, H.only, none'] at x
  · exact fun t x => by simp [H0, H.only] at x
theorem FnIs.pcalls {f : FuncId} {ac : AC} {args : List AV} {ds : List RV} {r : AV} (hF : FnIs P f N ac ds) (hl : args.length ≤ N) (ha : VPures args) (hp : VPure r) (hw : ∀ n m, Wp P N ac ⟨initT args, H0 n m⟩ fun e s' => isEnd e ∧ ∃ q, resOf ds s'.t s'.h = some q ∧ VSub q r) : PCalls P f args r := by
  intro n m
  obtain ⟨r', h', hcall, hs⟩ := hF.acalls (Q := fun r' _ => VSub r' r) hl (hw n m)
  exact hcall.pure ha hs hp
end
end Go.Av
end
