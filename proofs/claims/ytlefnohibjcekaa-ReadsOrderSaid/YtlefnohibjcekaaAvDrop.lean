/- Rows that calls look at, use up, or put in another's place; objects that are given up on the way. -/
import Derived.Test.YtlefnohibjcekaaAvTrk
import Derived.Test.YtlefnohibjcekaaAvLoop
set_option linter.unusedVariables false
set_option linter.unusedSimpArgs false
namespace Go.Av
section
variable {P : Program} {N : Nat} {Q : AExit → St → Prop}

/-- objects are given up on the way -/
theorem Wp.frz {c : AC} {t : Tm} {h : H} (d : Nat → Bool) (l : List (Nat × AV)) (h' : H) (hs : AllSub (fun i => unT h d (t i)) l) (ho : OLe (h.drop d).objs h'.objs) (hk : ∀ x ∈ h'.toks, x ∈ h.toks) (hn : h.n ≤ h'.n) (hm : h.m ≤ h'.m) (k : Wp P N c ⟨tm l, h'⟩ Q) : Wp P N c ⟨t, h⟩ Q :=
  Wp.le (StLe.trans (frz_le t h d) (StLe.trans (StLe.tm hs) (StLe.of (f := (h.drop d).objs) (n := h.n) (m := h.m) (k := h.toks) (fun i => VSub.refl _) ho hk hn hm))) k

theorem only_T0 {G : Ghost} {f : Nat → Option Obj} {n m : Nat} (B : Nat) : ¬ (H.only f [] n m).T G B := fun ⟨t, ht, _⟩ => by simp [H.only] at ht

/-- a call that is shown for plain rows looks at a tracked one, if what it answers names no memory -/
theorem PCalls.look {f : FuncId} {xs args : List AV} {r : AV} (hc : PCalls P f (.sl 1 xs .any :: args) r) (hr : ∀ G G' w v, VRel G w r v → VRel G' w r v) (c : Option Nat) (id : Nat) : RCalls P f (.tsl 1 id 0 xs.length c :: args) (upd none' id (some (.cells xs))) r := by
  intro n m G w vs hv R F
  have ho : (H.only (upd none' id (some (.cells xs))) [] n m).objs id = some (.cells xs) := by simp [H.only, upd]
  have hv' : VRels (G.frz (H.only (upd none' id (some (.cells xs))) [] n m) fun _ => true) w (.sl 1 xs .any :: args) vs := by
    simp only [VRels] at hv ⊢
    obtain ⟨v, us, e, h1, h2⟩ := hv
    refine ⟨v, us, e, ?_, VRels.mono R (frz_trans _) _ _ h2⟩
    have := frz_tsl R (d := fun _ => true) ho rfl (by omega) h1
    simpa using this
  refine (hc n m _ w vs hv' only_rep ⟨fun j h1 h2 => by simp only [H0, H.only] at h1 h2; omega, fun j h1 h2 => by simp only [H0, H.only] at h1 h2; omega⟩).mono ?_
  rintro e w' ⟨v, G', rfl, T, R', V⟩
  obtain ⟨q1, q2, q3, q4⟩ := R.obj id _ ho
  have hne : ∀ B, ¬ (H.only (upd none' id (some (.cells xs))) [] n m).O G B → B ≠ G.ι id := fun B h1 e => h1 ⟨id, _, ho, e.symm⟩
  have hDO : ∀ B, ¬ (H.only (upd none' id (some (.cells xs))) [] n m).O G B → ¬ (H.only (upd none' id (some (.cells xs))) [] n m).DO G (fun _ => true) B := fun B h1 h2 => h1 (DO_O h2)
  have hT : ∀ {G : Ghost} B, ¬ (H0 n m).T G B := fun B ⟨t, ht, _⟩ => by simp [H0, H.only] at ht
  let G3 : Ghost := { own := fun B => B = G.ι id ∨ G'.own B, lim := fun B => if B = G.ι id then G.lim B else G'.lim B, dom := G.dom, ι := G.ι, tdom := G.tdom, τ := G.τ }
  have T3 : Trans G w (H.only (upd none' id (some (.cells xs))) [] n m) G3 w' (H.only (upd none' id (some (.cells xs))) [] n m) := by
    constructor
    · exact fun _ x => x
    · exact fun _ => .inl
    · exact fun _ _ => rfl
    · exact fun _ x => x
    · exact fun _ => .inl
    · exact fun _ _ => rfl
    · exact Nat.le_refl _
    · exact Nat.le_refl _
    · exact T.size_le
    · exact T.os
    · exact T.output
    · exact T.form
    · exact fun B hB _ _ => T.keep B hB (only_O B) (hT B)
    · intro B hB h1
      have e1 := T.own_keep B hB (only_O B)
      have e2 := hDO B h1
      have e3 := hne B h1
      simp only [G3, e3, false_or, e1, Ghost.frz, e2, not_false_eq_true, and_true]
    · intro B hB h1 _
      have e1 := T.lim_keep B hB (only_O B) (hT B)
      have e2 := hDO B h1
      have e3 := hne B h1
      simp only [G3, e3, if_false, e1, Ghost.frz, e2]
    · exact fun B hB x => absurd x (only_T0 B)
    · exact fun B _ x => x
    · exact fun B _ x => absurd x (only_T0 B)
    · exact fun j o x => .inl ⟨o, x⟩
    · exact fun t x => by simp [H.only] at x
  refine ⟨v, G3, rfl, T3, ?_, hr G' G3 w' v V⟩
  refine ⟨fun j o hj => ?_, fun i j o o' a b e => R.inj _ _ _ _ a b e, fun t ht => by simp [H.only] at ht, fun t ht => by simp [H.only] at ht⟩
  obtain ⟨p1, p2, p3, p4⟩ := R.obj j o hj
  have hj' : j = id := by
    simp only [H.only, upd, none'] at hj
    split at hj
    · assumption
    · cases hj
  subst hj'
  refine ⟨p1, .inl rfl, Nat.lt_of_lt_of_le p3 T.size_le, ?_⟩
  have hk : w'.heap[G.ι j]? = w.heap[G.ι j]? := T.keep _ p3 (only_O _) (hT _)
  show ORel G3 w' o w'.heap[G.ι j]?
  rw [hk]
  cases o with
  | cells cs =>
    obtain ⟨vs, rest, T', fr, y1, y2, y3⟩ := p4
    exact ⟨vs, rest, T', fr, y1, VRels.mono R T3 _ _ y2, y3⟩
  | map es =>
    obtain ⟨en, clock, y1, y2⟩ := p4
    exact ⟨en, clock, y1, Entries.mono R T3 _ _ y2⟩

/-- a call that uses a tracked row up -/
def DCalls (P : Program) (f : FuncId) (cells : List AV) (len : Nat) (args : List AV) (r : AV) : Prop :=
  ∀ id n m, id < n → ACalls P f (.tsl 1 id 0 len none :: args) (.only (upd none' id (some (.cells cells))) [] n m) r (H0 n m)

theorem FnIs.dcalls {f : FuncId} {ac : AC} {cells args : List AV} {len : Nat} {ds : List RV} {r : AV} (hF : FnIs P f N ac ds) (hl : args.length + 1 ≤ N) (hcp : allPure cells = true) (ha : allPure args = true) (hp : isPure r = true)
    (hw : Wp P N ac ⟨initT (.tsl 1 0 0 len none :: args), .only (upd none' 0 (some (.cells cells))) [] 1 0⟩ fun e s' => isEnd e ∧ ∃ q, resOf ds s'.t s'.h = some q ∧ VSub (unT s'.h (fun _ => true) q) r) : DCalls P f cells len args r := by
  obtain ⟨r', h', hcall0, hs⟩ := hF.acalls (Q := fun r' h' => VSub (unT h' (fun _ => true) r') r) (by simpa using hl) hw
  have hcall := hcall0.frz (fun _ => true)
  intro id n m hid G w vs hv R F
  have ho : (H.only (upd none' id (some (.cells cells))) [] n m).objs id = some (.cells cells) := by simp [H.only, upd]
  obtain ⟨q1, q2, q3, q4⟩ := R.obj id _ ho
  let G0 : Ghost := { G with dom := fun j => j = 0, ι := fun _ => G.ι id, tdom := fun _ => False }
  have hv0 : VRels G0 w (.tsl 1 0 0 len none :: args) vs := by
    simp only [VRels] at hv ⊢
    obtain ⟨v, us, e, h1, h2⟩ := hv
    refine ⟨v, us, e, ?_, allPure_ok _ ha G G0 w us rfl rfl h2⟩
    simp only [VRel] at h1 ⊢
    exact ⟨rfl, h1.2⟩
  have R0 : RepH G0 (.only (upd none' 0 (some (.cells cells))) [] 1 0) w := by
    have e0 : ∀ {j o}, (H.only (upd none' 0 (some (.cells cells))) [] 1 0).objs j = some o → j = 0 ∧ o = .cells cells := by
      intro j o hj
      simp only [H.only, upd, none'] at hj
      split at hj
      · cases hj; exact ⟨by assumption, rfl⟩
      · cases hj
    refine ⟨fun j o hj => ?_, fun i j o o' a b _ => by rw [(e0 a).1, (e0 b).1], fun t ht => by simp [H.only] at ht, fun t ht => by simp [H.only] at ht⟩
    obtain ⟨rfl, rfl⟩ := e0 hj
    refine ⟨rfl, q2, q3, ?_⟩
    obtain ⟨ws, rest, T, fr, y1, y2, y3⟩ := q4
    exact ⟨ws, rest, T, fr, y1, allPure_ok _ hcp G G0 w ws rfl rfl y2, y3⟩
  refine (hcall G0 w vs hv0 R0 ⟨fun j h1 h2 h3 => by simp only [G0] at h3; simp only [H.only] at h1; omega, fun _ _ _ h => h⟩).mono ?_
  rintro e w' ⟨v, G', rfl, T, R', V⟩
  refine ⟨v, { G' with dom := G.dom, ι := G.ι, tdom := G.tdom, τ := G.τ }, rfl, ?_, only_rep, isPure_ok _ hp G' _ w' v rfl rfl (hs G' w' v V)⟩
  have hO : ∀ B, ¬ (H.only (upd none' id (some (.cells cells))) [] n m).O G B → ¬ (H.only (upd none' 0 (some (.cells cells))) [] 1 0).O G0 B := by
    rintro B h1 ⟨j, o, a, b⟩
    exact h1 ⟨id, _, ho, b⟩
  constructor
  · exact fun _ x => x
  · exact fun _ => .inl
  · exact fun _ _ => rfl
  · exact fun _ x => x
  · exact fun _ => .inl
  · exact fun _ _ => rfl
  · exact Nat.le_refl _
  · exact Nat.le_refl _
  · exact T.size_le
  · exact T.os
  · exact T.output
  · exact T.form
  · exact fun B hB h1 _ => T.keep B hB (hO B h1) (only_T0 B)
  · exact fun B hB h1 => T.own_keep B hB (hO B h1)
  · exact fun B hB h1 _ => T.lim_keep B hB (hO B h1) (only_T0 B)
  · exact fun B hB x => absurd x (only_T0 B)
  · exact fun B _ x => absurd x (only_O B)
  · exact fun B _ x => absurd x (only_T0 B)
  · exact fun j o x => by simp [H0, H.only, none'] at x
  · exact fun t x => by simp [H0, H.only] at x

theorem WpItems.dcall {dst : Option Nat} {g : Option (Nat × Bool)} {f : FuncId} {l : List Opd} {its : List AItem} {t : Tm} {h : H} {log : List Ent} {K : Tm → H → List Ent → Prop} {cells args : List AV} {len : Nat} {r : AV} (id : Nat) (hg : guardOf t g = some true) (hs : VSubs (l.map (ev t)) (.tsl 1 id 0 len none :: args))
    (hc : DCalls P f cells len args r) (ho : h.objs id = some (.cells cells)) (hid : id < h.n)
    (rest : WpItems P N its (putT t dst r) { h with objs := fun j => if j = id then none else h.objs j } (⟨[], [id], []⟩ :: log) K) : WpItems P N (⟨dst, g, .call f l⟩ :: its) t h log K :=
  WpItems.acall hg hs (hc id h.n h.m hid) (touch_drop h ho) rest

/-- a heap in which a row has taken another one's place -/
def H.turn (h : H) (id : Nat) (o : Obj) : H := { h with objs := upd (fun j => if j = id then none else h.objs j) h.n (some o), n := h.n + 1 }

/-- a tracked row is used up: what stands behind the call is a new tracked row, in its own block or in a new one -/
theorem row_new {G : Ghost} {h : H} {w w' : World} {id B C : Nat} {cs xs : List AV} {vs rest : List Value} {T0 : TypeId} {fr : Nat × Nat} (R : RepH G h w) (ho : h.objs id = some (.cells cs)) (ht : h.toks = []) (hn : ¬ G.dom h.n) (hs : w.heap.size ≤ w'.heap.size) (hos : w'.os = w.os) (hou : w'.output = w.output)
    (hk : ∀ b, b < w.heap.size → b ≠ G.ι id → w'.heap[b]? = w.heap[b]?) (hf : SameForm w.heap[G.ι id]? w'.heap[G.ι id]?) (hB : B = G.ι id ∨ w.heap.size ≤ B) (hC : xs.length ≤ C ∧ C ≤ 9223372036854775807) (hl : vs.length = xs.length) (hE : ∀ G w, VRels G w xs vs)
    (h1 : ∀ v ∈ vs, One v) (hg : w'.heap[B]? = some (.cells (vs ++ rest).toArray T0 fr)) (hroom : C ≤ vs.length + rest.length) (hfr : ∀ j, ¬ (fr.1 ≤ j ∧ j < fr.2)) :
    ∃ G', Trans G w h G' w' (h.turn id (.cells xs)) ∧ RepH G' (h.turn id (.cells xs)) w' ∧ VRel G' w' (.tsl 1 h.n 0 xs.length none) (.slice (some ⟨B, 0, none⟩) xs.length C) := by
  obtain ⟨i1, i2, i3, i4⟩ := R.obj id _ ho
  let G' : Ghost := { G with dom := fun j => G.dom j ∨ j = h.n, ι := upd G.ι h.n B, own := fun b => b = B ∨ (G.own b ∧ b ≠ G.ι id ∧ b < w.heap.size), lim := fun b => if b = G.ι id ∨ w.heap.size ≤ b then none else G.lim b }
  have hO : ∀ b, ¬ h.O G b → b ≠ G.ι id := fun b hh e => hh ⟨id, _, ho, e.symm⟩
  have hOB : ∀ b, b < w.heap.size → ¬ h.O G b → b ≠ B := by
    intro b hb hh e
    rcases hB with e' | e'
    · exact hO b hh (e.trans e')
    · omega
  have hιn : G'.ι h.n = B := by simp [G', upd]
  have hι : ∀ j, j ≠ h.n → G'.ι j = G.ι j := fun j hj => by simp [G', upd, hj]
  have hd : ∀ {j o}, (h.turn id (.cells xs)).objs j = some o → (j = h.n ∧ o = .cells xs) ∨ (j ≠ h.n ∧ h.objs j = some o ∧ j ≠ id) := by
    intro j o a
    simp only [H.turn, upd] at a
    split at a
    · cases a; exact .inl ⟨by assumption, rfl⟩
    · rename_i e
      split at a
      · cases a
      · exact .inr ⟨e, a, ‹_›⟩
  have T : Trans G w h G' w' (h.turn id (.cells xs)) := by
    constructor
    · exact fun _ x => .inl x
    · rintro j (x | x)
      · exact .inl x
      · exact .inr ⟨by omega, by simp only [H.turn]; omega⟩
    · intro j x
      exact hι j fun e => hn (e ▸ x)
    · exact fun _ x => x
    · exact fun _ => .inl
    · exact fun _ _ => rfl
    · exact Nat.le_succ _
    · exact Nat.le_refl _
    · exact hs
    · exact hos
    · exact hou
    · intro b hb
      by_cases e : b = G.ι id
      · subst e; exact hf
      · rw [hk b hb e]; exact SameForm.refl _
    · exact fun b hb h _ => hk b hb (hO b h)
    · intro b hb h
      simp only [G', hb, hO b h, hOB b hb h, false_or, and_true, ne_eq, not_false_eq_true]
    · intro b hb h _
      simp only [G']
      rw [if_neg]
      rintro (e | e)
      · exact hO b h e
      · omega
    · rintro b hb ⟨t, htt, _⟩
      simp [ht] at htt
    · rintro b hb ⟨j, o, a, e⟩
      rcases hd a with ⟨rfl, -⟩ | ⟨x1, x2, x3⟩
      · rw [hιn] at e
        rcases hB with e' | e'
        · exact ⟨id, _, ho, e'.symm.trans e⟩
        · omega
      · rw [hι j x1] at e
        exact ⟨j, o, x2, e⟩
    · rintro b _ ⟨t, htt, _⟩
      simp [H.turn, ht] at htt
    · intro j o a
      rcases hd a with ⟨rfl, -⟩ | ⟨x1, x2, x3⟩
      · exact .inr ⟨Nat.le_refl _, Nat.lt_succ_self _⟩
      · exact .inl ⟨o, x2⟩
    · exact fun t x => by simp [H.turn, ht] at x
  have hBs : B < w'.heap.size := by
    rcases Nat.lt_or_ge B w'.heap.size with h | h
    · exact h
    · rw [Array.getElem?_eq_none h] at hg; cases hg
  refine ⟨G', T, ?_, ?_⟩
  · constructor
    · intro j o a
      rcases hd a with ⟨rfl, rfl⟩ | ⟨x1, x2, x3⟩
      · rw [hιn]
        exact ⟨.inr rfl, .inl rfl, hBs, vs, rest, T0, fr, hg, hE _ _, hfr, h1⟩
      · obtain ⟨r1, r2, r3, r4⟩ := R.obj j o x2
        have hne : G.ι j ≠ G.ι id := fun e => x3 (R.inj _ _ _ _ x2 ho e)
        rw [hι j x1]
        refine ⟨.inl r1, .inr ⟨r2, hne, r3⟩, Nat.lt_of_lt_of_le r3 hs, ?_⟩
        rw [hk _ r3 hne]
        cases o with
        | cells cs =>
          obtain ⟨vs, rest, T', fr, y1, y2, y3⟩ := r4
          exact ⟨vs, rest, T', fr, y1, VRels.mono R T _ _ y2, y3⟩
        | map es =>
          obtain ⟨en, clock, y1, y2⟩ := r4
          exact ⟨en, clock, y1, Entries.mono R T _ _ y2⟩
    · intro i j o o' a b e
      have hcl : ∀ {k p}, k ≠ h.n → h.objs k = some p → k ≠ id → G.ι k ≠ B := by
        intro k p _ y2 y3 e
        rcases hB with e' | e'
        · exact y3 (R.inj _ _ _ _ y2 ho (e.trans e'))
        · have := (R.obj k p y2).2.2.1; omega
      rcases hd a with ⟨rfl, rfl⟩ | ⟨x1, x2, x3⟩ <;> rcases hd b with ⟨rfl, rfl⟩ | ⟨y1, y2, y3⟩
      · rfl
      · rw [hιn, hι j y1] at e; exact absurd e.symm (hcl y1 y2 y3)
      · rw [hιn, hι i x1] at e; exact absurd e (hcl x1 x2 x3)
      · rw [hι i x1, hι j y1] at e; exact R.inj _ _ _ _ x2 y2 e
    · exact fun t x => by simp [H.turn, ht] at x
    · exact fun t x => by simp [H.turn, ht] at x
  · unfold VRel
    refine ⟨.inr rfl, .inl ⟨C, (vs ++ rest).toArray, T0, fr, by rw [hιn], hC, (fun _ h => by cases h), by rw [hιn]; exact hg, by simpa using hroom⟩⟩

theorem touch_turn (h : H) {id : Nat} {ob o : Obj} (ho : h.objs id = some ob) (hid : id < h.n) : Touch h (.only (upd none' id (some ob)) [] h.n h.m) ((H.only (upd none' id (some ob)) [] h.n h.m).turn id o) (h.turn id o) ⟨[], [id, h.n], []⟩ where
  sub := (touch_read h ho).sub
  n := rfl
  m := rfl
  eq := H.ext (fun j => by
    simp only [H.patch, H.turn, H.only, upd, none']
    by_cases e : j = id
    · subst e; simp
    · by_cases e2 : j = h.n
      · subst e2; simp
      · simp [e, e2]; omega) rfl (by simp [H.patch, H.turn, H.only, filter_tt]) rfl
  rd j x := by
    simp only [H.only, upd, none'] at x
    split at x
    · rename_i e; subst e; simp
    · cases x
  wr j a b := by
    simp only [H.turn, H.only] at a b
    have : j = h.n := by omega
    subst this; simp
  chg j x hj := by
    simp only [H.only, upd, none'] at x
    split at x
    · rename_i e; subst e; simp at hj
    · cases x
  tk t x := by simp [H.only] at x
  tn t x := by simp [H.turn, H.only] at x
  le := Nat.le_succ _
  lem := Nat.le_refl _

theorem touch_turn2 (h : H) {id id2 : Nat} {ob ob2 o : Obj} (ho : h.objs id = some ob) (ho2 : h.objs id2 = some ob2) (hne : id ≠ id2) (hid : id < h.n) (hid2 : id2 < h.n) :
    Touch h (.only (upd (upd none' id (some ob)) id2 (some ob2)) [] h.n h.m) ((H.only (upd (upd none' id (some ob)) id2 (some ob2)) [] h.n h.m).turn id o) (h.turn id o) ⟨[id2], [id, h.n], []⟩ where
  sub := ⟨fun j p x => by
    simp only [H.only, upd, none'] at x
    split at x
    · rename_i e; subst e; cases x; exact ho2
    · split at x
      · rename_i e; subst e; cases x; exact ho
      · exact absurd x (by simp), fun t x => by simp [H.only] at x⟩
  n := rfl
  m := rfl
  eq := H.ext (fun j => by
    simp only [H.patch, H.turn, H.only, upd, none']
    by_cases e : j = id
    · subst e; simp [hne]
    · by_cases e2 : j = h.n
      · subst e2; simp
      · by_cases e3 : j = id2
        · subst e3; simp [e, e2, ho2]
        · simp [e, e2, e3]; omega) rfl (by simp [H.patch, H.turn, H.only, filter_tt]) rfl
  rd j x := by
    simp only [H.only, upd, none'] at x
    split at x
    · rename_i e; subst e; simp
    · split at x
      · rename_i e; subst e; simp
      · cases x
  wr j a b := by
    simp only [H.turn, H.only] at a b
    have : j = h.n := by omega
    subst this; simp
  chg j x hj := by
    simp only [H.only, upd, none'] at x
    simp only [List.mem_cons, List.not_mem_nil, or_false, not_or] at hj
    split at x
    · rename_i e; subst e
      simp only [H.turn, H.only, upd]
      simp [hj.1, hj.2]
    · split at x
      · rename_i e; subst e; exact absurd rfl hj.1
      · cases x
  tk t x := by simp [H.only] at x
  tn t x := by simp [H.turn, H.only] at x
  le := Nat.le_succ _
  lem := Nat.le_refl _
end
end Go.Av
