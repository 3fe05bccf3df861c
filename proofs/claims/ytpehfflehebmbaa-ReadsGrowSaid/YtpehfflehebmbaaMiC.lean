/- Parts of a proof: a layer of abstract values over the model, the functions' walks, plain laws. -/
import Derived.Deep.CondSized
import Derived.IntWalk
import Derived.KernelRfl
import Derived.Laws.Append
import Derived.Laws.AppendOwn
import Derived.Laws.BytesArg
import Derived.Laws.Cover3
import Derived.Laws.Entries
import Derived.Laws.IdiomCopy
import Derived.Laws.IdiomStrings
import Derived.Laws.Pointers
import Derived.Laws.Small
import Derived.Laws.Strings
import Derived.Laws.StructEq
import Derived.MapKept
import Derived.OpenShut
import Derived.Orders
import Derived.OrdersIn
import Derived.ProofKit
import Derived.RangeFuncRecord
import Derived.RangeFuncSeq
import Derived.ReadAgain
import Derived.Scope
import Derived.Shelf.Slices.Cells
import Derived.Shelf.Spec.SlicesInsertGrow
import Derived.SizedLaws
import Derived.Test.YtpehfflehebmbaaRows
import Derived.Test.YtpehfflehebmbaaMiB
section
set_option linter.unusedVariables false
set_option linter.unusedSimpArgs false
namespace Go.Av
section
variable {P : Program} {N : Nat} {Q : AExit → St → Prop}
theorem Wp.frz {c : AC} {t : Tm} {h : H} (d : Nat → Bool) (l : List (Nat × AV)) (h' : H) (hs : AllSub (fun i => unT h d (t i)) l) (ho : OLe (h.drop d).objs h'.objs) (hk : ∀ x ∈ h'.toks, x ∈ h.toks) (hn : h.n ≤ h'.n) (hm : h.m ≤ h'.m) (k : Wp P N c ⟨tm l, h'⟩ Q) : Wp P N c ⟨t, h⟩ Q :=
  Wp.le (StLe.trans (frz_le t h d) (StLe.trans (StLe.tm hs) (StLe.of (f := (h.drop d).objs) (n := h.n) (m := h.m) (k := h.toks) (fun i => VSub.refl _) ho hk hn hm))) k
theorem only_T0 {G : Ghost} {f : Nat → Option Obj} {n m : Nat} (B : Nat) : ¬ (H.only f [] n m).T G B := fun ⟨t, ht, _⟩ => by simp [H.only] at ht
theorem PCalls.look {f : FuncId} {xs args : List AV} {r : AV} (hc : PCalls P f (.sl 1 xs .any :: args) r) (hr : ∀ G G' w v, VRel G w r v → VRel G' w r v) (c : Option Nat) (id : Nat) : RCalls P f (.tsl 1 id 0 xs.length c :: args) (upd none' id (some (.cells xs))) r := by
  intro n m G w vs hv R F
  have ho : (H.only (upd none' id (some (.cells xs))) [] n m).objs id = some (.cells xs) := by simp [H.only, upd]
  have hv' : VRels (G.frz (H.only (upd none' id (some (.cells xs))) [] n m) fun _ => true) w (.sl 1 xs .any :: args) vs := by
    simp only [VRels] at hv ⊢
    obtain ⟨v, us, e, h1, h2⟩ := hv
    refine ⟨v, us, e, ?_, VRels.mono R (frz_trans _) _ _ h2⟩
    have := frz_tsl R (d := fun _ => true) ho rfl (by omega) h1
    simpa using this
  refine (hc n m _ w vs hv' only_rep ⟨fun j h1 h2 => by simp only [H0, H.only] at h1 h2; omega, fun j h1 h2 => by simp only [H0, H.only] at h1 h2; omega⟩).mono ?_
  rintro e w' ⟨v, G', rfl, T, R', V⟩
  obtain ⟨q1, q2, q3, q4⟩ := R.obj id _ ho
  have hne : ∀ B, ¬ (H.only (upd none' id (some (.cells xs))) [] n m).O G B → B ≠ G.ι id := fun B h1 e => h1 ⟨id, _, ho, e.symm⟩
  have hDO : ∀ B, ¬ (H.only (upd none' id (some (.cells xs))) [] n m).O G B → ¬ (H.only (upd none' id (some (.cells xs))) [] n m).DO G (fun _ => true) B := fun B h1 h2 => h1 (DO_O h2)
  have hT : ∀ {G : Ghost} B, ¬ (H0 n m).T G B := fun B ⟨t, ht, _⟩ => by simp [H0, H.only] at ht
  let G3 : Ghost := { own := fun B => B = G.ι id ∨ G'.own B, lim := fun B => if B = G.ι id then G.lim B else G'.lim B, dom := G.dom, ι := G.ι, tdom := G.tdom, τ := G.τ }
  have T3 : Trans G w (H.only (upd none' id (some (.cells xs))) [] n m) G3 w' (H.only (upd none' id (some (.cells xs))) [] n m) := by
    constructor
    · exact fun _ x => x
    · exact fun _ => .inl
    · exact fun _ _ => rfl
    · exact fun _ x => x
    · exact fun _ => .inl
    · exact fun _ _ => rfl
    · exact Nat.le_refl _
    · exact Nat.le_refl _
    · exact T.size_le
    · exact T.os
    · exact T.output
    · exact T.form
    · exact fun B hB _ _ => T.keep B hB (only_O B) (hT B)
    · intro B hB h1
      have e1 := T.own_keep B hB (only_O B)
      have e2 := hDO B h1
      have e3 := hne B h1
      simp only [G3, e3, false_or, e1, Ghost.frz, e2, not_false_eq_true, and_true]
    · intro B hB h1 _
      have e1 := T.lim_keep B hB (only_O B) (hT B)
      have e2 := hDO B h1
      have e3 := hne B h1
      simp only [G3, e3, if_false, e1, Ghost.frz, e2]
    · exact fun B hB x => absurd x (only_T0 B)
    · exact fun B _ x => x
    · exact fun B _ x => absurd x (only_T0 B)
    · exact fun j o x => .inl ⟨o, x⟩
    · exact fun t x => by simp [H.only] at x
  refine ⟨v, G3, rfl, T3, ?_, hr G' G3 w' v V⟩
  refine ⟨fun j o hj => ?_, fun i j o o' a b e => R.inj _ _ _ _ a b e, fun t ht => by simp [H.only] at ht, fun t ht => by simp [H.only] at ht⟩
  obtain ⟨p1, p2, p3, p4⟩ := R.obj j o hj
  have hj' : j = id := by
    simp only [H.only, upd, none'] at hj
    split at hj
    · assumption
    · cases hj
  subst hj'
  refine ⟨p1, .inl rfl, Nat.lt_of_lt_of_le p3 T.size_le, ?_⟩
  have hk : w'.heap[G.ι j]? = w.heap[G.ι j]? := T.keep _ p3 (only_O _) (hT _)
  show ORel G3 w' o w'.heap[G.ι j]?
  rw [hk]
  cases o with
  | cells cs =>
    obtain ⟨vs, rest, T', fr, y1, y2, y3⟩ := p4
    exact ⟨vs, rest, T', fr, y1, VRels.mono R T3 _ _ y2, y3⟩
  | map es =>
    obtain ⟨en, clock, y1, y2⟩ := p4
    exact ⟨en, clock, y1, Entries.mono R T3 _ _ y2⟩
  | loop N t ps asg body st pend =>
    obtain ⟨r, y1, y2, y3, y4⟩ := p4
    exact ⟨r, y1, y2, fun i => VRel.mono R T3 _ _ (y3 i), y4⟩
def DCalls (P : Program) (f : FuncId) (cells : List AV) (len : Nat) (args : List AV) (r : AV) : Prop :=
  ∀ id n m, id < n → ACalls P f (.tsl 1 id 0 len none :: args) (.only (upd none' id (some (.cells cells))) [] n m) r (H0 n m)
theorem FnIs.dcalls {f : FuncId} {ac : AC} {cells args : List AV} {len : Nat} {ds : List RV} {r : AV} (hF : FnIs P f N ac ds) (hl : args.length + 1 ≤ N) (hcp : allPure cells = true) (ha : allPure args = true) (hp : isPure r = true)
    (hw : Wp P N ac ⟨initT (.tsl 1 0 0 len none :: args), .only (upd none' 0 (some (.cells cells))) [] 1 0⟩ fun e s' => isEnd e ∧ ∃ q, resOf ds s'.t s'.h = some q ∧ VSub (unT s'.h (fun _ => true) q) r) : DCalls P f cells len args r := by
  obtain ⟨r', h', hcall0, hs⟩ := hF.acalls (Q := fun r' h' => VSub (unT h' (fun _ => true) r') r) (by simpa using hl) hw
  have hcall := hcall0.frz (fun _ => true)
  intro id n m hid G w vs hv R F
  have ho : (H.only (upd none' id (some (.cells cells))) [] n m).objs id = some (.cells cells) := by simp [H.only, upd]
  obtain ⟨q1, q2, q3, q4⟩ := R.obj id _ ho
  let G0 : Ghost := { G with dom := fun j => j = 0, ι := fun _ => G.ι id, tdom := fun _ => False }
  have hv0 : VRels G0 w (.tsl 1 0 0 len none :: args) vs := by
    simp only [VRels] at hv ⊢
    obtain ⟨v, us, e, h1, h2⟩ := hv
    refine ⟨v, us, e, ?_, allPure_ok _ ha G G0 w us rfl rfl h2⟩
    simp only [VRel] at h1 ⊢
    exact ⟨rfl, h1.2⟩
  have R0 : RepH G0 (.only (upd none' 0 (some (.cells cells))) [] 1 0) w := by
    have e0 : ∀ {j o}, (H.only (upd none' 0 (some (.cells cells))) [] 1 0).objs j = some o → j = 0 ∧ o = .cells cells := by
      intro j o hj
      simp only [H.only, upd, none'] at hj
      split at hj
      · cases hj; exact ⟨by assumption, rfl⟩
      · cases hj
    refine ⟨fun j o hj => ?_, fun i j o o' a b _ => by rw [(e0 a).1, (e0 b).1], fun t ht => by simp [H.only] at ht, fun t ht => by simp [H.only] at ht⟩
    obtain ⟨rfl, rfl⟩ := e0 hj
    refine ⟨rfl, q2, q3, ?_⟩
    obtain ⟨ws, rest, T, fr, y1, y2, y3⟩ := q4
    exact ⟨ws, rest, T, fr, y1, allPure_ok _ hcp G G0 w ws rfl rfl y2, y3⟩
  refine (hcall G0 w vs hv0 R0 ⟨fun j h1 h2 h3 => by simp only [G0] at h3; simp only [H.only] at h1; omega, fun _ _ _ h => h⟩).mono ?_
  rintro e w' ⟨v, G', rfl, T, R', V⟩
  refine ⟨v, { G' with dom := G.dom, ι := G.ι, tdom := G.tdom, τ := G.τ }, rfl, ?_, only_rep, isPure_ok _ hp G' _ w' v rfl rfl (hs G' w' v V)⟩
  have hO : ∀ B, ¬ (H.only (upd none' id (some (.cells cells))) [] n m).O G B → ¬ (H.only (upd none' 0 (some (.cells cells))) [] 1 0).O G0 B := by
    rintro B h1 ⟨j, o, a, b⟩
    exact h1 ⟨id, _, ho, b⟩
  constructor
  · exact fun _ x => x
  · exact fun _ => .inl
  · exact fun _ _ => rfl
  · exact fun _ x => x
  · exact fun _ => .inl
  · exact fun _ _ => rfl
  · exact Nat.le_refl _
  · exact Nat.le_refl _
  · exact T.size_le
  · exact T.os
  · exact T.output
  · exact T.form
  · exact fun B hB h1 _ => T.keep B hB (hO B h1) (only_T0 B)
  · exact fun B hB h1 => T.own_keep B hB (hO B h1)
  · exact fun B hB h1 _ => T.lim_keep B hB (hO B h1) (only_T0 B)
  · exact fun B hB x => absurd x (only_T0 B)
  · exact fun B _ x => absurd x (only_O B)
  · exact fun B _ x => absurd x (only_T0 B)
  · exact fun j o x => by simp [H0, H.only, none'] at x
  · exact fun t x => by simp [H0, H.only] at x
theorem WpItems.dcall {dst : Option Nat} {g : Option (Nat × Bool)} {f : FuncId} {l : List Opd} {its : List AItem} {t : Tm} {h : H} {log : List Ent} {K : Tm → H → List Ent → Prop} {cells args : List AV} {len : Nat} {r : AV} (id : Nat) (hg : guardOf t g = some true) (hs : VSubs (l.map (ev t)) (.tsl 1 id 0 len none :: args))
    (hc : DCalls P f cells len args r) (ho : h.objs id = some (.cells cells)) (hid : id < h.n)
    (rest : WpItems P N its (putT t dst r) { h with objs := fun j => if j = id then none else h.objs j } (⟨[], [id], []⟩ :: log) K) : WpItems P N (⟨dst, g, .call f l⟩ :: its) t h log K :=
  WpItems.acall hg hs (hc id h.n h.m hid) (touch_drop h ho) rest
def H.turn (h : H) (id : Nat) (o : Obj) : H := { h with objs := upd (fun j => if j = id then none else h.objs j) h.n (some o), n := h.n + 1 }
theorem row_new {G : Ghost} {h : H} {w w' : World} {id B C : Nat} {cs xs : List AV} {vs rest : List Value} {T0 : TypeId} {fr : Nat × Nat} (R : RepH G h w) (ho : h.objs id = some (.cells cs)) (ht : h.toks = []) (hn : ¬ G.dom h.n) (hs : w.heap.size ≤ w'.heap.size) (hos : w'.os = w.os) (hou : w'.output = w.output)
    (hk : ∀ b, b < w.heap.size → b ≠ G.ι id → w'.heap[b]? = w.heap[b]?) (hf : SameForm w.heap[G.ι id]? w'.heap[G.ι id]?) (hB : B = G.ι id ∨ w.heap.size ≤ B) (hC : xs.length ≤ C ∧ C ≤ 9223372036854775807) (hl : vs.length = xs.length) (hE : ∀ G w, VRels G w xs vs)
    (h1 : ∀ v ∈ vs, One v) (hg : w'.heap[B]? = some (.cells (vs ++ rest).toArray T0 fr)) (hroom : C ≤ vs.length + rest.length) (hfr : ∀ j, ¬ (fr.1 ≤ j ∧ j < fr.2)) :
    ∃ G', Trans G w h G' w' (h.turn id (.cells xs)) ∧ RepH G' (h.turn id (.cells xs)) w' ∧ VRel G' w' (.tsl 1 h.n 0 xs.length none) (.slice (some ⟨B, 0, none⟩) xs.length C) := by
  obtain ⟨i1, i2, i3, i4⟩ := R.obj id _ ho
  let G' : Ghost := { G with dom := fun j => G.dom j ∨ j = h.n, ι := upd G.ι h.n B, own := fun b => b = B ∨ (G.own b ∧ b ≠ G.ι id ∧ b < w.heap.size), lim := fun b => if b = G.ι id ∨ w.heap.size ≤ b then none else G.lim b }
  have hO : ∀ b, ¬ h.O G b → b ≠ G.ι id := fun b hh e => hh ⟨id, _, ho, e.symm⟩
  have hOB : ∀ b, b < w.heap.size → ¬ h.O G b → b ≠ B := by
    intro b hb hh e
    rcases hB with e' | e'
    · exact hO b hh (e.trans e')
    · omega
  have hιn : G'.ι h.n = B := by simp [G', upd]
  have hι : ∀ j, j ≠ h.n → G'.ι j = G.ι j := fun j hj => by simp [G', upd, hj]
  have hd : ∀ {j o}, (h.turn id (.cells xs)).objs j = some o → (j = h.n ∧ o = .cells xs) ∨ (j ≠ h.n ∧ h.objs j = some o ∧ j ≠ id) := by
    intro j o a
    simp only [H.turn, upd] at a
    split at a
    · cases a; exact .inl ⟨by assumption, rfl⟩
    · rename_i e
      split at a
      · cases a
      · exact .inr ⟨e, a, ‹_›⟩
  have T : Trans G w h G' w' (h.turn id (.cells xs)) := by
    constructor
    · exact fun _ x => .inl x
    · rintro j (x | x)
      · exact .inl x
      · exact .inr ⟨by omega, by simp only [H.turn]; omega⟩
    · intro j x
      exact hι j fun e => hn (e ▸ x)
    · exact fun _ x => x
    · exact fun _ => .inl
    · exact fun _ _ => rfl
    · exact Nat.le_succ _
    · exact Nat.le_refl _
    · exact hs
    · exact hos
    · exact hou
    · intro b hb
      by_cases e : b = G.ι id
      · subst e; exact hf
      · rw [hk b hb e]; exact SameForm.refl _
    · exact fun b hb h _ => hk b hb (hO b h)
    · intro b hb h
      simp only [G', hb, hO b h, hOB b hb h, false_or, and_true, ne_eq, not_false_eq_true]
    · intro b hb h _
      simp only [G']
      rw [if_neg]
      rintro (e | e)
      · exact hO b h e
      · omega
    · rintro b hb ⟨t, htt, _⟩
      simp [ht] at htt
    · rintro b hb ⟨j, o, a, e⟩
      rcases hd a with ⟨rfl, -⟩ | ⟨x1, x2, x3⟩
      · rw [hιn] at e
        rcases hB with e' | e'
        · exact ⟨id, _, ho, e'.symm.trans e⟩
        · omega
      · rw [hι j x1] at e
        exact ⟨j, o, x2, e⟩
    · rintro b _ ⟨t, htt, _⟩
      simp [H.turn, ht] at htt
    · intro j o a
      rcases hd a with ⟨rfl, -⟩ | ⟨x1, x2, x3⟩
      · exact .inr ⟨Nat.le_refl _, Nat.lt_succ_self _⟩
      · exact .inl ⟨o, x2⟩
    · exact fun t x => by simp [H.turn, ht] at x
  have hBs : B < w'.heap.size := by
    rcases Nat.lt_or_ge B w'.heap.size with h | h
    · exact h
    · rw [Array.getElem?_eq_none h] at hg; cases hg
  refine ⟨G', T, ?_, ?_⟩
  · constructor
    · intro j o a
      rcases hd a with ⟨rfl, rfl⟩ | ⟨x1, x2, x3⟩
      · rw [hιn]
        exact ⟨.inr rfl, .inl rfl, hBs, vs, rest, T0, fr, hg, hE _ _, hfr, h1⟩
      · obtain ⟨r1, r2, r3, r4⟩ := R.obj j o x2
        have hne : G.ι j ≠ G.ι id := fun e => x3 (R.inj _ _ _ _ x2 ho e)
        rw [hι j x1]
        refine ⟨.inl r1, .inr ⟨r2, hne, r3⟩, Nat.lt_of_lt_of_le r3 hs, ?_⟩
        rw [hk _ r3 hne]
        cases o with
        | cells cs =>
          obtain ⟨vs, rest, T', fr, y1, y2, y3⟩ := r4
          exact ⟨vs, rest, T', fr, y1, VRels.mono R T _ _ y2, y3⟩
        | map es =>
          obtain ⟨en, clock, y1, y2⟩ := r4
          exact ⟨en, clock, y1, Entries.mono R T _ _ y2⟩
        | loop N t ps asg body st pend =>
          obtain ⟨r, y1, y2, y3, y4⟩ := r4
          exact ⟨r, y1, y2, fun i => VRel.mono R T _ _ (y3 i), y4⟩
    · intro i j o o' a b e
      have hcl : ∀ {k p}, k ≠ h.n → h.objs k = some p → k ≠ id → G.ι k ≠ B := by
        intro k p _ y2 y3 e
        rcases hB with e' | e'
        · exact y3 (R.inj _ _ _ _ y2 ho (e.trans e'))
        · have := (R.obj k p y2).2.2.1; omega
      rcases hd a with ⟨rfl, rfl⟩ | ⟨x1, x2, x3⟩ <;> rcases hd b with ⟨rfl, rfl⟩ | ⟨y1, y2, y3⟩
      · rfl
      · rw [hιn, hι j y1] at e; exact absurd e.symm (hcl y1 y2 y3)
      · rw [hιn, hι i x1] at e; exact absurd e (hcl x1 x2 x3)
      · rw [hι i x1, hι j y1] at e; exact R.inj _ _ _ _ x2 y2 e
    · exact fun t x => by simp [H.turn, ht] at x
    · exact fun t x => by simp [H.turn, ht] at x
  · unfold VRel
    refine ⟨.inr rfl, .inl ⟨C, (vs ++ rest).toArray, T0, fr, by rw [hιn], hC, (fun _ h => by cases h), by rw [hιn]; exact hg, by simpa using hroom⟩⟩
theorem touch_turn (h : H) {id : Nat} {ob o : Obj} (ho : h.objs id = some ob) (hid : id < h.n) : Touch h (.only (upd none' id (some ob)) [] h.n h.m) ((H.only (upd none' id (some ob)) [] h.n h.m).turn id o) (h.turn id o) ⟨[], [id, h.n], []⟩ where
  sub := (touch_read h ho).sub
  n := rfl
  m := rfl
  eq := H.ext (fun j => by
    simp only [H.patch, H.turn, H.only, upd, none']
    by_cases e : j = id
    · subst e; simp
    · by_cases e2 : j = h.n
      · subst e2; simp
      · simp [e, e2]; omega) rfl (by simp [H.patch, H.turn, H.only, filter_tt]) rfl
  rd j x := by
    simp only [H.only, upd, none'] at x
    split at x
    · rename_i e; subst e; simp
    · cases x
  wr j a b := by
    simp only [H.turn, H.only] at a b
    have : j = h.n := by omega
    subst this; simp
  chg j x hj := by
    simp only [H.only, upd, none'] at x
    split at x
    · rename_i e; subst e; simp at hj
    · cases x
  tk t x := by simp [H.only] at x
  tn t x := by simp [H.turn, H.only] at x
  le := Nat.le_succ _
  lem := Nat.le_refl _
theorem touch_turn2 (h : H) {id id2 : Nat} {ob ob2 o : Obj} (ho : h.objs id = some ob) (ho2 : h.objs id2 = some ob2) (hne : id ≠ id2) (hid : id < h.n) (hid2 : id2 < h.n) :
    Touch h (.only (upd (upd none' id (some ob)) id2 (some ob2)) [] h.n h.m) ((H.only (upd (upd none' id (some ob)) id2 (some ob2)) [] h.n h.m).turn id o) (h.turn id o) ⟨[id2], [id, h.n], []⟩ where
  sub := ⟨fun j p x => by
    simp only [H.only, upd, none'] at x
    split at x
    · rename_i e; subst e; cases x; exact ho2
    · split at x
      · rename_i e; subst e; cases x; exact ho
      · exact absurd x (by simp), fun t x => by simp [H.only] at x⟩
  n := rfl
  m := rfl
  eq := H.ext (fun j => by
    simp only [H.patch, H.turn, H.only, upd, none']
    by_cases e : j = id
    · subst e; simp [hne]
    · by_cases e2 : j = h.n
      · subst e2; simp
      · by_cases e3 : j = id2
        · subst e3; simp [e, e2, ho2]
        · simp [e, e2, e3]; omega) rfl (by simp [H.patch, H.turn, H.only, filter_tt]) rfl
  rd j x := by
    simp only [H.only, upd, none'] at x
    split at x
    · rename_i e; subst e; simp
    · split at x
      · rename_i e; subst e; simp
      · cases x
  wr j a b := by
    simp only [H.turn, H.only] at a b
    have : j = h.n := by omega
    subst this; simp
  chg j x hj := by
    simp only [H.only, upd, none'] at x
    simp only [List.mem_cons, List.not_mem_nil, or_false, not_or] at hj
    split at x
    · rename_i e; subst e
      simp only [H.turn, H.only, upd]
      simp [hj.1, hj.2]
    · split at x
      · rename_i e; subst e; exact absurd rfl hj.1
      · cases x
  tk t x := by simp [H.only] at x
  tn t x := by simp [H.turn, H.only] at x
  le := Nat.le_succ _
  lem := Nat.le_refl _
end
end Go.Av
end
section
set_option linter.unusedSimpArgs false
set_option linter.unusedVariables false
set_option maxRecDepth 10000
namespace Go.Proofs.Ytpehfflehebmbaa.Reads
open Go Go.Av Go.Proofs Go.Proofs.Ytpehfflehebmbaa.C Go.Proofs.Ytpehfflehebmbaa.Batch
abbrev Bs := List UInt8
structure Sp where
  f : Bs
  t : Bs
  deriving DecidableEq
instance : Inhabited Sp := ⟨⟨[], []⟩⟩
def encSp (s : Sp) : AV := .agg [.str s.f, .str s.t]
def sps (l : List Sp) : List AV := l.map encSp
theorem sps_length (l : List Sp) : (sps l).length = l.length := by simp [sps]
theorem sps_getD (l : List Sp) (k : Nat) (d : AV) (h : k < l.length) : (sps l).getD k d = encSp (l.getD k default) := by
  simp [sps, List.getD, List.getElem?_map, List.getElem?_eq_getElem h]
theorem sps_pure (l : List Sp) : allPure (sps l) = true := Av.allPure_map (fun x => by simp [encSp, isPure, allPure]) l
def encR (k : List Bs) (s : List Sp) : AV := .agg [.sl 1 (strs k) .any, .sl 2 (sps s) .any]
theorem encR_pure (k : List Bs) (s : List Sp) : isPure (encR k s) = true := by simp [encR, isPure, allPure, capPure, strs_pure, sps_pure]
def hasB (s : Sp) : Bool := decide (s.t = []) || Op.bytesLess s.f s.t
def apartB (a b : Sp) : Bool := !decide (a.t = []) && Op.bytesLess a.t b.f
def winB (s : Sp) (k : Bs) : Bool := !Op.bytesLess k s.f && (decide (s.t = []) || Op.bytesLess k s.t)
def joinB (a b : Sp) : Sp := ⟨if (Op.bytesLess a.f b.f || decide (a.f = b.f)) = true then a.f else b.f, if a.t = [] then [] else if b.t = [] then [] else if (!Op.bytesLess a.t b.t) = true then a.t else b.t⟩
def spanned (l : List Sp) (k : Bs) : Bool := l.any (winB · k)
theorem has_p (s : Sp) : PCalls Try.prog 87 [encSp s] (.bool (hasB s)) := by
  refine f87.pcalls0 (by simp) (by simp [allPure, isPure, encSp]) rfl ?_
  unfold c87
  cases h1 : decide (s.t = []) <;> cases h2 : Op.bytesLess s.f s.t
  all_goals
    repeat (first
      | ((first | apply Wp.seqItems | apply Wp.items); (· simp only [go_sem, reduceIte, Nat.reduceEqDiff, Nat.reduceAdd, bx, ax, if_true, if_false, Nat.reduceMul, Nat.reduceLeDiff, encSp, h1, h2]; exact rfl))
      | (refine WpItems.nil ⟨?_, ?_⟩; (· first | trivial | simp [pairsQ, pairsOk, apart, ent0]))
      | (apply Wp.cond_lit; (· simp only [go_sem, reduceIte, Nat.reduceEqDiff, Nat.reduceAdd, bx, ax, if_true, if_false, Nat.reduceMul, Nat.reduceLeDiff, encSp, h1, h2]; exact rfl); (· rfl))
      | refine Wp.skip ?_
      | refine Wp.label ?_
      | refine Wp.block ?_
      | refine Wp.exit ?_
      | refine Wp.seq ?_)
    refine Wp.ret ⟨trivial, _, rfl, ?_⟩
    simp only [go_sem, reduceIte, Nat.reduceEqDiff, Nat.reduceAdd, bx]
    simp only [hasB, h1, h2, Bool.true_or, Bool.false_or]
    exact VSub.refl _
theorem apart_p (a b : Sp) : PCalls Try.prog 88 [encSp a, encSp b] (.bool (apartB a b)) := by
  refine f88.pcalls0 (by simp) (by simp [allPure, isPure, encSp]) rfl ?_
  unfold c88
  cases h1 : decide (a.t = []) <;> cases h2 : Op.bytesLess a.t b.f
  all_goals
    repeat (first
      | ((first | apply Wp.seqItems | apply Wp.items); (· simp only [go_sem, reduceIte, Nat.reduceEqDiff, Nat.reduceAdd, bx, ax, if_true, if_false, Nat.reduceMul, Nat.reduceLeDiff, encSp, h1, h2]; exact rfl))
      | (refine WpItems.nil ⟨?_, ?_⟩; (· first | trivial | simp [pairsQ, pairsOk, apart, ent0]))
      | (apply Wp.cond_lit; (· simp only [go_sem, reduceIte, Nat.reduceEqDiff, Nat.reduceAdd, bx, ax, if_true, if_false, Nat.reduceMul, Nat.reduceLeDiff, encSp, h1, h2]; exact rfl); (· rfl))
      | refine Wp.skip ?_
      | refine Wp.label ?_
      | refine Wp.block ?_
      | refine Wp.exit ?_
      | refine Wp.seq ?_)
    refine Wp.ret ⟨trivial, _, rfl, ?_⟩
    simp only [go_sem, reduceIte, Nat.reduceEqDiff, Nat.reduceAdd, bx]
    simp only [apartB, h1, h2, Bool.not_true, Bool.not_false, Bool.true_and, Bool.false_and]
    exact VSub.refl _
theorem within_p (s : Sp) (k : Bs) : PCalls Try.prog 133 [encSp s, .str k] (.bool (winB s k)) := by
  refine f133.pcalls0 (by simp) (by simp [allPure, isPure, encSp]) rfl ?_
  unfold c133
  cases h1 : Op.bytesLess k s.f <;> cases h2 : decide (s.t = []) <;> cases h3 : Op.bytesLess k s.t
  all_goals
    repeat (first
      | ((first | apply Wp.seqItems | apply Wp.items); (· simp only [go_sem, reduceIte, Nat.reduceEqDiff, Nat.reduceAdd, bx, ax, if_true, if_false, Nat.reduceMul, Nat.reduceLeDiff, encSp, h1, h2, h3]; exact rfl))
      | (refine WpItems.nil ⟨?_, ?_⟩; (· first | trivial | simp [pairsQ, pairsOk, apart, ent0]))
      | (apply Wp.cond_lit; (· simp only [go_sem, reduceIte, Nat.reduceEqDiff, Nat.reduceAdd, bx, ax, if_true, if_false, Nat.reduceMul, Nat.reduceLeDiff, encSp, h1, h2, h3]; exact rfl); (· rfl))
      | refine Wp.skip ?_
      | refine Wp.label ?_
      | refine Wp.block ?_
      | refine Wp.exit ?_
      | refine Wp.seq ?_)
    refine Wp.ret ⟨trivial, _, rfl, ?_⟩
    simp only [go_sem, reduceIte, Nat.reduceEqDiff, Nat.reduceAdd, bx]
    simp only [winB, h1, h2, h3, Bool.not_true, Bool.not_false, Bool.true_and, Bool.false_and, Bool.true_or, Bool.false_or]
    exact VSub.refl _
theorem joined_p (a b : Sp) : PCalls Try.prog 89 [encSp a, encSp b] (encSp (joinB a b)) := by
  refine f89.pcalls0 (by simp) (by simp [allPure, isPure, encSp]) (by simp [allPure, isPure, encSp]) ?_
  unfold c89
  cases e1 : decide (a.t = []) <;> cases e2 : decide (b.t = [])
  all_goals
    have h1 := e1
    have h2 := e2
    simp only [decide_eq_true_eq, decide_eq_false_iff_not] at h1 h2
    repeat (first
      | ((first | apply Wp.seqItems | apply Wp.items); (· simp only [go_sem, reduceIte, Nat.reduceEqDiff, Nat.reduceAdd, bx, ax, if_true, if_false, Nat.reduceMul, Nat.reduceLeDiff, encSp, e1, e2]; exact rfl))
      | (refine WpItems.nil ⟨?_, ?_⟩; (· first | trivial | simp [pairsQ, pairsOk, apart, ent0]))
      | (apply Wp.cond_lit; (· simp only [go_sem, reduceIte, Nat.reduceEqDiff, Nat.reduceAdd, bx, ax, if_true, if_false, Nat.reduceMul, Nat.reduceLeDiff, encSp, e1, e2]; exact rfl); (· rfl))
      | refine Wp.skip ?_
      | refine Wp.label ?_
      | refine Wp.block ?_
      | refine Wp.exit ?_
      | refine Wp.seq ?_)
    refine Wp.ret ⟨trivial, _, rfl, ?_⟩
    simp only [go_sem, reduceIte, Nat.reduceEqDiff, Nat.reduceAdd, bx]
    simp only [joinB, h1, h2, if_true, if_false]
    exact VSub.refl _
theorem hasR_p (s : Sp) (h1 : Ls s.f) (h2 : Ls s.t) : PCalls Try.prog 90 [encSp s] (.bool (hasB s)) := by
  refine f90.pcalls0 (by simp) (by simp [allPure, isPure, encSp]) rfl ?_
  unfold c90
  cases h3 : decide (s.t = [])
  all_goals
    repeat (first
      | ((first | apply Wp.seqItems | apply Wp.items | ((first
          | (refine WpItems.pcall ?_ ?_ (below_p s.f s.t h1 h2) ?_; (· simp only [go_sem, reduceIte, Nat.reduceEqDiff, Nat.reduceAdd, bx]); (· simp only [go_sem, reduceIte, Nat.reduceEqDiff, Nat.reduceAdd, bx, List.map]; first | exact VSubs.refl _ | (repeat (first | exact VSubs.nil | refine VSubs.cons (by first | exact VSub.refl _ | assumption | exact VSub.cap | exact VSub.any _) ?_))))); apply WpItems.eval)); (· simp only [go_sem, reduceIte, Nat.reduceEqDiff, Nat.reduceAdd, bx, ax, if_true, if_false, Nat.reduceMul, Nat.reduceLeDiff, encSp, h3]; exact rfl))
      | (refine WpItems.nil ⟨?_, ?_⟩; (· first | trivial | simp [pairsQ, pairsOk, apart, ent0]))
      | (apply Wp.cond_lit; (· simp only [go_sem, reduceIte, Nat.reduceEqDiff, Nat.reduceAdd, bx, ax, if_true, if_false, Nat.reduceMul, Nat.reduceLeDiff, encSp, h3]; exact rfl); (· rfl))
      | refine Wp.skip ?_
      | refine Wp.label ?_
      | refine Wp.block ?_
      | refine Wp.exit ?_
      | refine Wp.seq ?_)
    refine Wp.ret ⟨trivial, _, rfl, ?_⟩
    simp only [go_sem, reduceIte, Nat.reduceEqDiff, Nat.reduceAdd, bx]
    simp only [hasB, h3, Bool.true_or, Bool.false_or]
    exact VSub.refl _
theorem apartR_p (a b : Sp) (h1 : Ls a.t) (h2 : Ls b.f) : PCalls Try.prog 91 [encSp a, encSp b] (.bool (apartB a b)) := by
  refine f91.pcalls0 (by simp) (by simp [allPure, isPure, encSp]) rfl ?_
  unfold c91
  cases h3 : decide (a.t = [])
  all_goals
    repeat (first
      | ((first | apply Wp.seqItems | apply Wp.items | ((first
          | (refine WpItems.pcall ?_ ?_ (below_p a.t b.f h1 h2) ?_; (· simp only [go_sem, reduceIte, Nat.reduceEqDiff, Nat.reduceAdd, bx]); (· simp only [go_sem, reduceIte, Nat.reduceEqDiff, Nat.reduceAdd, bx, List.map]; first | exact VSubs.refl _ | (repeat (first | exact VSubs.nil | refine VSubs.cons (by first | exact VSub.refl _ | assumption | exact VSub.cap | exact VSub.any _) ?_))))); apply WpItems.eval)); (· simp only [go_sem, reduceIte, Nat.reduceEqDiff, Nat.reduceAdd, bx, ax, if_true, if_false, Nat.reduceMul, Nat.reduceLeDiff, encSp, h3]; exact rfl))
      | (refine WpItems.nil ⟨?_, ?_⟩; (· first | trivial | simp [pairsQ, pairsOk, apart, ent0]))
      | (apply Wp.cond_lit; (· simp only [go_sem, reduceIte, Nat.reduceEqDiff, Nat.reduceAdd, bx, ax, if_true, if_false, Nat.reduceMul, Nat.reduceLeDiff, encSp, h3]; exact rfl); (· rfl))
      | refine Wp.skip ?_
      | refine Wp.label ?_
      | refine Wp.block ?_
      | refine Wp.exit ?_
      | refine Wp.seq ?_)
    refine Wp.ret ⟨trivial, _, rfl, ?_⟩
    simp only [go_sem, reduceIte, Nat.reduceEqDiff, Nat.reduceAdd, bx]
    simp only [apartB, h3, Bool.not_true, Bool.not_false, Bool.true_and, Bool.false_and]
    exact VSub.refl _
theorem withinR_p (s : Sp) (k : Bs) (h1 : Ls s.f) (h2 : Ls s.t) (h3 : Ls k) : PCalls Try.prog 113 [.str k, .str s.f, .str s.t] (.bool (winB s k)) := by
  refine f113.pcalls0 (by simp) (by simp [allPure, isPure, encSp]) rfl ?_
  unfold c113
  cases g1 : Op.bytesLess k s.f <;> cases g2 : decide (s.t = [])
  all_goals
    repeat (first
      | ((first | apply Wp.seqItems | apply Wp.items | ((first
          | (refine WpItems.pcall ?_ ?_ (below_p k s.f h3 h1) ?_; (· simp only [go_sem, reduceIte, Nat.reduceEqDiff, Nat.reduceAdd, bx]); (· simp only [go_sem, reduceIte, Nat.reduceEqDiff, Nat.reduceAdd, bx, List.map]; first | exact VSubs.refl _ | (repeat (first | exact VSubs.nil | refine VSubs.cons (by first | exact VSub.refl _ | assumption | exact VSub.cap | exact VSub.any _) ?_))))
          | (refine WpItems.pcall ?_ ?_ (below_p k s.t h3 h2) ?_; (· simp only [go_sem, reduceIte, Nat.reduceEqDiff, Nat.reduceAdd, bx]); (· simp only [go_sem, reduceIte, Nat.reduceEqDiff, Nat.reduceAdd, bx, List.map]; first | exact VSubs.refl _ | (repeat (first | exact VSubs.nil | refine VSubs.cons (by first | exact VSub.refl _ | assumption | exact VSub.cap | exact VSub.any _) ?_))))); apply WpItems.eval)); (· simp only [go_sem, reduceIte, Nat.reduceEqDiff, Nat.reduceAdd, bx, ax, if_true, if_false, Nat.reduceMul, Nat.reduceLeDiff, encSp, g1, g2]; exact rfl))
      | (refine WpItems.nil ⟨?_, ?_⟩; (· first | trivial | simp [pairsQ, pairsOk, apart, ent0]))
      | (apply Wp.cond_lit; (· simp only [go_sem, reduceIte, Nat.reduceEqDiff, Nat.reduceAdd, bx, ax, if_true, if_false, Nat.reduceMul, Nat.reduceLeDiff, encSp, g1, g2]; exact rfl); (· rfl))
      | refine Wp.skip ?_
      | refine Wp.label ?_
      | refine Wp.block ?_
      | refine Wp.exit ?_
      | refine Wp.seq ?_)
    refine Wp.ret ⟨trivial, _, rfl, ?_⟩
    simp only [go_sem, reduceIte, Nat.reduceEqDiff, Nat.reduceAdd, bx]
    simp only [winB, g1, g2, Bool.not_true, Bool.not_false, Bool.true_and, Bool.false_and, Bool.true_or, Bool.false_or]
    exact VSub.refl _
end Go.Proofs.Ytpehfflehebmbaa.Reads
end
section
set_option linter.unusedSimpArgs false
set_option linter.unusedVariables false
set_option maxRecDepth 10000
namespace Go.Proofs.Ytpehfflehebmbaa.Reads
open Go Go.Av Go.Proofs Go.Proofs.Ytpehfflehebmbaa.C Go.Proofs.Ytpehfflehebmbaa.Batch
def ix {α : Type} (p : α → Bool) (l : List α) : Int := if l.any p then (l.findIdx p : Nat) else -1
theorem ix_found {α : Type} {p : α → Bool} {l : List α} {j : Nat} (hj : j < l.length) (h : p l[j] = true) (hs : ∀ i (hi : i < l.length), i < j → p l[i] = false) : ix p l = j := by
  have h1 : l.any p = true := List.any_eq_true.2 ⟨l[j], List.getElem_mem hj, h⟩
  have h2 : l.findIdx p = j := (List.findIdx_eq hj).2 ⟨h, fun i hi => hs i (by omega) hi⟩
  simp [ix, h1, h2]
theorem ix_none {α : Type} {p : α → Bool} {l : List α} (hs : ∀ i (hi : i < l.length), p l[i] = false) : ix p l = -1 := by
  have h1 : l.any p = false := by
    rw [List.any_eq_false]
    intro x hx
    obtain ⟨i, hi, rfl⟩ := List.mem_iff_getElem.1 hx
    simp [hs i hi]
  simp [ix, h1]
theorem ix_nonneg {α : Type} {p : α → Bool} {l : List α} : decide (0 ≤ ix p l) = l.any p := by
  unfold ix
  cases l.any p <;> simp
theorem getD_el {α : Type} {l : List α} {i : Nat} {d : α} (h : i < l.length) : l.getD i d = l[i] := by
  rw [List.getD_eq_getElem?_getD, List.getElem?_eq_getElem h]; rfl
theorem indexSp_p (l : List Sp) (hl : l.length ≤ 4611686018427387904) (p : Sp → Bool) {g : FuncId} {fn : Func} (hf : Try.prog.funcs[g]? = some fn) (hb : fn.body.isSome = true) (hn : fn.name ≠ "runtime.NumGoroutine") (caps : List AV) (hc : allPure caps = true)
    (hp : ∀ c ∈ l, PCalls Try.prog g (encSp c :: caps) (.bool (p c))) :
    PCalls Try.prog 136 [.sl 2 (sps l) .any, .clo (.func g) [] caps] (.int .i64 (ix p l)) := by
  refine f136.pcalls0 (by simp) (by simp [allPure, isPure, capPure, sps_pure, hc]) rfl ?_
  unfold c136
  refine Wp.seqReg (by simp only [go_sem, reduceIte, Nat.reduceEqDiff, Nat.reduceAdd, bx]; exact rfl) (by trivial) ?_
  refine Wp.seq ?_
  refine Wp.seqReg (by simp only [go_sem, reduceIte, Nat.reduceEqDiff, Nat.reduceAdd, bx, sps_length]; exact rfl) (by trivial) ?_
  refine Wp.block ?_
  refine Wp.loopK [0, 1, 7] (by simp only [go_sem, reduceIte, Nat.reduceEqDiff, Nat.reduceAdd, bx, List.map]; exact rfl) (fun j : Nat => [(8, .int .i64 j)]) (fun j => j ≤ l.length ∧ ∀ i (hi : i < l.length), i < j → p l[i] = false) (fun j => l.length - j) 0 ⟨Nat.zero_le _, fun i hi h => absurd h (by omega)⟩ ?_ ?_
  · simp only [AllSub, go_sem, reduceIte, Nat.reduceEqDiff, Nat.reduceAdd, bx]; and_intros <;> first | exact trivial | exact VSub.refl _ | exact VSub.any _ | (refine VSub.int ?_; omega)
  · rintro j ⟨hj, hs⟩
    refine Wp.seqReg (by simp only [go_sem, reduceIte, Nat.reduceEqDiff, Nat.reduceAdd, bx]; exact rfl) (by trivial) ?_
    refine Wp.seq ?_
    refine Wp.cond_split (b := decide ((j : Int) < (l.length : Int))) (by simp only [go_sem, reduceIte, Nat.reduceEqDiff, Nat.reduceAdd, bx]) (fun hc => ?_) (fun hc => ?_)
    · have h1 : (0 : Int) ≤ (j : Int) := by omega
      have h2 : (j : Int) < (l.length : Int) := by simpa using hc
      have h3 : j < l.length := by omega
      have hq := hp _ (List.getElem_mem h3)
      rw [← getD_el (d := default) h3] at hq
      refine Wp.skip ?_
      refine Wp.seq ?_
      refine Wp.block ?_
      refine Wp.seqReg (by simp only [go_sem, reduceIte, Nat.reduceEqDiff, Nat.reduceAdd, bx]; exact rfl) (by trivial) ?_
      refine Wp.seqItems (by simp only [go_sem, reduceIte, Nat.reduceEqDiff, Nat.reduceAdd, bx, sps_length, h1, h2, and_self, if_true, Int.toNat_natCast, sps_getD _ _ _ h3, encSp]; exact rfl) ?_
      refine WpItems.pcallv (by simp only [go_sem]) (by simp only [go_sem, reduceIte, Nat.reduceEqDiff]; exact rfl) hf hb hn (by simp only [go_sem, reduceIte, Nat.reduceEqDiff, List.map]; exact VSubs.refl _) hq ?_
      refine WpItems.eval (by simp only [go_sem, reduceIte, Nat.reduceEqDiff, Nat.reduceAdd, bx]; exact rfl) ?_
      refine WpItems.nil ⟨by trivial, ?_⟩
      rw [getD_el h3]
      refine Wp.cond_split (b := p l[j]) (by simp only [go_sem, reduceIte, Nat.reduceEqDiff, Nat.reduceAdd, bx]) (fun hd => ?_) (fun hd => ?_)
      · refine Wp.seqReg (by simp only [go_sem, reduceIte, Nat.reduceEqDiff, Nat.reduceAdd, bx]; exact rfl) (by trivial) ?_
        refine Wp.ret ⟨trivial, _, rfl, ?_⟩
        simp only [go_sem, reduceIte, Nat.reduceEqDiff, Nat.reduceAdd, bx]
        rw [ix_found h3 hd hs]
        exact VSub.refl _
      · refine Wp.skip ?_
        refine Wp.reg1 (by simp only [go_sem, reduceIte, Nat.reduceEqDiff, Nat.reduceAdd, bx]; simp (disch := omega) only [IntWalk.i64_in]; exact rfl) (by trivial) ?_
        refine ⟨j + 1, ⟨by omega, fun i hi h => ?_⟩, by omega, ?_⟩
        · by_cases he : i = j
          · subst he; exact hd
          · exact hs i hi (by omega)
        · refine StLe.tm (by simp only [AllSub, go_sem, reduceIte, Nat.reduceEqDiff, Nat.reduceAdd, bx]; and_intros <;> first | exact trivial | exact VSub.refl _ | exact VSub.any _ | (refine VSub.int ?_; omega))
    · have : ¬ (j : Int) < (l.length : Int) := by simpa using hc
      refine Wp.exit ?_
      refine Wp.seqReg (by simp only [go_sem, reduceIte, Nat.reduceEqDiff, Nat.reduceAdd, bx]; exact rfl) (by trivial) ?_
      refine Wp.ret ⟨trivial, _, rfl, ?_⟩
      simp only [go_sem, reduceIte, Nat.reduceEqDiff, Nat.reduceAdd, bx]
      rw [ix_none fun i hi => hs i hi (by omega)]
      exact VSub.refl _
theorem indexStr_p (l : List Bs) (hl : l.length ≤ 4611686018427387904) (p : Bs → Bool) {g : FuncId} {fn : Func} (hf : Try.prog.funcs[g]? = some fn) (hb : fn.body.isSome = true) (hn : fn.name ≠ "runtime.NumGoroutine") (caps : List AV) (hc : allPure caps = true)
    (hp : ∀ c ∈ l, PCalls Try.prog g (.str c :: caps) (.bool (p c))) :
    PCalls Try.prog 135 [.sl 1 (strs l) .any, .clo (.func g) [] caps] (.int .i64 (ix p l)) := by
  refine f135.pcalls0 (by simp) (by simp [allPure, isPure, capPure, strs_pure, hc]) rfl ?_
  unfold c135
  refine Wp.seqReg (by simp only [go_sem, reduceIte, Nat.reduceEqDiff, Nat.reduceAdd, bx]; exact rfl) (by trivial) ?_
  refine Wp.seq ?_
  refine Wp.seqReg (by simp only [go_sem, reduceIte, Nat.reduceEqDiff, Nat.reduceAdd, bx, strs_length]; exact rfl) (by trivial) ?_
  refine Wp.block ?_
  refine Wp.loopK [0, 1, 7] (by simp only [go_sem, reduceIte, Nat.reduceEqDiff, Nat.reduceAdd, bx, List.map]; exact rfl) (fun j : Nat => [(8, .int .i64 j)]) (fun j => j ≤ l.length ∧ ∀ i (hi : i < l.length), i < j → p l[i] = false) (fun j => l.length - j) 0 ⟨Nat.zero_le _, fun i hi h => absurd h (by omega)⟩ ?_ ?_
  · simp only [AllSub, go_sem, reduceIte, Nat.reduceEqDiff, Nat.reduceAdd, bx]; and_intros <;> first | exact trivial | exact VSub.refl _ | exact VSub.any _ | (refine VSub.int ?_; omega)
  · rintro j ⟨hj, hs⟩
    refine Wp.seqReg (by simp only [go_sem, reduceIte, Nat.reduceEqDiff, Nat.reduceAdd, bx]; exact rfl) (by trivial) ?_
    refine Wp.seq ?_
    refine Wp.cond_split (b := decide ((j : Int) < (l.length : Int))) (by simp only [go_sem, reduceIte, Nat.reduceEqDiff, Nat.reduceAdd, bx]) (fun hc => ?_) (fun hc => ?_)
    · have h1 : (0 : Int) ≤ (j : Int) := by omega
      have h2 : (j : Int) < (l.length : Int) := by simpa using hc
      have h3 : j < l.length := by omega
      have hq := hp _ (List.getElem_mem h3)
      rw [← getD_el (d := []) h3] at hq
      refine Wp.skip ?_
      refine Wp.seq ?_
      refine Wp.block ?_
      refine Wp.seqReg (by simp only [go_sem, reduceIte, Nat.reduceEqDiff, Nat.reduceAdd, bx]; exact rfl) (by trivial) ?_
      refine Wp.seqItems (by simp only [go_sem, reduceIte, Nat.reduceEqDiff, Nat.reduceAdd, bx, strs_length, h1, h2, and_self, if_true, Int.toNat_natCast, strs_getD _ _ _ h3]; exact rfl) ?_
      refine WpItems.pcallv (by simp only [go_sem]) (by simp only [go_sem, reduceIte, Nat.reduceEqDiff]; exact rfl) hf hb hn (by simp only [go_sem, reduceIte, Nat.reduceEqDiff, List.map]; exact VSubs.refl _) hq ?_
      refine WpItems.eval (by simp only [go_sem, reduceIte, Nat.reduceEqDiff, Nat.reduceAdd, bx]; exact rfl) ?_
      refine WpItems.nil ⟨by trivial, ?_⟩
      rw [getD_el h3]
      refine Wp.cond_split (b := p l[j]) (by simp only [go_sem, reduceIte, Nat.reduceEqDiff, Nat.reduceAdd, bx]) (fun hd => ?_) (fun hd => ?_)
      · refine Wp.seqReg (by simp only [go_sem, reduceIte, Nat.reduceEqDiff, Nat.reduceAdd, bx]; exact rfl) (by trivial) ?_
        refine Wp.ret ⟨trivial, _, rfl, ?_⟩
        simp only [go_sem, reduceIte, Nat.reduceEqDiff, Nat.reduceAdd, bx]
        rw [ix_found h3 hd hs]
        exact VSub.refl _
      · refine Wp.skip ?_
        refine Wp.reg1 (by simp only [go_sem, reduceIte, Nat.reduceEqDiff, Nat.reduceAdd, bx]; simp (disch := omega) only [IntWalk.i64_in]; exact rfl) (by trivial) ?_
        refine ⟨j + 1, ⟨by omega, fun i hi h => ?_⟩, by omega, ?_⟩
        · by_cases he : i = j
          · subst he; exact hd
          · exact hs i hi (by omega)
        · refine StLe.tm (by simp only [AllSub, go_sem, reduceIte, Nat.reduceEqDiff, Nat.reduceAdd, bx]; and_intros <;> first | exact trivial | exact VSub.refl _ | exact VSub.any _ | (refine VSub.int ?_; omega))
    · have : ¬ (j : Int) < (l.length : Int) := by simpa using hc
      refine Wp.exit ?_
      refine Wp.seqReg (by simp only [go_sem, reduceIte, Nat.reduceEqDiff, Nat.reduceAdd, bx]; exact rfl) (by trivial) ?_
      refine Wp.ret ⟨trivial, _, rfl, ?_⟩
      simp only [go_sem, reduceIte, Nat.reduceEqDiff, Nat.reduceAdd, bx]
      rw [ix_none fun i hi => hs i hi (by omega)]
      exact VSub.refl _
theorem containsSp_p (l : List Sp) (hl : l.length ≤ 4611686018427387904) (p : Sp → Bool) {g : FuncId} {fn : Func} (hf : Try.prog.funcs[g]? = some fn) (hb : fn.body.isSome = true) (hn : fn.name ≠ "runtime.NumGoroutine") (caps : List AV) (hc : allPure caps = true)
    (hp : ∀ c ∈ l, PCalls Try.prog g (encSp c :: caps) (.bool (p c))) :
    PCalls Try.prog 99 [.sl 2 (sps l) .any, .clo (.func g) [] caps] (.bool (l.any p)) := by
  refine f99.pcalls0 (by simp) (by simp [allPure, isPure, capPure, sps_pure, hc]) rfl ?_
  unfold c99
  repeat (first
    | ((first | apply Wp.seqItems | apply Wp.items | ((first
        | (refine WpItems.pcall ?_ ?_ (indexSp_p l hl p hf hb hn caps hc hp) ?_; (· simp only [go_sem, reduceIte, Nat.reduceEqDiff, Nat.reduceAdd, bx]); (· simp only [go_sem, reduceIte, Nat.reduceEqDiff, Nat.reduceAdd, bx, List.map]; first | exact VSubs.refl _ | (repeat (first | exact VSubs.nil | refine VSubs.cons (by first | exact VSub.refl _ | assumption | exact VSub.cap | exact VSub.any _) ?_))))); apply WpItems.eval)); (· simp only [go_sem, reduceIte, Nat.reduceEqDiff, Nat.reduceAdd, bx, ax, if_true, if_false, Nat.reduceMul, Nat.reduceLeDiff, ix_nonneg]; exact rfl))
    | (refine WpItems.nil ⟨?_, ?_⟩; (· first | trivial | simp [pairsQ, pairsOk, apart, ent0]))
    | (apply Wp.cond_lit; (· simp only [go_sem, reduceIte, Nat.reduceEqDiff, Nat.reduceAdd, bx, ax, if_true, if_false, Nat.reduceMul, Nat.reduceLeDiff, ix_nonneg]; exact rfl); (· rfl))
    | refine Wp.skip ?_
    | refine Wp.label ?_
    | refine Wp.block ?_
    | refine Wp.exit ?_
    | refine Wp.seq ?_)
  refine Wp.ret ⟨trivial, _, rfl, ?_⟩
  simp only [go_sem, reduceIte, Nat.reduceEqDiff, Nat.reduceAdd, bx]
  exact VSub.refl _
theorem spanned1_p (s : Sp) (k : Bs) : PCalls Try.prog 132 [encSp s, .ref [.str k]] (.bool (winB s k)) := by
  refine f132.pcalls0 (by simp) (by simp [allPure, isPure, encSp]) rfl ?_
  unfold c132
  repeat (first
    | ((first | apply Wp.seqItems | apply Wp.items | ((first
        | (refine WpItems.pcall ?_ ?_ (within_p s k) ?_; (· simp only [go_sem, reduceIte, Nat.reduceEqDiff, Nat.reduceAdd, bx]); (· simp only [go_sem, reduceIte, Nat.reduceEqDiff, Nat.reduceAdd, bx, List.map]; first | exact VSubs.refl _ | (repeat (first | exact VSubs.nil | refine VSubs.cons (by first | exact VSub.refl _ | assumption | exact VSub.cap | exact VSub.any _) ?_))))); apply WpItems.eval)); (· simp only [go_sem, reduceIte, Nat.reduceEqDiff, Nat.reduceAdd, bx, ax, if_true, if_false, Nat.reduceMul, Nat.reduceLeDiff, encSp]; exact rfl))
    | (refine WpItems.nil ⟨?_, ?_⟩; (· first | trivial | simp [pairsQ, pairsOk, apart, ent0]))
    | (apply Wp.cond_lit; (· simp only [go_sem, reduceIte, Nat.reduceEqDiff, Nat.reduceAdd, bx, ax, if_true, if_false, Nat.reduceMul, Nat.reduceLeDiff, encSp]; exact rfl); (· rfl))
    | refine Wp.skip ?_
    | refine Wp.label ?_
    | refine Wp.block ?_
    | refine Wp.exit ?_
    | refine Wp.seq ?_)
  refine Wp.ret ⟨trivial, _, rfl, ?_⟩
  simp only [go_sem, reduceIte, Nat.reduceEqDiff, Nat.reduceAdd, bx]
  exact VSub.refl _
theorem spanned_p (l : List Sp) (hl : l.length ≤ 4611686018427387904) (k : Bs) : PCalls Try.prog 92 [.sl 2 (sps l) .any, .str k] (.bool (spanned l k)) := by
  refine f92.pcalls0 (by simp) (by simp [allPure, isPure, capPure, sps_pure]) rfl ?_
  unfold c92
  refine Wp.seqReg (by simp only [go_sem, reduceIte, Nat.reduceEqDiff, Nat.reduceAdd, bx]; exact rfl) (by trivial) ?_
  refine Wp.frz (fun _ => true) [(0, .sl 2 (sps l) .any), (3, .ref [.str k])] ⟨none', 1, [], 0⟩ ?_ (OLe.none _) (by simp) (by simp [go_sem]) (Nat.le_refl _) ?_
  · simp only [AllSub, go_sem, reduceIte, Nat.reduceEqDiff, unT, and_true]
    and_intros <;> exact VSub.refl _
  repeat (first
    | ((first | apply Wp.seqItems | apply Wp.items | ((first
        | (refine WpItems.pcall ?_ ?_ (containsSp_p l hl (winB · k) (caps := [.ref [.str k]]) Try.func132 rfl (of_decide_eq_true (by kernel_rfl)) rfl (fun c _ => spanned1_p c k)) ?_; (· simp only [go_sem, reduceIte, Nat.reduceEqDiff, Nat.reduceAdd, bx]); (· simp only [go_sem, reduceIte, Nat.reduceEqDiff, Nat.reduceAdd, bx, List.map]; first | exact VSubs.refl _ | (repeat (first | exact VSubs.nil | refine VSubs.cons (by first | exact VSub.refl _ | assumption | exact VSub.cap | exact VSub.any _) ?_))))); apply WpItems.eval)); (· simp only [go_sem, reduceIte, Nat.reduceEqDiff, Nat.reduceAdd, bx, ax, if_true, if_false, Nat.reduceMul, Nat.reduceLeDiff]; exact rfl))
    | (refine WpItems.nil ⟨?_, ?_⟩; (· first | trivial | simp [pairsQ, pairsOk, apart, ent0]))
    | (apply Wp.cond_lit; (· simp only [go_sem, reduceIte, Nat.reduceEqDiff, Nat.reduceAdd, bx, ax, if_true, if_false, Nat.reduceMul, Nat.reduceLeDiff]; exact rfl); (· rfl))
    | refine Wp.skip ?_
    | refine Wp.label ?_
    | refine Wp.block ?_
    | refine Wp.exit ?_
    | refine Wp.seq ?_)
  refine Wp.ret ⟨trivial, _, rfl, ?_⟩
  simp only [go_sem, reduceIte, Nat.reduceEqDiff, Nat.reduceAdd, bx]
  exact VSub.refl _
theorem made1_p (l : List Sp) (hl : l.length ≤ 4611686018427387904) (k : Bs) : PCalls Try.prog 131 [.str k, .ref [.sl 2 (sps l) .any]] (.bool (spanned l k)) := by
  refine f131.pcalls0 (by simp) (by simp [allPure, isPure, capPure, sps_pure]) rfl ?_
  unfold c131
  repeat (first
    | ((first | apply Wp.seqItems | apply Wp.items | ((first
        | (refine WpItems.pcall ?_ ?_ (spanned_p l hl k) ?_; (· simp only [go_sem, reduceIte, Nat.reduceEqDiff, Nat.reduceAdd, bx]); (· simp only [go_sem, reduceIte, Nat.reduceEqDiff, Nat.reduceAdd, bx, List.map]; first | exact VSubs.refl _ | (repeat (first | exact VSubs.nil | refine VSubs.cons (by first | exact VSub.refl _ | assumption | exact VSub.cap | exact VSub.any _) ?_))))); apply WpItems.eval)); (· simp only [go_sem, reduceIte, Nat.reduceEqDiff, Nat.reduceAdd, bx, ax, if_true, if_false, Nat.reduceMul, Nat.reduceLeDiff]; exact rfl))
    | (refine WpItems.nil ⟨?_, ?_⟩; (· first | trivial | simp [pairsQ, pairsOk, apart, ent0]))
    | (apply Wp.cond_lit; (· simp only [go_sem, reduceIte, Nat.reduceEqDiff, Nat.reduceAdd, bx, ax, if_true, if_false, Nat.reduceMul, Nat.reduceLeDiff]; exact rfl); (· rfl))
    | refine Wp.skip ?_
    | refine Wp.label ?_
    | refine Wp.block ?_
    | refine Wp.exit ?_
    | refine Wp.seq ?_)
  refine Wp.ret ⟨trivial, _, rfl, ?_⟩
  simp only [go_sem, reduceIte, Nat.reduceEqDiff, Nat.reduceAdd, bx]
  exact VSub.refl _
end Go.Proofs.Ytpehfflehebmbaa.Reads
end
section
set_option linter.unusedSimpArgs false
set_option linter.unusedVariables false
set_option maxRecDepth 10000
namespace Go.Proofs.Ytpehfflehebmbaa.Reads
open Go Go.Av Go.Proofs Go.Proofs.Ytpehfflehebmbaa.C Go.Proofs.Ytpehfflehebmbaa.Batch
theorem isNaN_p (a : Bs) : PCalls Try.prog 127 [.str a] (.bool false) := by
  refine f127.pcalls0 (by simp) rfl rfl ?_
  unfold c127
  have h : decide (a = a) = true := decide_eq_true rfl
  repeat (first
    | ((first | apply Wp.seqItems | apply Wp.items); (· simp only [go_sem, reduceIte, Nat.reduceEqDiff, Nat.reduceAdd, bx, ax, if_true, if_false, Nat.reduceMul, Nat.reduceLeDiff, h]; exact rfl))
    | (refine WpItems.nil ⟨?_, ?_⟩; (· first | trivial | simp [pairsQ, pairsOk, apart, ent0]))
    | (apply Wp.cond_lit; (· simp only [go_sem, reduceIte, Nat.reduceEqDiff, Nat.reduceAdd, bx, ax, if_true, if_false, Nat.reduceMul, Nat.reduceLeDiff, h]; exact rfl); (· rfl))
    | refine Wp.skip ?_
    | refine Wp.label ?_
    | refine Wp.block ?_
    | refine Wp.exit ?_
    | refine Wp.seq ?_)
  refine Wp.ret ⟨trivial, _, rfl, ?_⟩
  simp only [go_sem, reduceIte, Nat.reduceEqDiff, Nat.reduceAdd, bx]
  exact VSub.refl _
theorem isNaN2_p (a : Bs) : PCalls Try.prog 144 [.str a] (.bool false) := by
  refine f144.pcalls0 (by simp) rfl rfl ?_
  unfold c144
  have h : decide (a = a) = true := decide_eq_true rfl
  repeat (first
    | ((first | apply Wp.seqItems | apply Wp.items); (· simp only [go_sem, reduceIte, Nat.reduceEqDiff, Nat.reduceAdd, bx, ax, if_true, if_false, Nat.reduceMul, Nat.reduceLeDiff, h]; exact rfl))
    | (refine WpItems.nil ⟨?_, ?_⟩; (· first | trivial | simp [pairsQ, pairsOk, apart, ent0]))
    | (apply Wp.cond_lit; (· simp only [go_sem, reduceIte, Nat.reduceEqDiff, Nat.reduceAdd, bx, ax, if_true, if_false, Nat.reduceMul, Nat.reduceLeDiff, h]; exact rfl); (· rfl))
    | refine Wp.skip ?_
    | refine Wp.label ?_
    | refine Wp.block ?_
    | refine Wp.exit ?_
    | refine Wp.seq ?_)
  refine Wp.ret ⟨trivial, _, rfl, ?_⟩
  simp only [go_sem, reduceIte, Nat.reduceEqDiff, Nat.reduceAdd, bx]
  exact VSub.refl _
theorem less_p (a b : Bs) : PCalls Try.prog 126 [.str a, .str b] (.bool (Op.bytesLess a b)) := by
  refine f126.pcalls0 (by simp) rfl rfl ?_
  unfold c126
  repeat (first
    | ((first | apply Wp.seqItems | apply Wp.items | ((first
        | (refine WpItems.pcall ?_ ?_ (isNaN2_p a) ?_; (· simp only [go_sem, reduceIte, Nat.reduceEqDiff, Nat.reduceAdd, bx]); (· simp only [go_sem, reduceIte, Nat.reduceEqDiff, Nat.reduceAdd, bx, List.map]; first | exact VSubs.refl _ | (repeat (first | exact VSubs.nil | refine VSubs.cons (by first | exact VSub.refl _ | assumption | exact VSub.cap | exact VSub.any _) ?_))))); apply WpItems.eval)); (· simp only [go_sem, reduceIte, Nat.reduceEqDiff, Nat.reduceAdd, bx, ax, if_true, if_false, Nat.reduceMul, Nat.reduceLeDiff]; exact rfl))
    | (refine WpItems.nil ⟨?_, ?_⟩; (· first | trivial | simp [pairsQ, pairsOk, apart, ent0]))
    | (apply Wp.cond_lit; (· simp only [go_sem, reduceIte, Nat.reduceEqDiff, Nat.reduceAdd, bx, ax, if_true, if_false, Nat.reduceMul, Nat.reduceLeDiff]; exact rfl); (· rfl))
    | refine Wp.skip ?_
    | refine Wp.label ?_
    | refine Wp.block ?_
    | refine Wp.exit ?_
    | refine Wp.seq ?_)
  refine Wp.ret ⟨trivial, _, rfl, ?_⟩
  simp only [go_sem, reduceIte, Nat.reduceEqDiff, Nat.reduceAdd, bx]
  exact VSub.refl _
theorem bsearch_p (l : List Bs) (hl : l.length ≤ 1152921504606846976) (key : Bs) (r : Nat) (hr : r ≤ l.length) (h0 : ∀ i, i < r → Op.bytesLess (l.getD i []) key = true) (h1 : ∀ i, r ≤ i → i < l.length → Op.bytesLess (l.getD i []) key = false) :
    PCalls Try.prog 81 [.sl 1 (strs l) .any, .str key] (.tup [.int .i64 r, .bool (decide (r < l.length) && decide (l.getD r [] = key))]) := by
  refine f81.pcalls0 (by simp) (by simp [allPure, isPure, capPure, strs_pure]) (by simp [allPure, isPure]) ?_
  unfold c81
  refine Wp.seqReg (by simp only [go_sem, reduceIte, Nat.reduceEqDiff, Nat.reduceAdd, bx]; exact rfl) (by trivial) ?_
  refine Wp.seqReg (by simp only [go_sem, reduceIte, Nat.reduceEqDiff, Nat.reduceAdd, bx, strs_length]; exact rfl) (by trivial) ?_
  refine Wp.seqReg (by simp only [go_sem, reduceIte, Nat.reduceEqDiff, Nat.reduceAdd, bx]; exact rfl) (by trivial) ?_
  refine Wp.seq ?_
  refine Wp.block ?_
  refine Wp.loopK [0, 1, 6] (by simp only [go_sem, reduceIte, Nat.reduceEqDiff, Nat.reduceAdd, bx, List.map]; exact rfl) (fun j : Nat × Nat => [(7, .int .i64 j.1), (8, .int .i64 j.2)]) (fun j => j.1 ≤ r ∧ r ≤ j.2 ∧ j.2 ≤ l.length) (fun j => j.2 - j.1) (0, l.length) ⟨Nat.zero_le _, hr, Nat.le_refl _⟩ ?_ ?_
  · simp only [AllSub, go_sem, reduceIte, Nat.reduceEqDiff, Nat.reduceAdd, bx]; and_intros <;> first | exact trivial | exact VSub.refl _ | exact VSub.any _ | (refine VSub.int ?_; omega)
  · rintro ⟨i, j⟩ ⟨a1, a2, a3⟩
    simp only at a1 a2 a3
    refine Wp.seq ?_
    refine Wp.seqReg (by simp only [go_sem, reduceIte, Nat.reduceEqDiff, Nat.reduceAdd, bx]; exact rfl) (by trivial) ?_
    refine Wp.cond_split (b := decide ((i : Int) < (j : Int))) (by simp only [go_sem, reduceIte, Nat.reduceEqDiff, Nat.reduceAdd, bx]) (fun hc => ?_) (fun hc => ?_)
    · have hc' : (i : Int) < (j : Int) := by simpa using hc
      have e1 : IntKind.i64.wrap ((i : Int) + (j : Int)) = ((i + j : Nat) : Int) := by rw [IntWalk.i64_in _ (by omega)]; omega
      have e2 : IntKind.u64.wrap ((i + j : Nat) : Int) = ((i + j : Nat) : Int) := IntWalk.u64_in _ (by omega)
      have e3 : ((i + j : Nat) : Int).fdiv (2 ^ (min (Int.toNat 1) 64)) = (((i + j) / 2 : Nat) : Int) := by
        rw [show min (Int.toNat 1) 64 = 1 from rfl, Int.fdiv_eq_ediv_of_nonneg _ (by omega)]
        omega
      have e4 : IntKind.i64.wrap (((i + j) / 2 : Nat) : Int) = (((i + j) / 2 : Nat) : Int) := IntWalk.i64_in _ (by omega)
      have e5 : ¬ (1 : Int) < 0 := by omega
      have p1 : (0 : Int) ≤ (((i + j) / 2 : Nat) : Int) := by omega
      have p2 : (((i + j) / 2 : Nat) : Int) < (l.length : Int) := by omega
      have p3 : (i + j) / 2 < l.length := by omega
      refine Wp.skip ?_
      refine Wp.block ?_
      refine Wp.seqReg (by simp only [go_sem, reduceIte, Nat.reduceEqDiff, Nat.reduceAdd, bx, e1, e2, IntKind.bits, e3, e4, e5]; exact rfl) (by trivial) ?_
      by_cases hh : (i + j) / 2 < r
      · have hs := h0 _ hh
        repeat (first
          | ((first | apply Wp.seqItems | apply Wp.items | ((first
              | (refine WpItems.pcall ?_ ?_ (less_p (l.getD ((i + j) / 2) []) key) ?_; (· simp only [go_sem, reduceIte, Nat.reduceEqDiff, Nat.reduceAdd, bx]); (· simp only [go_sem, reduceIte, Nat.reduceEqDiff, Nat.reduceAdd, bx, List.map]; first | exact VSubs.refl _ | (repeat (first | exact VSubs.nil | refine VSubs.cons (by first | exact VSub.refl _ | assumption | exact VSub.cap | exact VSub.any _) ?_))))); apply WpItems.eval)); (· simp only [go_sem, reduceIte, Nat.reduceEqDiff, Nat.reduceAdd, bx, ax, if_true, if_false, Nat.reduceMul, Nat.reduceLeDiff, strs_length, p1, p2, Int.toNat_natCast, strs_getD _ _ _ p3, hs, IntWalk.i64_in]; exact rfl))
          | (refine WpItems.nil ⟨?_, ?_⟩; (· first | trivial | simp [pairsQ, pairsOk, apart, ent0]))
          | (apply Wp.cond_lit; (· simp only [go_sem, reduceIte, Nat.reduceEqDiff, Nat.reduceAdd, bx, ax, if_true, if_false, Nat.reduceMul, Nat.reduceLeDiff, strs_length, p1, p2, Int.toNat_natCast, strs_getD _ _ _ p3, hs, IntWalk.i64_in]; exact rfl); (· rfl))
          | refine Wp.skip ?_
          | refine Wp.label ?_
          | refine Wp.block ?_
          | refine Wp.exit ?_
          | refine Wp.seq ?_)
        refine ⟨((i + j) / 2 + 1, j), ⟨by simp only; omega, by simp only; omega, by simp only; omega⟩, by simp only; omega, ?_⟩
        have e6 : IntKind.i64.wrap ((((i + j) / 2 : Nat) : Int) + 1) = (((i + j) / 2 + 1 : Nat) : Int) := by rw [IntWalk.i64_in _ (by omega)]; omega
        refine StLe.tm (by simp only [AllSub, go_sem, reduceIte, Nat.reduceEqDiff, Nat.reduceAdd, bx, e6]; and_intros <;> first | exact trivial | exact VSub.refl _ | exact VSub.any _ | (refine VSub.int ?_; omega))
      · have hs := h1 _ (by omega) p3
        repeat (first
          | ((first | apply Wp.seqItems | apply Wp.items | ((first
              | (refine WpItems.pcall ?_ ?_ (less_p (l.getD ((i + j) / 2) []) key) ?_; (· simp only [go_sem, reduceIte, Nat.reduceEqDiff, Nat.reduceAdd, bx]); (· simp only [go_sem, reduceIte, Nat.reduceEqDiff, Nat.reduceAdd, bx, List.map]; first | exact VSubs.refl _ | (repeat (first | exact VSubs.nil | refine VSubs.cons (by first | exact VSub.refl _ | assumption | exact VSub.cap | exact VSub.any _) ?_))))); apply WpItems.eval)); (· simp only [go_sem, reduceIte, Nat.reduceEqDiff, Nat.reduceAdd, bx, ax, if_true, if_false, Nat.reduceMul, Nat.reduceLeDiff, strs_length, p1, p2, Int.toNat_natCast, strs_getD _ _ _ p3, hs]; exact rfl))
          | (refine WpItems.nil ⟨?_, ?_⟩; (· first | trivial | simp [pairsQ, pairsOk, apart, ent0]))
          | (apply Wp.cond_lit; (· simp only [go_sem, reduceIte, Nat.reduceEqDiff, Nat.reduceAdd, bx, ax, if_true, if_false, Nat.reduceMul, Nat.reduceLeDiff, strs_length, p1, p2, Int.toNat_natCast, strs_getD _ _ _ p3, hs]; exact rfl); (· rfl))
          | refine Wp.skip ?_
          | refine Wp.label ?_
          | refine Wp.block ?_
          | refine Wp.exit ?_
          | refine Wp.seq ?_)
        refine ⟨(i, (i + j) / 2), ⟨by simp only; omega, by simp only; omega, by simp only; omega⟩, by simp only; omega, ?_⟩
        refine StLe.tm (by simp only [AllSub, go_sem, reduceIte, Nat.reduceEqDiff, Nat.reduceAdd, bx]; and_intros <;> first | exact trivial | exact VSub.refl _ | exact VSub.any _ | (refine VSub.int ?_; omega))
    · have hc' : ¬ (i : Int) < (j : Int) := by simpa using hc
      obtain rfl : i = r := by omega
      refine Wp.exit ?_
      have p1 : (0 : Int) ≤ (i : Int) := by omega
      by_cases hlt : i < l.length
      · have d1 : decide ((i : Int) < (l.length : Int)) = true := decide_eq_true (by omega)
        have p2 : (i : Int) < (l.length : Int) := by omega
        cases he : decide (l.getD i [] = key) with
        | true =>
          repeat (first
            | ((first | apply Wp.seqItems | apply Wp.items); (· simp only [go_sem, reduceIte, Nat.reduceEqDiff, Nat.reduceAdd, bx, ax, if_true, if_false, Nat.reduceMul, Nat.reduceLeDiff, d1, p1, p2, strs_length, Int.toNat_natCast, strs_getD _ _ _ hlt, he]; exact rfl))
            | (refine WpItems.nil ⟨?_, ?_⟩; (· first | trivial | simp [pairsQ, pairsOk, apart, ent0]))
            | (apply Wp.cond_lit; (· simp only [go_sem, reduceIte, Nat.reduceEqDiff, Nat.reduceAdd, bx, ax, if_true, if_false, Nat.reduceMul, Nat.reduceLeDiff, d1, p1, p2, strs_length, Int.toNat_natCast, strs_getD _ _ _ hlt, he]; exact rfl); (· rfl))
            | refine Wp.skip ?_
            | refine Wp.label ?_
            | refine Wp.block ?_
            | refine Wp.exit ?_
            | refine Wp.seq ?_)
          refine Wp.ret ⟨trivial, _, rfl, ?_⟩
          simp only [go_sem, reduceIte, Nat.reduceEqDiff, Nat.reduceAdd, bx]
          simp only [decide_eq_true hlt, Bool.true_and]
          exact VSub.refl _
        | false =>
          repeat (first
            | ((first | apply Wp.seqItems | apply Wp.items | ((first
                | (refine WpItems.pcall ?_ ?_ (isNaN_p (l.getD i [])) ?_; (· simp only [go_sem, reduceIte, Nat.reduceEqDiff, Nat.reduceAdd, bx]); (· simp only [go_sem, reduceIte, Nat.reduceEqDiff, Nat.reduceAdd, bx, List.map]; first | exact VSubs.refl _ | (repeat (first | exact VSubs.nil | refine VSubs.cons (by first | exact VSub.refl _ | assumption | exact VSub.cap | exact VSub.any _) ?_))))); apply WpItems.eval)); (· simp only [go_sem, reduceIte, Nat.reduceEqDiff, Nat.reduceAdd, bx, ax, if_true, if_false, Nat.reduceMul, Nat.reduceLeDiff, d1, p1, p2, strs_length, Int.toNat_natCast, strs_getD _ _ _ hlt, he]; exact rfl))
            | (refine WpItems.nil ⟨?_, ?_⟩; (· first | trivial | simp [pairsQ, pairsOk, apart, ent0]))
            | (apply Wp.cond_lit; (· simp only [go_sem, reduceIte, Nat.reduceEqDiff, Nat.reduceAdd, bx, ax, if_true, if_false, Nat.reduceMul, Nat.reduceLeDiff, d1, p1, p2, strs_length, Int.toNat_natCast, strs_getD _ _ _ hlt, he]; exact rfl); (· rfl))
            | refine Wp.skip ?_
            | refine Wp.label ?_
            | refine Wp.block ?_
            | refine Wp.exit ?_
            | refine Wp.seq ?_)
          refine Wp.ret ⟨trivial, _, rfl, ?_⟩
          simp only [go_sem, reduceIte, Nat.reduceEqDiff, Nat.reduceAdd, bx]
          simp only [decide_eq_true hlt, Bool.true_and]
          exact VSub.refl _
      · have d1 : decide ((i : Int) < (l.length : Int)) = false := decide_eq_false (by omega)
        repeat (first
          | ((first | apply Wp.seqItems | apply Wp.items); (· simp only [go_sem, reduceIte, Nat.reduceEqDiff, Nat.reduceAdd, bx, ax, if_true, if_false, Nat.reduceMul, Nat.reduceLeDiff, d1]; exact rfl))
          | (refine WpItems.nil ⟨?_, ?_⟩; (· first | trivial | simp [pairsQ, pairsOk, apart, ent0]))
          | (apply Wp.cond_lit; (· simp only [go_sem, reduceIte, Nat.reduceEqDiff, Nat.reduceAdd, bx, ax, if_true, if_false, Nat.reduceMul, Nat.reduceLeDiff, d1]; exact rfl); (· rfl))
          | refine Wp.skip ?_
          | refine Wp.label ?_
          | refine Wp.block ?_
          | refine Wp.exit ?_
          | refine Wp.seq ?_)
        refine Wp.ret ⟨trivial, _, rfl, ?_⟩
        simp only [go_sem, reduceIte, Nat.reduceEqDiff, Nat.reduceAdd, bx]
        simp only [decide_eq_false hlt, Bool.false_and]
        exact VSub.refl _
theorem set_strs (l : List Bs) (i : Nat) (v : Bs) : setAt (strs l) i [.str v] = strs (l.take i ++ v :: l.drop (i + 1)) := by
  simp [setAt, strs]
theorem strs_at (l : List Bs) (k : Nat) (h : k < l.length) : (strs l)[k]? = some (.str (l.getD k [])) := by
  simp [strs, List.getD, List.getElem?_map, List.getElem?_eq_getElem h]
theorem filter_step {l : List Bs} {p : Bs → Bool} {j : Nat} (h : j < l.length) : (l.take (j + 1)).filter (fun x => !p x) = (l.take j).filter (fun x => !p x) ++ (if p (l.getD j []) then [] else [l.getD j []]) := by
  rw [List.take_succ_eq_append_getElem h, List.filter_append, List.getD_eq_getElem?_getD, List.getElem?_eq_getElem h]
  congr 1
  cases hp : p l[j] <;> simp [hp]
theorem del_p (l : List Bs) (hl : l.length ≤ 1152921504606846976) (p : Bs → Bool) {g : FuncId} {fn : Func} (hf : Try.prog.funcs[g]? = some fn) (hb : fn.body.isSome = true) (hn : fn.name ≠ "runtime.NumGoroutine") (caps : List AV) (hc : allPure caps = true)
    (hp : ∀ c ∈ l, PCalls Try.prog g (.str c :: caps) (.bool (p c))) :
    DCalls Try.prog 130 (strs l) l.length [.clo (.func g) [] caps] (.sl 1 (strs (l.filter fun x => !p x)) .any) := by
  refine f130.dcalls (by simp) (strs_pure _) (by simp [allPure, isPure, hc]) (by simp [isPure, capPure, strs_pure]) ?_
  unfold c130
  have look : RCalls Try.prog 135 [.tsl 1 0 0 l.length none, .clo (.func g) [] caps] (upd none' 0 (some (.cells (strs l)))) (.int .i64 (ix p l)) := by
    have := (indexStr_p l (by omega) p hf hb hn caps hc hp).look (fun G G' w v h => by simpa only [VRel] using h) none 0
    rwa [strs_length] at this
  repeat (first
    | ((first | apply Wp.seqItems | apply Wp.items); (· simp only [go_sem, reduceIte, Nat.reduceEqDiff, Nat.reduceAdd, bx, ax, if_true, if_false, Nat.reduceMul, Nat.reduceLeDiff]; exact rfl))
    | (refine WpItems.nil ⟨?_, ?_⟩; (· first | trivial | simp [pairsQ, pairsOk, apart, ent0]))
    | (apply Wp.cond_lit; (· simp only [go_sem, reduceIte, Nat.reduceEqDiff, Nat.reduceAdd, bx, ax, if_true, if_false, Nat.reduceMul, Nat.reduceLeDiff]; exact rfl); (· rfl))
    | refine Wp.skip ?_
    | refine Wp.label ?_
    | refine Wp.block ?_
    | refine Wp.exit ?_
    | refine Wp.seq ?_)
  refine WpItems.rcall [0] (by simp only [go_sem]) (by simp only [go_sem, reduceIte, Nat.reduceEqDiff, List.map]; exact VSubs.refl _) (fun id o h => h) (fun id h => by simp only [upd, none'] at h; split at h <;> simp_all) look ?_
  refine WpItems.eval (by simp only [go_sem, reduceIte, Nat.reduceEqDiff, Nat.reduceAdd, bx]; exact rfl) ?_
  refine WpItems.nil ⟨by trivial, ?_⟩
  cases ha : l.any p with
  | false =>
    have e1 : ix p l = -1 := by simp [ix, ha]
    have hfl : l.filter (fun x => !p x) = l := List.filter_eq_self.2 fun x hx => by
      have := List.any_eq_false.1 ha x hx
      simp [this]
    repeat (first
      | ((first | apply Wp.seqItems | apply Wp.items); (· simp only [go_sem, reduceIte, Nat.reduceEqDiff, Nat.reduceAdd, bx, ax, if_true, if_false, Nat.reduceMul, Nat.reduceLeDiff, e1, decide_true]; exact rfl))
      | (refine WpItems.nil ⟨?_, ?_⟩; (· first | trivial | simp [pairsQ, pairsOk, apart, ent0]))
      | (apply Wp.cond_lit; (· simp only [go_sem, reduceIte, Nat.reduceEqDiff, Nat.reduceAdd, bx, ax, if_true, if_false, Nat.reduceMul, Nat.reduceLeDiff, e1, decide_true]; exact rfl); (· rfl))
      | refine Wp.skip ?_
      | refine Wp.label ?_
      | refine Wp.block ?_
      | refine Wp.exit ?_
      | refine Wp.seq ?_)
    refine Wp.ret ⟨trivial, _, rfl, ?_⟩
    simp only [go_sem, reduceIte, Nat.reduceEqDiff, Nat.reduceAdd, bx, unT]
    simp only [List.drop_zero, Nat.zero_add, H.only, upd, if_true, and_self, strs_length, Nat.le_refl, hfl]
    refine VSub.of_eq ?_
    rw [List.take_of_length_le (by rw [strs_length]; omega)]
  | true =>
    obtain ⟨x0, hx0, hpx⟩ := List.any_eq_true.1 ha
    have hlt : l.findIdx p < l.length := List.findIdx_lt_length_of_exists ⟨x0, hx0, hpx⟩
    have e1 : ix p l = ((l.findIdx p : Nat) : Int) := by simp [ix, ha]
    have d1 : decide (((l.findIdx p : Nat) : Int) = -1) = false := decide_eq_false (by omega)
    have e2 : IntKind.i64.wrap (((l.findIdx p : Nat) : Int) + 1) = ((l.findIdx p + 1 : Nat) : Int) := by rw [IntWalk.i64_in _ (by omega)]; omega
    repeat (first
      | ((first | apply Wp.seqItems | apply Wp.items); (· simp only [go_sem, reduceIte, Nat.reduceEqDiff, Nat.reduceAdd, bx, ax, if_true, if_false, Nat.reduceMul, Nat.reduceLeDiff, e1, d1, e2]; exact rfl))
      | (refine WpItems.nil ⟨?_, ?_⟩; (· first | trivial | simp [pairsQ, pairsOk, apart, ent0]))
      | (apply Wp.cond_lit; (· simp only [go_sem, reduceIte, Nat.reduceEqDiff, Nat.reduceAdd, bx, ax, if_true, if_false, Nat.reduceMul, Nat.reduceLeDiff, e1, d1, e2]; exact rfl); (· rfl))
      | refine Wp.skip ?_
      | refine Wp.label ?_
      | refine Wp.block ?_
      | refine Wp.exit ?_
      | refine Wp.seq ?_)
    refine Wp.loopH [0, 1] (by simp only [go_sem, reduceIte, Nat.reduceEqDiff, List.map]; exact rfl) (fun b : Nat × Nat × List Bs => [(5, .int .i64 b.1), (6, .int .i64 b.2.1)]) (fun b => .only (upd none' 0 (some (.cells (strs b.2.2)))) [] 1 0)
      (fun b => b.1 < b.2.1 ∧ b.2.1 ≤ l.length ∧ b.2.2.length = l.length ∧ b.2.2.take b.1 = (l.take b.2.1).filter (fun x => !p x) ∧ b.2.2.drop b.2.1 = l.drop b.2.1) (fun b => l.length - b.2.1) (l.findIdx p, l.findIdx p + 1, l) ⟨by simp only; omega, by simp only; omega, rfl, ?_, rfl⟩ rfl ?_ ?_
    · simp only
      have hpi : p (l.getD (l.findIdx p) []) = true := by rw [getD_el hlt]; exact List.findIdx_getElem
      rw [filter_step hlt, hpi, if_pos rfl, List.append_nil]
      refine (List.filter_eq_self.2 fun x hx => ?_).symm
      obtain ⟨k, hk, rfl⟩ := List.mem_iff_getElem.1 hx
      rw [List.length_take] at hk
      rw [List.getElem_take]
      have := List.not_of_lt_findIdx (p := p) (xs := l) (i := k) (by omega)
      simpa using this
    · simp only [AllSub, go_sem, reduceIte, Nat.reduceEqDiff, Nat.reduceAdd, bx]; and_intros <;> first | exact trivial | exact VSub.refl _ | exact VSub.any _ | (refine VSub.int ?_; omega)
    rintro ⟨i, j, cs⟩ ⟨h1, h2, h3, h4, h5⟩
    simp only at h1 h2 h3 h4 h5
    by_cases hc : j < l.length
    · have g1 : decide ((j : Int) < (l.length : Int)) = true := decide_eq_true (by omega)
      have q1 : (0 : Int) ≤ (j : Int) := by omega
      have q2 : (j : Int) < (l.length : Int) := by omega
      have q3 : j < cs.length := by omega
      have q4 : (0 : Int) ≤ (i : Int) := by omega
      have q5 : (i : Int) < (l.length : Int) := by omega
      have q6 : i + 1 ≤ cs.length := by omega
      have ej : cs.getD j [] = l.getD j [] := by
        have h := congrArg (fun l => l[0]?) h5
        simp only [List.getElem?_drop, Nat.add_zero] at h
        rw [List.getD_eq_getElem?_getD, List.getD_eq_getElem?_getD, h]
      have hm : l.getD j [] ∈ l := by rw [getD_el hc]; exact List.getElem_mem hc
      have e3 : IntKind.i64.wrap ((j : Int) + 1) = ((j + 1 : Nat) : Int) := by rw [IntWalk.i64_in _ (by omega)]; omega
      have e4 : IntKind.i64.wrap ((i : Int) + 1) = ((i + 1 : Nat) : Int) := by rw [IntWalk.i64_in _ (by omega)]; omega
      have hd : cs.drop (j + 1) = l.drop (j + 1) := by
        have h := congrArg (List.drop 1) h5
        simpa only [List.drop_drop, Nat.add_comm] using h
      repeat (first
        | ((first | apply Wp.seqItems | apply Wp.items); (· simp only [go_sem, reduceIte, Nat.reduceEqDiff, Nat.reduceAdd, bx, ax, if_true, if_false, Nat.reduceMul, Nat.reduceLeDiff, g1, q1, q2, Int.toNat_natCast, Nat.mul_one, strs_at cs j q3, ej]; exact rfl))
        | (refine WpItems.nil ⟨?_, ?_⟩; (· first | trivial | simp [pairsQ, pairsOk, apart, ent0]))
        | (apply Wp.cond_lit; (· simp only [go_sem, reduceIte, Nat.reduceEqDiff, Nat.reduceAdd, bx, ax, if_true, if_false, Nat.reduceMul, Nat.reduceLeDiff, g1, q1, q2, Int.toNat_natCast, Nat.mul_one, strs_at cs j q3, ej]; exact rfl); (· rfl))
        | refine Wp.skip ?_
        | refine Wp.label ?_
        | refine Wp.block ?_
        | refine Wp.exit ?_
        | refine Wp.seq ?_)
      refine WpItems.pcallv (by simp only [go_sem]) (by simp only [go_sem, reduceIte, Nat.reduceEqDiff]; exact rfl) hf hb hn (by simp only [go_sem, reduceIte, Nat.reduceEqDiff, List.map]; exact VSubs.refl _) (hp _ hm) ?_
      refine WpItems.eval (by simp only [go_sem, reduceIte, Nat.reduceEqDiff, Nat.reduceAdd, bx]; exact rfl) ?_
      refine WpItems.nil ⟨by trivial, ?_⟩
      have hfs := filter_step (p := p) hc
      cases hq : p (l.getD j []) with
      | true =>
        repeat (first
          | ((first | apply Wp.seqItems | apply Wp.items); (· simp only [go_sem, reduceIte, Nat.reduceEqDiff, Nat.reduceAdd, bx, ax, if_true, if_false, Nat.reduceMul, Nat.reduceLeDiff, e3]; exact rfl))
          | (refine WpItems.nil ⟨?_, ?_⟩; (· first | trivial | simp [pairsQ, pairsOk, apart, ent0]))
          | (apply Wp.cond_lit; (· simp only [go_sem, reduceIte, Nat.reduceEqDiff, Nat.reduceAdd, bx, ax, if_true, if_false, Nat.reduceMul, Nat.reduceLeDiff, e3]; exact rfl); (· rfl))
          | refine Wp.skip ?_
          | refine Wp.label ?_
          | refine Wp.block ?_
          | refine Wp.exit ?_
          | refine Wp.seq ?_)
        refine ⟨(i, j + 1, cs), ⟨by simp only; omega, by simp only; omega, h3, ?_, hd⟩, by simp only; omega, ?_⟩
        · simp only; rw [hfs, hq, if_pos rfl, List.append_nil]; exact h4
        · refine StLe.tm (by simp only [AllSub, go_sem, reduceIte, Nat.reduceEqDiff, Nat.reduceAdd, bx]; and_intros <;> first | exact trivial | exact VSub.refl _ | exact VSub.any _ | (refine VSub.int ?_; omega))
      | false =>
        repeat (first
          | ((first | apply Wp.seqItems | apply Wp.items); (· simp only [go_sem, reduceIte, Nat.reduceEqDiff, Nat.reduceAdd, bx, ax, if_true, if_false, Nat.reduceMul, Nat.reduceLeDiff, e3, e4, q4, q5, q6, Int.toNat_natCast, Nat.mul_one, set_strs]; exact rfl))
          | (refine WpItems.nil ⟨?_, ?_⟩; (· first | trivial | simp [pairsQ, pairsOk, apart, ent0]))
          | (apply Wp.cond_lit; (· simp only [go_sem, reduceIte, Nat.reduceEqDiff, Nat.reduceAdd, bx, ax, if_true, if_false, Nat.reduceMul, Nat.reduceLeDiff, e3, e4, q4, q5, q6, Int.toNat_natCast, Nat.mul_one, set_strs]; exact rfl); (· rfl))
          | refine Wp.skip ?_
          | refine Wp.label ?_
          | refine Wp.block ?_
          | refine Wp.exit ?_
          | refine Wp.seq ?_)
        have hti : (cs.take i).length = i := by simp; omega
        refine ⟨(i + 1, j + 1, cs.take i ++ l.getD j [] :: cs.drop (i + 1)), ⟨by simp only; omega, by simp only; omega, by simp only [List.length_append, List.length_cons, List.length_take, List.length_drop]; omega, ?_, ?_⟩, by simp only; omega, ?_⟩
        · simp only
          rw [hfs, hq, if_neg (by simp), ← h4, List.take_append, hti, List.take_of_length_le (by omega), Nat.add_sub_cancel_left]
          rfl
        · simp only
          rw [List.drop_append, hti, List.drop_eq_nil_of_le (by omega), List.nil_append, show j + 1 - i = (j - i) + 1 by omega, List.drop_succ_cons, List.drop_drop, ← hd]
          congr 1; omega
        · refine StLe.tmN (by omega) (OLe.at (by simp [upd, none', strs, List.map_append, List.map_cons, List.map_take, List.map_drop])) (by simp only [AllSub, go_sem, reduceIte, Nat.reduceEqDiff, Nat.reduceAdd, bx, strs, List.map_append, List.map_cons, List.map_take, List.map_drop]; and_intros <;> first | exact trivial | exact VSub.refl _ | exact VSub.any _ | (refine VSub.int ?_; omega))
    · obtain rfl : j = l.length := by omega
      have g1 : decide ((l.length : Int) < (l.length : Int)) = false := decide_eq_false (by omega)
      have q4 : (0 : Int) ≤ (i : Int) := by omega
      have q5 : (i : Int) ≤ (l.length : Int) := by omega
      have q6 : ¬ (l.length - i = 0) := by omega
      have q7 : i + (l.length - i) ≤ l.length := by omega
      have q8 : (strs cs).length = l.length := by rw [strs_length, h3]
      have q9 : (0 : Int) ≤ (l.length : Int) := by omega
      rw [List.take_length] at h4
      repeat (first
        | ((first | apply Wp.seqItems | apply Wp.items); (· simp only [go_sem, reduceIte, Nat.reduceEqDiff, Nat.reduceAdd, bx, ax, if_true, if_false, Nat.reduceMul, Nat.reduceLeDiff, g1, q4, q5, q6, q7, q8, q9, Int.toNat_natCast, Nat.mul_one, Int.le_refl, Nat.sub_zero, Option.map_none]; exact rfl))
        | (refine WpItems.nil ⟨?_, ?_⟩; (· first | trivial | simp [pairsQ, pairsOk, apart, ent0]))
        | (apply Wp.cond_lit; (· simp only [go_sem, reduceIte, Nat.reduceEqDiff, Nat.reduceAdd, bx, ax, if_true, if_false, Nat.reduceMul, Nat.reduceLeDiff, g1, q4, q5, q6, q7, q8, q9, Int.toNat_natCast, Nat.mul_one, Int.le_refl, Nat.sub_zero, Option.map_none]; exact rfl); (· rfl))
        | refine Wp.skip ?_
        | refine Wp.label ?_
        | refine Wp.block ?_
        | refine Wp.exit ?_
        | refine Wp.seq ?_)
      refine Wp.ret ⟨trivial, _, rfl, ?_⟩
      simp only [go_sem, reduceIte, Nat.reduceEqDiff, Nat.reduceAdd, bx, unT]
      simp only [H.only, upd, if_true, and_self, List.drop_zero]
      have hti : (List.take i (strs cs)).length = i := by rw [List.length_take, q8]; omega
      rw [if_pos (by rw [List.append_assoc, List.length_append, hti]; omega), List.append_assoc, List.take_append_of_le_length (by omega), List.take_take, Nat.min_self, ← h4]
      exact VSub.of_eq (by rw [strs, ← List.map_take]; rfl)
end Go.Proofs.Ytpehfflehebmbaa.Reads
end
section
set_option linter.unusedSimpArgs false
set_option linter.unusedVariables false
set_option maxRecDepth 10000
namespace Go.Proofs.Ytpehfflehebmbaa.Reads
open Go Go.Av Go.Proofs Go.Proofs.Ytpehfflehebmbaa.C Go.Lib Go.RowKit
def lays22_ren : Go.Shelf.Ren := ⟨fun | 22 => 82 | 29 => 128 | 30 => 129 | 36 => 145 | 17 => 146 | n => n, fun | 24 => 37 | 9 => 9 | 3 => 3 | 4 => 4 | 0 => 0 | n => n, fun | n => n⟩
theorem lays22 : Lays2.n22 Try.prog lays22_ren where
  mixed := by kernel_rfl
  f17 := Try.func146.trans (congrArg some (by kernel_rfl))
  f22 := Try.func82.trans (congrArg some (by kernel_rfl))
  f29 := Try.func128.trans (congrArg some (by kernel_rfl))
  f30 := Try.func129.trans (congrArg some (by kernel_rfl))
  f36 := Try.func145.trans (congrArg some (by kernel_rfl))
  t0 := Try.underlying0
  a0 := Try.isAgg0
  z0 := Try.sizeOf0
  v0 := Try.zeroValue0
  t3 := Try.underlying3
  a3 := Try.isAgg3
  z3 := Try.sizeOf3
  v3 := Try.zeroValue3
  t4 := Try.underlying4
  a4 := Try.isAgg4
  z4 := Try.sizeOf4
  v4 := Try.zeroValue4
  t9 := Try.underlying9
  a9 := Try.isAgg9
  z9 := Try.sizeOf9
  v9 := Try.zeroValue9
  t24 := Try.underlying37
  a24 := Try.isAgg37
  z24 := Try.sizeOf37
  v24 := Try.zeroValue37
  i9 := by kernel_rfl
def sv (l : List (List UInt8)) : List Value := l.map fun s => .string ⟨s.toArray⟩
theorem sv_length (l : List (List UInt8)) : (sv l).length = l.length := by simp [sv]
theorem sv_of {G : Ghost} {w : World} : ∀ {l : List (List UInt8)} {vs : List Value}, VRels G w (strs l) vs → vs = sv l
  | [], vs, h => by simpa [strs, VRels, sv] using h
  | s :: l, vs, h => by
    simp only [strs, List.map_cons, VRels, VRel] at h
    obtain ⟨v, us, rfl, rfl, h⟩ := h
    rw [sv_of (l := l) h]
    rfl
theorem sv_rels (l : List (List UInt8)) (G : Ghost) (w : World) : VRels G w (strs l) (sv l) := by
  induction l with
  | nil => simp [strs, sv, VRels]
  | cons s l ih =>
    simp only [strs, sv, List.map_cons, VRels]
    exact ⟨.string ⟨s.toArray⟩, sv l, rfl, by simp [VRel], ih⟩
theorem sv_one {l : List (List UInt8)} {v : Value} (h : v ∈ sv l) : One v := by
  obtain ⟨s, _, rfl⟩ := List.mem_map.1 h
  exact ⟨(fun _ e => by cases e), (fun _ e => by cases e)⟩
theorem sv_one' {l : List (List UInt8)} {v : Value} (h : v ∈ sv l) : v.oneCell' = true := by
  obtain ⟨s, _, rfl⟩ := List.mem_map.1 h
  rfl
theorem cell_of {w : World} {B : Nat} {T : TypeId} {fr : Nat × Nat} {L R : List Value} (hg : w.heap[B]? = some (.cells (L ++ R).toArray T fr)) (j : Nat) (v : Value) (h : L[j]? = some v) : w.cell? ⟨B, 0 + j, none⟩ = some v := by
  have hj := (List.getElem?_eq_some_iff.1 h).1
  unfold World.cell?
  simp only [hg, Nat.zero_add]
  simpa [List.getElem?_append_left hj] using h
theorem sv_insert (l : List (List UInt8)) (i : Nat) (x : List UInt8) : sv (l.take i ++ x :: l.drop i) = (sv l).take i ++ .string ⟨x.toArray⟩ :: (sv l).drop i := by simp [sv]
theorem ins_end {A R : List Value} {X : Value} {n : Nat} (hn : A.length = n) : (A ++ R).take (0 + n) ++ [X] ++ (A ++ R).drop (0 + n + 1) = A.take n ++ X :: A.drop n ++ R.drop 1 := by
  subst hn
  rw [Nat.zero_add, List.take_left, List.take_length, List.drop_length, List.drop_append, List.drop_eq_nil_of_le (by omega)]
  simp
theorem ins_mid {A R : List Value} {X : Value} {n i : Nat} (hn : A.length = n) (hi : i < n) :
    ((A ++ R).take (0 + (i + 1)) ++ A.drop i ++ (A ++ R).drop (0 + (i + 1) + (A.drop i).length)).take (0 + i) ++ [X] ++ ((A ++ R).take (0 + (i + 1)) ++ A.drop i ++ (A ++ R).drop (0 + (i + 1) + (A.drop i).length)).drop (0 + i + 1) = A.take i ++ X :: A.drop i ++ (A ++ R).drop (n + 1) := by
  subst hn
  have e2 : ((A ++ R).take (i + 1)).length = i + 1 := by simp; omega
  have e1 : ((A ++ R).take (i + 1)).take i = A.take i := by
    rw [List.take_take, Nat.min_eq_left (by omega), List.take_append_of_le_length (by omega)]
  have e3 : i + 1 + (A.drop i).length = A.length + 1 := by simp; omega
  rw [Nat.zero_add, Nat.zero_add, e3]
  have c1 : ((A ++ R).take (i + 1) ++ A.drop i ++ (A ++ R).drop (A.length + 1)).take i = A.take i := by
    rw [List.append_assoc, List.take_append_of_le_length (by omega), e1]
  have c2 : ((A ++ R).take (i + 1) ++ A.drop i ++ (A ++ R).drop (A.length + 1)).drop (i + 1) = A.drop i ++ (A ++ R).drop (A.length + 1) := by
    rw [List.append_assoc, List.drop_append, e2, List.drop_eq_nil_of_le (by omega), Nat.sub_self, List.drop_zero, List.nil_append]
  rw [c1, c2]
  simp
theorem ins_grow {A Z : List Value} {X : Value} {n i : Nat} (hn : A.length = n) (hi : i < n) :
    ((A.take i ++ Z).take i ++ [X] ++ (A.take i ++ Z).drop (i + 1)).take (i + 1) ++ A.drop i ++ ((A.take i ++ Z).take i ++ [X] ++ (A.take i ++ Z).drop (i + 1)).drop (i + 1 + (A.drop i).length) = A.take i ++ X :: A.drop i ++ ((A.take i ++ Z).take i ++ [X] ++ (A.take i ++ Z).drop (i + 1)).drop (i + 1 + (A.drop i).length) := by
  subst hn
  have e2 : (A.take i).length = i := by simp; omega
  have e1 : (A.take i ++ Z).take i = A.take i := by
    rw [List.take_append_of_le_length (by omega), List.take_take, Nat.min_self]
  have e4 : ((A.take i ++ Z).take i ++ [X] ++ (A.take i ++ Z).drop (i + 1)).take (i + 1) = A.take i ++ [X] := by
    rw [e1, List.take_append_of_le_length (by simp; omega), List.take_of_length_le (by simp; omega)]
  rw [e4]
  simp
theorem grown_le {w : World} {n old : Nat} {e : TypeId} (h : n ≤ 1099511627777) : grownCap w n old e ≤ 9223372036854775807 := by
  have := Nat.mod_lt (w.tape w.drawn (.appendCap n old e)) (show 0 < 2 ^ 63 - n by omega)
  simp only [grownCap, Question.cut]
  omega
theorem insert_t (l : List (List UInt8)) (i : Nat) (x : List UInt8) (hi : i ≤ l.length) (hl : l.length < 1099511627776) (h0 : 0 < l.length) {id id2 : Nat} (hne : id ≠ id2) {h : H} (ho : h.objs id = some (.cells (strs l))) (ho2 : h.objs id2 = some (.cells [.str x])) (htk : h.toks = []) :
    ACalls Try.prog 82 [.tsl 1 id 0 l.length none, .int .i64 i, .tsl 1 id2 0 1 none] h (.tsl 1 h.n 0 (l.length + 1) none) (h.turn id (.cells (strs (l.take i ++ x :: l.drop i)))) := by
  intro G w vs hv R F
  simp only [VRels, VRel] at hv
  obtain ⟨v1, _, rfl, ⟨hd1, hv1⟩, v2, _, rfl, rfl, v3, _, rfl, ⟨hd2, hv3⟩, rfl⟩ := hv
  obtain ⟨C, c, T, fr, rfl, ⟨hnC, hc63⟩, -, hg, hroom⟩ | ⟨hz, -⟩ := hv1
  rotate_left
  · omega
  obtain ⟨C2, c2, T2, fr2, rfl, ⟨hnC2, -⟩, -, hg2, hroom2⟩ | ⟨hz, -⟩ := hv3
  rotate_left
  · omega
  obtain ⟨-, hown, hB, us, rest, T', fr', hg', hvs, hfr, -⟩ := R.obj id _ ho
  obtain ⟨-, hown2, hB2, us2, rest2, T2', fr2', hg2', hvs2, hfr2, -⟩ := R.obj id2 _ ho2
  have hus := sv_of hvs
  subst hus
  have hus2 : us2 = [.string ⟨x.toArray⟩] := by
    simp only [VRels, VRel] at hvs2
    obtain ⟨v, _, rfl, rfl, rfl⟩ := hvs2
    rfl
  subst hus2
  have hbb : G.ι id2 ≠ G.ι id := fun e => hne (R.inj _ _ _ _ ho ho2 e.symm)
  rw [hg] at hg'
  obtain ⟨rfl, rfl, rfl⟩ : c = (sv l ++ rest).toArray ∧ T = T' ∧ fr = fr' := by simpa using hg'
  rw [hg2] at hg2'
  obtain ⟨rfl, rfl, rfl⟩ : c2 = ([Value.string ⟨x.toArray⟩] ++ rest2).toArray ∧ T2 = T2' ∧ fr2 = fr2' := by simpa using hg2'
  have hsl := sv_length l
  have hrl : C ≤ l.length + rest.length := by simpa [hsl] using hroom
  have hcs : ∀ (j : Nat) v, (sv l)[j]? = some v → w.cell? ⟨G.ι id, 0 + j, none⟩ = some v := fun j v => cell_of hg j v
  have hvs' : ∀ (j : Nat) v, ([Value.string ⟨x.toArray⟩] : List Value)[j]? = some v → w.cell? ⟨G.ι id2, 0 + j, none⟩ = some v := fun j v => cell_of hg2 j v
  have h1v : ∀ v ∈ ([Value.string ⟨x.toArray⟩] : List Value), v.oneCell' = true := by simp [Value.oneCell']
  have hsome : ∀ j, j < C → (w.cell? ⟨G.ι id, 0 + j, none⟩).isSome = true := fun j hj => by
    unfold World.cell?; simp only [hg]; simp [hsl]; omega
  have hfz : ∀ j, w.frozen? ⟨G.ι id, j, none⟩ = false := fun j => by
    unfold World.frozen?; simp only [hg]
    have := hfr j
    simp; omega
  have hfz2 : ∀ j, w.frozen? ⟨G.ι id2, j, none⟩ = false := fun j => by
    unfold World.frozen?; simp only [hg2]
    have := hfr2 j
    simp; omega
  have hfrn : ¬ G.dom h.n := F.1 _ (Nat.le_refl _) (Nat.lt_succ_self _)
  have hout : (strs (l.take i ++ x :: l.drop i)).length = l.length + 1 := by simp [strs]; omega
  have hso : (sv (l.take i ++ x :: l.drop i)).length = l.length + 1 := by rw [sv_length]; simp; omega
  -- a world in which the row stands in a new block
  have newb : ∀ (w' : World) (L2 : List Value) (T0 : TypeId) (C0 : Nat), l.length + 1 ≤ C0 → C0 ≤ 9223372036854775807 → C0 ≤ l.length + 1 + L2.length → w'.heap[w.heap.size]? = some (.cells (sv (l.take i ++ x :: l.drop i) ++ L2).toArray T0 (0, 0)) → w.heap.size ≤ w'.heap.size → w'.os = w.os → w'.output = w.output → (∀ b, b < w.heap.size → w'.heap[b]? = w.heap[b]?) →
      ∃ v G', Ending.returned (.slice (some ⟨w.heap.size, 0, none⟩) (l.length + 1) C0) = .returned v ∧ Trans G w h G' w' (h.turn id (.cells (strs (l.take i ++ x :: l.drop i)))) ∧ RepH G' (h.turn id (.cells (strs (l.take i ++ x :: l.drop i)))) w' ∧ VRel G' w' (.tsl 1 h.n 0 (l.length + 1) none) v := by
    intro w' L2 T0 C0 q1 q7 q8 q2 q3 q4 q5 q6
    obtain ⟨G', T1, R1, V⟩ := row_new (B := w.heap.size) (C := C0) (w' := w') R ho htk hfrn q3 q4 q5 (fun b hb _ => q6 b hb) (by rw [q6 _ hB]; exact SameForm.refl _) (.inr (Nat.le_refl _)) ⟨by rw [hout]; exact q1, q7⟩ (by rw [hso, hout]) (sv_rels _) (fun v hv => sv_one hv) q2 (by rw [hso]; exact q8) (fun j => by simp)
    exact ⟨_, G', rfl, T1, R1, by rw [hout] at V; exact V⟩
  -- a world in which it stands in its own block
  have inpl : ∀ (w' : World) (L2 : List Value), w'.heap[G.ι id]? = some (.cells (sv (l.take i ++ x :: l.drop i) ++ L2).toArray T fr) → (sv (l.take i ++ x :: l.drop i) ++ L2).length = (sv l ++ rest).length → w'.heap.size = w.heap.size → w'.os = w.os → w'.output = w.output → (∀ b, b ≠ G.ι id → w'.heap[b]? = w.heap[b]?) → l.length + 1 ≤ C →
      ∃ v G', Ending.returned (.slice (some ⟨G.ι id, 0, none⟩) (l.length + 1) C) = .returned v ∧ Trans G w h G' w' (h.turn id (.cells (strs (l.take i ++ x :: l.drop i)))) ∧ RepH G' (h.turn id (.cells (strs (l.take i ++ x :: l.drop i)))) w' ∧ VRel G' w' (.tsl 1 h.n 0 (l.length + 1) none) v := by
    intro w' L2 q1 q2 q3 q4 q5 q6 q7
    obtain ⟨G', T1, R1, V⟩ := row_new (B := G.ι id) (C := C) (w' := w') R ho htk hfrn (Nat.le_of_eq q3.symm) q4 q5 (fun b _ hb => q6 b hb) (by rw [hg, q1]; exact ⟨_, rfl, by simpa using q2⟩) (.inl rfl) ⟨by rw [hout]; exact q7, hc63⟩ (by rw [hso, hout]) (sv_rels _) (fun v hv => sv_one hv) q1 (by rw [List.length_append, List.length_append, hsl] at q2; omega) hfr
    exact ⟨_, G', rfl, T1, R1, by rw [hout] at V; exact V⟩
  by_cases hfit : l.length + 1 ≤ C
  · by_cases hie : i = l.length
    · subst hie
      refine (Any2.slices_Insert_string_end_room lays22 (G.ι id) 0 l.length C (G.ι id2) 0 1 C2 [.string ⟨x.toArray⟩] w (by omega) hfit hc63 rfl (fun j hj => by have := hsome (l.length + j) (by omega); rwa [← Nat.add_assoc] at this) (fun j hj => hfz _) hvs' h1v).mono ?_
      rintro e w' ⟨rfl, rfl⟩
      obtain ⟨a1, a2, a3, a4, a5⟩ := setCells_heap (G.ι id) T fr [.string ⟨x.toArray⟩] (0 + l.length) (sv l ++ rest) w hg (by simp [hsl]; omega)
      refine inpl _ (rest.drop 1) ?_ ?_ a3 a4 a5 a2 hfit
      · rw [a1, sv_insert, List.length_singleton, ins_end hsl]
      · rw [List.length_append, List.length_append, hso, hsl, List.length_drop]; omega
    · have hlt : i < l.length := by omega
      refine (Any2.slices_Insert_string_shift lays22 (G.ι id) 0 l.length C i (G.ι id2) 0 1 C2 (sv l) [.string ⟨x.toArray⟩] w hlt (by omega) hfit hc63 hbb hsl rfl hcs (fun j hj => hsome j (by omega)) (fun j hj => hfz _) hvs' (fun v hv => sv_one' hv) h1v T2 T ([Value.string ⟨x.toArray⟩] ++ rest2).toArray.size (sv l ++ rest).toArray.size (by unfold World.shape?; simp only [hg2]) (by unfold World.shape?; simp only [hg]) (by rw [List.size_toArray, List.length_append, hsl]; omega) (hfz2 _) (hfz2 _)).mono ?_
      rintro e w' ⟨rfl, rfl⟩
      obtain ⟨a1, a2, a3, a4, a5⟩ := setCells_heap (G.ι id) T fr ((sv l).drop i) (0 + (i + 1)) (sv l ++ rest) w.drew hg (by simp [hsl]; omega)
      obtain ⟨b1, b2, b3, b4, b5⟩ := setCells_heap (G.ι id) T fr [.string ⟨x.toArray⟩] (0 + i) _ _ a1 (by simp [hsl]; omega)
      refine inpl _ ((sv l ++ rest).drop (l.length + 1)) ?_ ?_ (b3.trans a3) (b4.trans a4) (b5.trans a5) (fun b hb => (b2 b hb).trans (a2 b hb)) hfit
      · rw [b1, sv_insert, List.length_singleton, ins_mid hsl hlt]
      · rw [List.length_append, hso, List.length_drop, List.length_append, hsl]; omega
  · have hCl : C = l.length := by omega
    subst hCl
    have hbig : (l.length + 1) * 16 ≤ 140737488355328 := by omega
    have hgc : ∀ e, l.length + 1 ≤ grownCap w (l.length + 1) l.length e := fun e => by simp [grownCap, Question.cut]
    by_cases hie : i = l.length
    · subst hie
      refine (Any2.slices_Insert_string_end_grow lays22 (some ⟨G.ι id, 0, none⟩) l.length l.length (G.ι id2) 0 1 C2 (sv l) [.string ⟨x.toArray⟩] w (by omega) (Nat.le_refl _) (by omega) hbig hsl rfl (fun e => by cases e) (fun a ha j v hj => by cases ha; rw [Addr.add_lit]; exact hcs j v hj) hvs' h1v).mono ?_
      rintro e w' ⟨rfl, rfl⟩
      have hgc' := hgc (lays22_ren.t 9)
      have hgl : grownCap w (l.length + 1) l.length (lays22_ren.t 9) ≤ 9223372036854775807 := grown_le (by omega)
      generalize grownCap w (l.length + 1) l.length (lays22_ren.t 9) = C0 at hgc' hgl ⊢
      have hZs : (Builtin.zeroCells (Value.string ⟨#[]⟩).cells (C0 - (l.length + 1))).toList.length = C0 - (l.length + 1) := by
        have hz : (Value.string ⟨#[]⟩).cells.size = 1 := rfl
        generalize (Value.string ⟨#[]⟩).cells = zc at hz
        simp [Builtin.zeroCells, hz]
      generalize Builtin.zeroCells (Value.string ⟨#[]⟩).cells (C0 - (l.length + 1)) = Zc at hZs ⊢
      refine newb _ Zc.toList (lays22_ren.t 9) _ hgc' hgl (by omega) ?_ ?_ rfl rfl ?_
      · show (w.heap.push _)[w.heap.size]? = _
        rw [Array.getElem?_push_size]
        refine congrArg some (congrArg (fun c => Go.Obj.cells c _ (0, 0)) (Array.ext' ?_))
        simp only [Array.toList_append, sv_insert, ← hsl, List.take_length, List.drop_length]
      · show _ ≤ (w.heap.push _).size
        rw [Array.size_push]; omega
      · intro b hb
        show (w.heap.push _)[b]? = _
        rw [Array.getElem?_push, if_neg (Nat.ne_of_lt hb)]
    · have hlt : i < l.length := by omega
      refine (Any2.slices_Insert_string_grow lays22 (G.ι id) 0 l.length l.length i (G.ι id2) 0 1 C2 (sv l) [.string ⟨x.toArray⟩] w hlt (by omega) (Nat.le_refl _) (by omega) hbig hsl rfl hcs hvs' (fun v hv => sv_one' hv) h1v).mono ?_
      rintro e w' ⟨rfl, rfl⟩
      generalize hC0 : grownCap w (l.length + 1) l.length (lays22_ren.t 9) = C0
      have hC1 : l.length + 1 ≤ C0 := hC0 ▸ hgc _
      have hC2 : C0 ≤ 9223372036854775807 := hC0 ▸ grown_le (by omega)
      generalize hA : w.alloc (.cells (((sv l).take i).toArray ++ Builtin.zeroCells (Value.string ⟨#[]⟩).cells (l.length + 1 - i) ++ Builtin.zeroCells (Value.string ⟨#[]⟩).cells (C0 - (l.length + 1))) (lays22_ren.t 9)) = A0
      obtain ⟨Z, hZl, g1⟩ : ∃ Z : List Value, Z.length = C0 - i ∧ A0.drew.heap[w.heap.size]? = some (.cells ((sv l).take i ++ Z).toArray (lays22_ren.t 9) (0, 0)) := by
        refine ⟨(Builtin.zeroCells (Value.string ⟨#[]⟩).cells (l.length + 1 - i) ++ Builtin.zeroCells (Value.string ⟨#[]⟩).cells (C0 - (l.length + 1))).toList, ?_, ?_⟩
        · have hz : (Value.string ⟨#[]⟩).cells.size = 1 := rfl
          generalize (Value.string ⟨#[]⟩).cells = zc at hz
          simp [Builtin.zeroCells, hz]; omega
        · subst hA
          show (w.heap.push _)[w.heap.size]? = _
          rw [Array.getElem?_push_size]
          refine congrArg some (congrArg (fun c => Go.Obj.cells c _ (0, 0)) (Array.ext' ?_))
          simp only [Array.toList_append, List.append_assoc]
      have k3 : A0.heap.size = w.heap.size + 1 := by
        rw [← hA]
        show (w.heap.push _).size = _
        rw [Array.size_push]
      have k4 : A0.os = w.os := by rw [← hA]; rfl
      have k5 : A0.output = w.output := by rw [← hA]; rfl
      have k2 : ∀ b, b < w.heap.size → A0.heap[b]? = w.heap[b]? := fun b hb => by
        rw [← hA]
        show (w.heap.push _)[b]? = _
        rw [Array.getElem?_push, if_neg (Nat.ne_of_lt hb)]
      clear hA
      have hT' : ((sv l).take i).length = i := by rw [List.length_take, hsl]; omega
      have hD : ((sv l).drop i).length = l.length - i := by rw [List.length_drop, hsl]
      obtain ⟨a1, a2, a3, a4, a5⟩ := setCells_heap w.heap.size _ (0, 0) [.string ⟨x.toArray⟩] i _ A0.drew g1 (by rw [List.length_append, hT', hZl, List.length_singleton]; omega)
      obtain ⟨b1, b2, b3, b4, b5⟩ := setCells_heap w.heap.size _ (0, 0) ((sv l).drop i) (i + 1) _ (World.setCells A0.drew w.heap.size i [.string ⟨x.toArray⟩]).drew a1 (by simp only [List.length_append, List.length_take, List.length_drop, hsl, hZl, List.length_singleton]; omega)
      rw [List.length_singleton, ins_grow hsl hlt, ← sv_insert] at b1
      refine newb _ _ _ _ hC1 hC2 (by simp only [List.length_append, List.length_take, List.length_drop, List.length_singleton, hsl, hZl]; omega) b1 ?_ ?_ ?_ ?_
      · rw [b3]; show _ ≤ (World.setCells A0.drew _ _ _).heap.size; rw [a3]; show _ ≤ A0.heap.size; omega
      · rw [b4]; show (World.setCells A0.drew _ _ _).os = _; rw [a4]; exact k4
      · rw [b5]; show (World.setCells A0.drew _ _ _).output = _; rw [a5]; exact k5
      · intro b hb
        rw [b2 b (Nat.ne_of_lt hb)]; show (World.setCells A0.drew _ _ _).heap[b]? = _
        rw [a2 b (Nat.ne_of_lt hb)]
        exact k2 b hb
theorem insert_e (x : List UInt8) {id2 : Nat} {h : H} (ho2 : h.objs id2 = some (.cells [.str x])) (htk : h.toks = []) :
    ACalls Try.prog 82 [.sl 1 [] (.exact 0), .int .i64 0, .tsl 1 id2 0 1 none] h (.tsl 1 h.n 0 1 none) (h.turn id2 (.cells (strs [x]))) := by
  intro G w vs hv R F
  simp only [VRels] at hv
  obtain ⟨v1, _, rfl, hv1, v2, _, rfl, hv2, v3, _, rfl, hv3, rfl⟩ := hv
  have hbase : ∃ a0, v1 = .slice a0 0 0 := by
    simp only [VRel, CapOk] at hv1
    rcases hv1 with ⟨-, h, -⟩ | ⟨B, off, C, vs, q1, -, -, -, -, q6⟩
    · exact h
    · subst q6; exact ⟨_, by simpa using q1⟩
  obtain ⟨a0, rfl⟩ := hbase
  simp only [VRel] at hv2 hv3
  subst hv2
  obtain ⟨hd2, hv3⟩ := hv3
  obtain ⟨C2, c2, T2, fr2, rfl, ⟨hnC2, -⟩, -, hg2, hroom2⟩ | ⟨hz, -⟩ := hv3
  rotate_left
  · omega
  obtain ⟨-, hown2, hB2, us2, rest2, T2', fr2', hg2', hvs2, hfr2, -⟩ := R.obj id2 _ ho2
  have hus2 : us2 = [.string ⟨x.toArray⟩] := by
    simp only [VRels, VRel] at hvs2
    obtain ⟨v, _, rfl, rfl, rfl⟩ := hvs2
    rfl
  subst hus2
  rw [hg2] at hg2'
  obtain ⟨rfl, rfl, rfl⟩ : c2 = ([Value.string ⟨x.toArray⟩] ++ rest2).toArray ∧ T2 = T2' ∧ fr2 = fr2' := by simpa using hg2'
  have hvs' : ∀ (j : Nat) v, ([Value.string ⟨x.toArray⟩] : List Value)[j]? = some v → w.cell? ⟨G.ι id2, 0 + j, none⟩ = some v := fun j v => cell_of hg2 j v
  have h1v : ∀ v ∈ ([Value.string ⟨x.toArray⟩] : List Value), v.oneCell' = true := by simp [Value.oneCell']
  have key := Any2.slices_Insert_string_end_grow lays22 a0 0 0 (G.ι id2) 0 1 C2 [] [.string ⟨x.toArray⟩] w (by omega) (Nat.le_refl _) (by omega) (by omega) rfl rfl (fun _ => rfl) (fun a ha j v hj => by simp at hj) hvs' h1v
  refine key.mono ?_
  rintro e w' ⟨rfl, rfl⟩
  have hgc' : 0 + 1 ≤ grownCap w (0 + 1) 0 (lays22_ren.t 9) := by simp [grownCap, Question.cut]
  have hgl : grownCap w (0 + 1) 0 (lays22_ren.t 9) ≤ 9223372036854775807 := grown_le (by omega)
  generalize grownCap w (0 + 1) 0 (lays22_ren.t 9) = C0 at hgc' hgl ⊢
  have hZs : (Builtin.zeroCells (Value.string ⟨#[]⟩).cells (C0 - (0 + 1))).toList.length = C0 - (0 + 1) := by
    have hz : (Value.string ⟨#[]⟩).cells.size = 1 := rfl
    generalize (Value.string ⟨#[]⟩).cells = zc at hz
    simp [Builtin.zeroCells, hz]
  generalize Builtin.zeroCells (Value.string ⟨#[]⟩).cells (C0 - (0 + 1)) = Zc at hZs ⊢
  have hs : (w.drew.alloc (.cells (([] ++ [Value.string ⟨x.toArray⟩]).toArray ++ Zc) (lays22_ren.t 9))).heap.size = w.heap.size + 1 := by
    show (w.heap.push _).size = _
    rw [Array.size_push]
  have hold : ∀ b, b < w.heap.size → (w.drew.alloc (.cells (([] ++ [Value.string ⟨x.toArray⟩]).toArray ++ Zc) (lays22_ren.t 9))).heap[b]? = w.heap[b]? := fun b hb => by
    show (w.heap.push _)[b]? = _
    rw [Array.getElem?_push, if_neg (Nat.ne_of_lt hb)]
  have hnew : (w.drew.alloc (.cells (([] ++ [Value.string ⟨x.toArray⟩]).toArray ++ Zc) (lays22_ren.t 9))).heap[w.heap.size]? = some (.cells (sv [x] ++ Zc.toList).toArray (lays22_ren.t 9) (0, 0)) := by
    show (w.heap.push _)[w.heap.size]? = _
    rw [Array.getElem?_push_size]
    refine congrArg some (congrArg (fun c => Go.Obj.cells c _ (0, 0)) (Array.ext' ?_))
    simp only [Array.toList_append]
    rfl
  obtain ⟨G', T1, R1, V⟩ := row_new (w' := w.drew.alloc (.cells (([] ++ [Value.string ⟨x.toArray⟩]).toArray ++ Zc) (lays22_ren.t 9))) (B := w.heap.size) (C := C0) (xs := strs [x]) (vs := sv [x]) R ho2 htk (F.1 _ (Nat.le_refl _) (Nat.lt_succ_self _)) (by omega) rfl rfl (fun b hb _ => hold b hb) (by rw [hold _ hB2]; exact SameForm.refl _) (.inr (Nat.le_refl _)) ⟨by simpa [strs] using hgc', hgl⟩ rfl (sv_rels _) (fun v hv => sv_one hv) hnew (by simp only [sv_length, List.length_singleton]; omega) (fun j => by simp)
  exact ⟨_, G', rfl, T1, R1, V⟩
end Go.Proofs.Ytpehfflehebmbaa.Reads
end
section
set_option linter.unusedSimpArgs false
set_option linter.unusedVariables false
set_option maxRecDepth 10000
namespace Go.Proofs.Ytpehfflehebmbaa.Reads
open Go Go.Av Go.Proofs Go.Proofs.Ytpehfflehebmbaa.C Go.Proofs.Ytpehfflehebmbaa.Batch
def spOk (l : List Sp) (i : Nat) : Bool := hasB (l.getD i default) && (decide (i = 0) || apartB (l.getD (i - 1) default) (l.getD i default))
def kOk (k : List Bs) (l : List Sp) (i : Nat) : Bool := (decide (i = 0) || Op.bytesLess (k.getD (i - 1) []) (k.getD i [])) && !spanned l (k.getD i [])
def spsOk (l : List Sp) : Bool := (List.range l.length).all (spOk l)
def ksOk (k : List Bs) (l : List Sp) : Bool := (List.range k.length).all (kOk k l)
def checkB (k : List Bs) (l : List Sp) : Bool := decide (k.length ≤ 64) && decide (l.length ≤ 64) && spsOk l && ksOk k l
theorem all_no {p : Nat → Bool} {n j : Nat} (h : j < n) (hp : p j = false) : (List.range n).all p = false := List.all_eq_false.2 ⟨j, List.mem_range.2 h, by simp [hp]⟩
theorem all_yes {p : Nat → Bool} {n : Nat} (h : ∀ i, i < n → p i = true) : (List.range n).all p = true := List.all_eq_true.2 fun i hi => h i (List.mem_range.1 hi)
theorem check_p (k : List Bs) (l : List Sp) : PCalls Try.prog 43 [encR k l] (.int .i64 (if checkB k l then 0 else 4)) := by
  refine f43.pcalls0 (by simp) (by simp [allPure, encR_pure]) rfl ?_
  unfold c43
  refine Wp.seqReg (by simp only [go_sem, reduceIte, Nat.reduceEqDiff, Nat.reduceAdd, bx, encR]; exact rfl) (by trivial) ?_
  refine Wp.frz (fun _ => true) [(1, .ref [.sl 1 (strs k) .any, .sl 2 (sps l) .any])] ⟨none', 1, [], 0⟩ ?_ (OLe.none _) (by simp) (by simp [go_sem]) (Nat.le_refl _) ?_
  · simp only [AllSub, go_sem, reduceIte, Nat.reduceEqDiff, unT, and_true]
    exact VSub.refl _
  by_cases b1 : k.length ≤ 64
  rotate_left
  · have d1 : decide ((64 : Int) < (k.length : Int)) = true := decide_eq_true (by omega)
    repeat (first
      | ((first | apply Wp.seqItems | apply Wp.items); (· simp only [go_sem, reduceIte, Nat.reduceEqDiff, Nat.reduceAdd, bx, ax, if_true, if_false, Nat.reduceMul, Nat.reduceLeDiff, d1, strs_length]; exact rfl))
      | (refine WpItems.nil ⟨?_, ?_⟩; (· first | trivial | simp [pairsQ, pairsOk, apart, ent0]))
      | (apply Wp.cond_lit; (· simp only [go_sem, reduceIte, Nat.reduceEqDiff, Nat.reduceAdd, bx, ax, if_true, if_false, Nat.reduceMul, Nat.reduceLeDiff, d1, strs_length]; exact rfl); (· rfl))
      | refine Wp.skip ?_
      | refine Wp.label ?_
      | refine Wp.block ?_
      | refine Wp.exit ?_
      | refine Wp.seq ?_)
    refine Wp.ret ⟨trivial, _, rfl, ?_⟩
    simp only [go_sem, reduceIte, Nat.reduceEqDiff, Nat.reduceAdd, bx]
    simp only [checkB, decide_eq_false b1, Bool.false_and, Bool.false_eq_true, if_false]
    exact VSub.refl _
  have d1 : decide ((64 : Int) < (k.length : Int)) = false := decide_eq_false (by omega)
  by_cases b2 : l.length ≤ 64
  rotate_left
  · have d2 : decide ((64 : Int) < (l.length : Int)) = true := decide_eq_true (by omega)
    repeat (first
      | ((first | apply Wp.seqItems | apply Wp.items); (· simp only [go_sem, reduceIte, Nat.reduceEqDiff, Nat.reduceAdd, bx, ax, if_true, if_false, Nat.reduceMul, Nat.reduceLeDiff, d1, d2, strs_length, sps_length]; exact rfl))
      | (refine WpItems.nil ⟨?_, ?_⟩; (· first | trivial | simp [pairsQ, pairsOk, apart, ent0]))
      | (apply Wp.cond_lit; (· simp only [go_sem, reduceIte, Nat.reduceEqDiff, Nat.reduceAdd, bx, ax, if_true, if_false, Nat.reduceMul, Nat.reduceLeDiff, d1, d2, strs_length, sps_length]; exact rfl); (· rfl))
      | refine Wp.skip ?_
      | refine Wp.label ?_
      | refine Wp.block ?_
      | refine Wp.exit ?_
      | refine Wp.seq ?_)
    refine Wp.ret ⟨trivial, _, rfl, ?_⟩
    simp only [go_sem, reduceIte, Nat.reduceEqDiff, Nat.reduceAdd, bx]
    simp only [checkB, decide_eq_false b2, Bool.and_false, Bool.false_and, Bool.false_eq_true, if_false]
    exact VSub.refl _
  have d2 : decide ((64 : Int) < (l.length : Int)) = false := decide_eq_false (by omega)
  repeat (first
    | ((first | apply Wp.seqItems | apply Wp.items); (· simp only [go_sem, reduceIte, Nat.reduceEqDiff, Nat.reduceAdd, bx, ax, if_true, if_false, Nat.reduceMul, Nat.reduceLeDiff, d1, d2, strs_length, sps_length]; exact rfl))
    | (refine WpItems.nil ⟨?_, ?_⟩; (· first | trivial | simp [pairsQ, pairsOk, apart, ent0]))
    | (apply Wp.cond_lit; (· simp only [go_sem, reduceIte, Nat.reduceEqDiff, Nat.reduceAdd, bx, ax, if_true, if_false, Nat.reduceMul, Nat.reduceLeDiff, d1, d2, strs_length, sps_length]; exact rfl); (· rfl))
    | refine Wp.skip ?_
    | refine Wp.label ?_
    | refine Wp.block ?_
    | refine Wp.exit ?_
    | refine Wp.seq ?_)
  refine Wp.loopN [1, 18, 19] (by simp only [go_sem, reduceIte, Nat.reduceEqDiff, List.map, sps_length]; exact rfl) (fun j : Nat => [(20, .int .i64 j)]) (fun j => j ≤ l.length ∧ ∀ i, i < j → spOk l i = true) (fun j => l.length - j) 0 ⟨Nat.zero_le _, fun i h => absurd h (by omega)⟩ ?_ ?_
  · simp only [AllSub, go_sem, reduceIte, Nat.reduceEqDiff, Nat.reduceAdd, bx]; and_intros <;> first | exact trivial | exact VSub.refl _ | exact VSub.any _ | (refine VSub.int ?_; omega)
  rintro j n hn ⟨hj, hs⟩
  by_cases hc : j < l.length
  · have g1 : decide ((j : Int) < (l.length : Int)) = true := decide_eq_true (by omega)
    have h2 : (0 : Int) ≤ (j : Int) := by omega
    have h3 : (j : Int) < (l.length : Int) := by omega
    have e1 : IntKind.i64.wrap ((j : Int) + 1) = ((j + 1 : Nat) : Int) := by rw [IntWalk.i64_in _ (by omega)]; omega
    have key : ∀ {b : Bool}, spOk l j = b → (b = true → ∀ i, i < j + 1 → spOk l i = true) ∧ (b = false → checkB k l = false) := by
      intro b hb
      refine ⟨fun h i hi => ?_, fun h => ?_⟩
      · by_cases e : i = j
        · subst e; rw [hb, h]
        · exact hs i (by omega)
      · have : spsOk l = false := all_no hc (hb.trans h)
        simp [checkB, this]
    cases ha : hasB (l.getD j default) with
    | false =>
      have q := (key (b := false) (by simp only [spOk, ha, Bool.false_and])).2 rfl
      repeat (first
        | ((first | apply Wp.seqItems | apply Wp.items | ((first
            | (refine WpItems.pcall ?_ ?_ (has_p (l.getD j default)) ?_; (· simp only [go_sem, reduceIte, Nat.reduceEqDiff, Nat.reduceAdd, bx]); (· simp only [go_sem, reduceIte, Nat.reduceEqDiff, Nat.reduceAdd, bx, List.map]; first | exact VSubs.refl _ | (repeat (first | exact VSubs.nil | refine VSubs.cons (by first | exact VSub.refl _ | assumption | exact VSub.cap | exact VSub.any _) ?_))))); apply WpItems.eval)); (· simp only [go_sem, reduceIte, Nat.reduceEqDiff, Nat.reduceAdd, bx, ax, if_true, if_false, Nat.reduceMul, Nat.reduceLeDiff, g1, h2, h3, e1, sps_length, Int.toNat_natCast, sps_getD _ _ _ hc, encSp, ha]; exact rfl))
        | (refine WpItems.nil ⟨?_, ?_⟩; (· first | trivial | simp [pairsQ, pairsOk, apart, ent0]))
        | (apply Wp.cond_lit; (· simp only [go_sem, reduceIte, Nat.reduceEqDiff, Nat.reduceAdd, bx, ax, if_true, if_false, Nat.reduceMul, Nat.reduceLeDiff, g1, h2, h3, e1, sps_length, Int.toNat_natCast, sps_getD _ _ _ hc, encSp, ha]; exact rfl); (· rfl))
        | refine Wp.skip ?_
        | refine Wp.label ?_
        | refine Wp.block ?_
        | refine Wp.exit ?_
        | refine Wp.seq ?_)
      refine Wp.ret ⟨trivial, _, rfl, ?_⟩
      simp only [go_sem, reduceIte, Nat.reduceEqDiff, Nat.reduceAdd, bx]
      simp only [q, Bool.false_eq_true, if_false]
      exact VSub.refl _
    | true =>
      by_cases hz : j = 0
      · have g2 : decide ((0 : Int) < (j : Int)) = false := decide_eq_false (by omega)
        have q := (key (b := true) (by simp only [spOk, ha, hz, decide_true, Bool.true_or, Bool.and_self] at ha ⊢; simp only [ha, Bool.and_self])).1 rfl
        repeat (first
          | ((first | apply Wp.seqItems | apply Wp.items | ((first
              | (refine WpItems.pcall ?_ ?_ (has_p (l.getD j default)) ?_; (· simp only [go_sem, reduceIte, Nat.reduceEqDiff, Nat.reduceAdd, bx]); (· simp only [go_sem, reduceIte, Nat.reduceEqDiff, Nat.reduceAdd, bx, List.map]; first | exact VSubs.refl _ | (repeat (first | exact VSubs.nil | refine VSubs.cons (by first | exact VSub.refl _ | assumption | exact VSub.cap | exact VSub.any _) ?_))))); apply WpItems.eval)); (· simp only [go_sem, reduceIte, Nat.reduceEqDiff, Nat.reduceAdd, bx, ax, if_true, if_false, Nat.reduceMul, Nat.reduceLeDiff, g1, g2, h2, h3, e1, sps_length, Int.toNat_natCast, sps_getD _ _ _ hc, encSp, ha]; exact rfl))
          | (refine WpItems.nil ⟨?_, ?_⟩; (· first | trivial | simp [pairsQ, pairsOk, apart, ent0]))
          | (apply Wp.cond_lit; (· simp only [go_sem, reduceIte, Nat.reduceEqDiff, Nat.reduceAdd, bx, ax, if_true, if_false, Nat.reduceMul, Nat.reduceLeDiff, g1, g2, h2, h3, e1, sps_length, Int.toNat_natCast, sps_getD _ _ _ hc, encSp, ha]; exact rfl); (· rfl))
          | refine Wp.skip ?_
          | refine Wp.label ?_
          | refine Wp.block ?_
          | refine Wp.exit ?_
          | refine Wp.seq ?_)
        refine ⟨j + 1, n + 1, by omega, ⟨by omega, q⟩, by omega, ?_⟩
        refine StLe.tmN (by omega) (OLe.none _) (by simp only [AllSub, go_sem, reduceIte, Nat.reduceEqDiff, Nat.reduceAdd, bx]; and_intros <;> first | exact trivial | exact VSub.refl _ | exact VSub.any _ | (refine VSub.int ?_; omega))
      · have g2 : decide ((0 : Int) < (j : Int)) = true := decide_eq_true (by omega)
        have e2 : IntKind.i64.wrap ((j : Int) - 1) = ((j - 1 : Nat) : Int) := by rw [IntWalk.i64_in _ (by omega)]; omega
        have h4 : (0 : Int) ≤ ((j - 1 : Nat) : Int) := by omega
        have h5 : ((j - 1 : Nat) : Int) < (l.length : Int) := by omega
        have h6 : j - 1 < l.length := by omega
        have hq : spOk l j = apartB (l.getD (j - 1) default) (l.getD j default) := by simp only [spOk, ha, decide_eq_false hz, Bool.true_and, Bool.false_or]
        cases hp : apartB (l.getD (j - 1) default) (l.getD j default) with
        | true =>
          have q := (key (hq.trans hp)).1 rfl
          repeat (first
            | ((first | apply Wp.seqItems | apply Wp.items | ((first
                | (refine WpItems.pcall ?_ ?_ (has_p (l.getD j default)) ?_; (· simp only [go_sem, reduceIte, Nat.reduceEqDiff, Nat.reduceAdd, bx]); (· simp only [go_sem, reduceIte, Nat.reduceEqDiff, Nat.reduceAdd, bx, List.map]; first | exact VSubs.refl _ | (repeat (first | exact VSubs.nil | refine VSubs.cons (by first | exact VSub.refl _ | assumption | exact VSub.cap | exact VSub.any _) ?_))))
                | (refine WpItems.pcall ?_ ?_ (apart_p (l.getD (j - 1) default) (l.getD j default)) ?_; (· simp only [go_sem, reduceIte, Nat.reduceEqDiff, Nat.reduceAdd, bx]); (· simp only [go_sem, reduceIte, Nat.reduceEqDiff, Nat.reduceAdd, bx, List.map]; first | exact VSubs.refl _ | (repeat (first | exact VSubs.nil | refine VSubs.cons (by first | exact VSub.refl _ | assumption | exact VSub.cap | exact VSub.any _) ?_))))); apply WpItems.eval)); (· simp only [go_sem, reduceIte, Nat.reduceEqDiff, Nat.reduceAdd, bx, ax, if_true, if_false, Nat.reduceMul, Nat.reduceLeDiff, g1, g2, h2, h3, h4, h5, e1, e2, sps_length, Int.toNat_natCast, sps_getD _ _ _ hc, sps_getD _ _ _ h6, encSp, ha, hp]; exact rfl))
            | (refine WpItems.nil ⟨?_, ?_⟩; (· first | trivial | simp [pairsQ, pairsOk, apart, ent0]))
            | (apply Wp.cond_lit; (· simp only [go_sem, reduceIte, Nat.reduceEqDiff, Nat.reduceAdd, bx, ax, if_true, if_false, Nat.reduceMul, Nat.reduceLeDiff, g1, g2, h2, h3, h4, h5, e1, e2, sps_length, Int.toNat_natCast, sps_getD _ _ _ hc, sps_getD _ _ _ h6, encSp, ha, hp]; exact rfl); (· rfl))
            | refine Wp.skip ?_
            | refine Wp.label ?_
            | refine Wp.block ?_
            | refine Wp.exit ?_
            | refine Wp.seq ?_)
          refine ⟨j + 1, n + 1, by omega, ⟨by omega, q⟩, by omega, ?_⟩
          refine StLe.tmN (by omega) (OLe.none _) (by simp only [AllSub, go_sem, reduceIte, Nat.reduceEqDiff, Nat.reduceAdd, bx]; and_intros <;> first | exact trivial | exact VSub.refl _ | exact VSub.any _ | (refine VSub.int ?_; omega))
        | false =>
          have q := (key (hq.trans hp)).2 rfl
          repeat (first
            | ((first | apply Wp.seqItems | apply Wp.items | ((first
                | (refine WpItems.pcall ?_ ?_ (has_p (l.getD j default)) ?_; (· simp only [go_sem, reduceIte, Nat.reduceEqDiff, Nat.reduceAdd, bx]); (· simp only [go_sem, reduceIte, Nat.reduceEqDiff, Nat.reduceAdd, bx, List.map]; first | exact VSubs.refl _ | (repeat (first | exact VSubs.nil | refine VSubs.cons (by first | exact VSub.refl _ | assumption | exact VSub.cap | exact VSub.any _) ?_))))
                | (refine WpItems.pcall ?_ ?_ (apart_p (l.getD (j - 1) default) (l.getD j default)) ?_; (· simp only [go_sem, reduceIte, Nat.reduceEqDiff, Nat.reduceAdd, bx]); (· simp only [go_sem, reduceIte, Nat.reduceEqDiff, Nat.reduceAdd, bx, List.map]; first | exact VSubs.refl _ | (repeat (first | exact VSubs.nil | refine VSubs.cons (by first | exact VSub.refl _ | assumption | exact VSub.cap | exact VSub.any _) ?_))))); apply WpItems.eval)); (· simp only [go_sem, reduceIte, Nat.reduceEqDiff, Nat.reduceAdd, bx, ax, if_true, if_false, Nat.reduceMul, Nat.reduceLeDiff, g1, g2, h2, h3, h4, h5, e1, e2, sps_length, Int.toNat_natCast, sps_getD _ _ _ hc, sps_getD _ _ _ h6, encSp, ha, hp]; exact rfl))
            | (refine WpItems.nil ⟨?_, ?_⟩; (· first | trivial | simp [pairsQ, pairsOk, apart, ent0]))
            | (apply Wp.cond_lit; (· simp only [go_sem, reduceIte, Nat.reduceEqDiff, Nat.reduceAdd, bx, ax, if_true, if_false, Nat.reduceMul, Nat.reduceLeDiff, g1, g2, h2, h3, h4, h5, e1, e2, sps_length, Int.toNat_natCast, sps_getD _ _ _ hc, sps_getD _ _ _ h6, encSp, ha, hp]; exact rfl); (· rfl))
            | refine Wp.skip ?_
            | refine Wp.label ?_
            | refine Wp.block ?_
            | refine Wp.exit ?_
            | refine Wp.seq ?_)
          refine Wp.ret ⟨trivial, _, rfl, ?_⟩
          simp only [go_sem, reduceIte, Nat.reduceEqDiff, Nat.reduceAdd, bx]
          simp only [q, Bool.false_eq_true, if_false]
          exact VSub.refl _
  obtain rfl : j = l.length := by omega
  have g1 : decide ((l.length : Int) < (l.length : Int)) = false := decide_eq_false (by omega)
  have hsp : spsOk l = true := all_yes hs
  repeat (first
    | ((first | apply Wp.seqItems | apply Wp.items); (· simp only [go_sem, reduceIte, Nat.reduceEqDiff, Nat.reduceAdd, bx, ax, if_true, if_false, Nat.reduceMul, Nat.reduceLeDiff, g1, strs_length]; exact rfl))
    | (refine WpItems.nil ⟨?_, ?_⟩; (· first | trivial | simp [pairsQ, pairsOk, apart, ent0]))
    | (apply Wp.cond_lit; (· simp only [go_sem, reduceIte, Nat.reduceEqDiff, Nat.reduceAdd, bx, ax, if_true, if_false, Nat.reduceMul, Nat.reduceLeDiff, g1, strs_length]; exact rfl); (· rfl))
    | refine Wp.skip ?_
    | refine Wp.label ?_
    | refine Wp.block ?_
    | refine Wp.exit ?_
    | refine Wp.seq ?_)
  refine Wp.loopN [1, 45, 46] (by simp only [go_sem, reduceIte, Nat.reduceEqDiff, List.map, strs_length]; exact rfl) (fun j : Nat => [(47, .int .i64 j)]) (fun j => j ≤ k.length ∧ ∀ i, i < j → kOk k l i = true) (fun j => k.length - j) 0 ⟨Nat.zero_le _, fun i h => absurd h (by omega)⟩ ?_ ?_
  · simp only [AllSub, go_sem, reduceIte, Nat.reduceEqDiff, Nat.reduceAdd, bx]; and_intros <;> first | exact trivial | exact VSub.refl _ | exact VSub.any _ | (refine VSub.int ?_; omega)
  rintro j n' hn' ⟨hj, hs'⟩
  by_cases hc : j < k.length
  · have g1 : decide ((j : Int) < (k.length : Int)) = true := decide_eq_true (by omega)
    have h2 : (0 : Int) ≤ (j : Int) := by omega
    have h3 : (j : Int) < (k.length : Int) := by omega
    have e1 : IntKind.i64.wrap ((j : Int) + 1) = ((j + 1 : Nat) : Int) := by rw [IntWalk.i64_in _ (by omega)]; omega
    have key : ∀ {b : Bool}, kOk k l j = b → (b = true → ∀ i, i < j + 1 → kOk k l i = true) ∧ (b = false → checkB k l = false) := by
      intro b hb
      refine ⟨fun h i hi => ?_, fun h => ?_⟩
      · by_cases e : i = j
        · subst e; rw [hb, h]
        · exact hs' i (by omega)
      · have : ksOk k l = false := all_no hc (hb.trans h)
        simp [checkB, this]
    have go : ∀ g : Bool, ((decide (j = 0) || Op.bytesLess (k.getD (j - 1) []) (k.getD j [])) = g) → kOk k l j = (g && !spanned l (k.getD j [])) := fun g hg => by simp only [kOk, hg]
    by_cases hz : j = 0
    · have g2 : decide ((0 : Int) < (j : Int)) = false := decide_eq_false (by omega)
      have hg := go true (by simp [hz])
      cases hp : spanned l (k.getD j []) with
      | true =>
        have q := (key (b := false) (by rw [hg, hp]; rfl)).2 rfl
        repeat (first
          | ((first | apply Wp.seqItems | apply Wp.items | ((first
              | (refine WpItems.pcall ?_ ?_ (spanned_p l (by omega) (k.getD j [])) ?_; (· simp only [go_sem, reduceIte, Nat.reduceEqDiff, Nat.reduceAdd, bx]); (· simp only [go_sem, reduceIte, Nat.reduceEqDiff, Nat.reduceAdd, bx, List.map]; first | exact VSubs.refl _ | (repeat (first | exact VSubs.nil | refine VSubs.cons (by first | exact VSub.refl _ | assumption | exact VSub.cap | exact VSub.any _) ?_))))); apply WpItems.eval)); (· simp only [go_sem, reduceIte, Nat.reduceEqDiff, Nat.reduceAdd, bx, ax, if_true, if_false, Nat.reduceMul, Nat.reduceLeDiff, g1, g2, h2, h3, e1, strs_length, Int.toNat_natCast, strs_getD _ _ _ hc, hp]; exact rfl))
          | (refine WpItems.nil ⟨?_, ?_⟩; (· first | trivial | simp [pairsQ, pairsOk, apart, ent0]))
          | (apply Wp.cond_lit; (· simp only [go_sem, reduceIte, Nat.reduceEqDiff, Nat.reduceAdd, bx, ax, if_true, if_false, Nat.reduceMul, Nat.reduceLeDiff, g1, g2, h2, h3, e1, strs_length, Int.toNat_natCast, strs_getD _ _ _ hc, hp]; exact rfl); (· rfl))
          | refine Wp.skip ?_
          | refine Wp.label ?_
          | refine Wp.block ?_
          | refine Wp.exit ?_
          | refine Wp.seq ?_)
        refine Wp.ret ⟨trivial, _, rfl, ?_⟩
        simp only [go_sem, reduceIte, Nat.reduceEqDiff, Nat.reduceAdd, bx]
        simp only [q, Bool.false_eq_true, if_false]
        exact VSub.refl _
      | false =>
        have q := (key (b := true) (by rw [hg, hp]; rfl)).1 rfl
        repeat (first
          | ((first | apply Wp.seqItems | apply Wp.items | ((first
              | (refine WpItems.pcall ?_ ?_ (spanned_p l (by omega) (k.getD j [])) ?_; (· simp only [go_sem, reduceIte, Nat.reduceEqDiff, Nat.reduceAdd, bx]); (· simp only [go_sem, reduceIte, Nat.reduceEqDiff, Nat.reduceAdd, bx, List.map]; first | exact VSubs.refl _ | (repeat (first | exact VSubs.nil | refine VSubs.cons (by first | exact VSub.refl _ | assumption | exact VSub.cap | exact VSub.any _) ?_))))); apply WpItems.eval)); (· simp only [go_sem, reduceIte, Nat.reduceEqDiff, Nat.reduceAdd, bx, ax, if_true, if_false, Nat.reduceMul, Nat.reduceLeDiff, g1, g2, h2, h3, e1, strs_length, Int.toNat_natCast, strs_getD _ _ _ hc, hp]; exact rfl))
          | (refine WpItems.nil ⟨?_, ?_⟩; (· first | trivial | simp [pairsQ, pairsOk, apart, ent0]))
          | (apply Wp.cond_lit; (· simp only [go_sem, reduceIte, Nat.reduceEqDiff, Nat.reduceAdd, bx, ax, if_true, if_false, Nat.reduceMul, Nat.reduceLeDiff, g1, g2, h2, h3, e1, strs_length, Int.toNat_natCast, strs_getD _ _ _ hc, hp]; exact rfl); (· rfl))
          | refine Wp.skip ?_
          | refine Wp.label ?_
          | refine Wp.block ?_
          | refine Wp.exit ?_
          | refine Wp.seq ?_)
        refine ⟨j + 1, n', by omega, ⟨by omega, q⟩, by omega, ?_⟩
        refine StLe.tmN (by omega) (OLe.none _) (by simp only [AllSub, go_sem, reduceIte, Nat.reduceEqDiff, Nat.reduceAdd, bx]; and_intros <;> first | exact trivial | exact VSub.refl _ | exact VSub.any _ | (refine VSub.int ?_; omega))
    · have g2 : decide ((0 : Int) < (j : Int)) = true := decide_eq_true (by omega)
      have e2 : IntKind.i64.wrap ((j : Int) - 1) = ((j - 1 : Nat) : Int) := by rw [IntWalk.i64_in _ (by omega)]; omega
      have h4 : (0 : Int) ≤ ((j - 1 : Nat) : Int) := by omega
      have h5 : ((j - 1 : Nat) : Int) < (k.length : Int) := by omega
      have h6 : j - 1 < k.length := by omega
      have hg := go _ (show _ = Op.bytesLess (k.getD (j - 1) []) (k.getD j []) by simp [hz])
      cases hp : Op.bytesLess (k.getD (j - 1) []) (k.getD j []) with
      | false =>
        have q := (key (b := false) (by rw [hg, hp]; rfl)).2 rfl
        repeat (first
          | ((first | apply Wp.seqItems | apply Wp.items); (· simp only [go_sem, reduceIte, Nat.reduceEqDiff, Nat.reduceAdd, bx, ax, if_true, if_false, Nat.reduceMul, Nat.reduceLeDiff, g1, g2, h2, h3, h4, h5, e1, e2, strs_length, Int.toNat_natCast, strs_getD _ _ _ hc, strs_getD _ _ _ h6, hp]; exact rfl))
          | (refine WpItems.nil ⟨?_, ?_⟩; (· first | trivial | simp [pairsQ, pairsOk, apart, ent0]))
          | (apply Wp.cond_lit; (· simp only [go_sem, reduceIte, Nat.reduceEqDiff, Nat.reduceAdd, bx, ax, if_true, if_false, Nat.reduceMul, Nat.reduceLeDiff, g1, g2, h2, h3, h4, h5, e1, e2, strs_length, Int.toNat_natCast, strs_getD _ _ _ hc, strs_getD _ _ _ h6, hp]; exact rfl); (· rfl))
          | refine Wp.skip ?_
          | refine Wp.label ?_
          | refine Wp.block ?_
          | refine Wp.exit ?_
          | refine Wp.seq ?_)
        refine Wp.ret ⟨trivial, _, rfl, ?_⟩
        simp only [go_sem, reduceIte, Nat.reduceEqDiff, Nat.reduceAdd, bx]
        simp only [q, Bool.false_eq_true, if_false]
        exact VSub.refl _
      | true =>
        cases hp2 : spanned l (k.getD j []) with
        | true =>
          have q := (key (b := false) (by rw [hg, hp, hp2]; rfl)).2 rfl
          repeat (first
            | ((first | apply Wp.seqItems | apply Wp.items | ((first
                | (refine WpItems.pcall ?_ ?_ (spanned_p l (by omega) (k.getD j [])) ?_; (· simp only [go_sem, reduceIte, Nat.reduceEqDiff, Nat.reduceAdd, bx]); (· simp only [go_sem, reduceIte, Nat.reduceEqDiff, Nat.reduceAdd, bx, List.map]; first | exact VSubs.refl _ | (repeat (first | exact VSubs.nil | refine VSubs.cons (by first | exact VSub.refl _ | assumption | exact VSub.cap | exact VSub.any _) ?_))))); apply WpItems.eval)); (· simp only [go_sem, reduceIte, Nat.reduceEqDiff, Nat.reduceAdd, bx, ax, if_true, if_false, Nat.reduceMul, Nat.reduceLeDiff, g1, g2, h2, h3, h4, h5, e1, e2, strs_length, Int.toNat_natCast, strs_getD _ _ _ hc, strs_getD _ _ _ h6, hp, hp2]; exact rfl))
            | (refine WpItems.nil ⟨?_, ?_⟩; (· first | trivial | simp [pairsQ, pairsOk, apart, ent0]))
            | (apply Wp.cond_lit; (· simp only [go_sem, reduceIte, Nat.reduceEqDiff, Nat.reduceAdd, bx, ax, if_true, if_false, Nat.reduceMul, Nat.reduceLeDiff, g1, g2, h2, h3, h4, h5, e1, e2, strs_length, Int.toNat_natCast, strs_getD _ _ _ hc, strs_getD _ _ _ h6, hp, hp2]; exact rfl); (· rfl))
            | refine Wp.skip ?_
            | refine Wp.label ?_
            | refine Wp.block ?_
            | refine Wp.exit ?_
            | refine Wp.seq ?_)
          refine Wp.ret ⟨trivial, _, rfl, ?_⟩
          simp only [go_sem, reduceIte, Nat.reduceEqDiff, Nat.reduceAdd, bx]
          simp only [q, Bool.false_eq_true, if_false]
          exact VSub.refl _
        | false =>
          have q := (key (b := true) (by rw [hg, hp, hp2]; rfl)).1 rfl
          repeat (first
            | ((first | apply Wp.seqItems | apply Wp.items | ((first
                | (refine WpItems.pcall ?_ ?_ (spanned_p l (by omega) (k.getD j [])) ?_; (· simp only [go_sem, reduceIte, Nat.reduceEqDiff, Nat.reduceAdd, bx]); (· simp only [go_sem, reduceIte, Nat.reduceEqDiff, Nat.reduceAdd, bx, List.map]; first | exact VSubs.refl _ | (repeat (first | exact VSubs.nil | refine VSubs.cons (by first | exact VSub.refl _ | assumption | exact VSub.cap | exact VSub.any _) ?_))))); apply WpItems.eval)); (· simp only [go_sem, reduceIte, Nat.reduceEqDiff, Nat.reduceAdd, bx, ax, if_true, if_false, Nat.reduceMul, Nat.reduceLeDiff, g1, g2, h2, h3, h4, h5, e1, e2, strs_length, Int.toNat_natCast, strs_getD _ _ _ hc, strs_getD _ _ _ h6, hp, hp2]; exact rfl))
            | (refine WpItems.nil ⟨?_, ?_⟩; (· first | trivial | simp [pairsQ, pairsOk, apart, ent0]))
            | (apply Wp.cond_lit; (· simp only [go_sem, reduceIte, Nat.reduceEqDiff, Nat.reduceAdd, bx, ax, if_true, if_false, Nat.reduceMul, Nat.reduceLeDiff, g1, g2, h2, h3, h4, h5, e1, e2, strs_length, Int.toNat_natCast, strs_getD _ _ _ hc, strs_getD _ _ _ h6, hp, hp2]; exact rfl); (· rfl))
            | refine Wp.skip ?_
            | refine Wp.label ?_
            | refine Wp.block ?_
            | refine Wp.exit ?_
            | refine Wp.seq ?_)
          refine ⟨j + 1, n', by omega, ⟨by omega, q⟩, by omega, ?_⟩
          refine StLe.tmN (by omega) (OLe.none _) (by simp only [AllSub, go_sem, reduceIte, Nat.reduceEqDiff, Nat.reduceAdd, bx]; and_intros <;> first | exact trivial | exact VSub.refl _ | exact VSub.any _ | (refine VSub.int ?_; omega))
  obtain rfl : j = k.length := by omega
  have g1 : decide ((k.length : Int) < (k.length : Int)) = false := decide_eq_false (by omega)
  have hk : ksOk k l = true := all_yes hs'
  repeat (first
    | ((first | apply Wp.seqItems | apply Wp.items); (· simp only [go_sem, reduceIte, Nat.reduceEqDiff, Nat.reduceAdd, bx, ax, if_true, if_false, Nat.reduceMul, Nat.reduceLeDiff, g1]; exact rfl))
    | (refine WpItems.nil ⟨?_, ?_⟩; (· first | trivial | simp [pairsQ, pairsOk, apart, ent0]))
    | (apply Wp.cond_lit; (· simp only [go_sem, reduceIte, Nat.reduceEqDiff, Nat.reduceAdd, bx, ax, if_true, if_false, Nat.reduceMul, Nat.reduceLeDiff, g1]; exact rfl); (· rfl))
    | refine Wp.skip ?_
    | refine Wp.label ?_
    | refine Wp.block ?_
    | refine Wp.exit ?_
    | refine Wp.seq ?_)
  refine Wp.ret ⟨trivial, _, rfl, ?_⟩
  simp only [go_sem, reduceIte, Nat.reduceEqDiff, Nat.reduceAdd, bx]
  simp only [checkB, decide_eq_true b1, decide_eq_true b2, hsp, hk, Bool.and_self, if_true]
  exact VSub.refl _
end Go.Proofs.Ytpehfflehebmbaa.Reads
end
section
set_option linter.unusedSimpArgs false
set_option linter.unusedVariables false
set_option maxRecDepth 10000
namespace Go.Proofs.Ytpehfflehebmbaa.Reads
open Go Go.Av Go.Proofs Go.Proofs.Ytpehfflehebmbaa.C Go.Proofs.Ytpehfflehebmbaa.Batch
def madeB (ks : List Bs) (l : List Sp) : List Bs × List Sp × Int :=
  if decide ((ks.filter fun x => !spanned l x).length ≤ 64) && decide (l.length ≤ 64) then (ks.filter fun x => !spanned l x, l, 0) else ([], [], 9)
def encO (o : List Bs × List Sp × Int) : AV := .tup [encR o.1 o.2.1, .int .i64 o.2.2]
theorem encO_pure (o : List Bs × List Sp × Int) : isPure (encO o) = true := by simp [encO, isPure, allPure, encR_pure]
theorem nil_sub (e : Int) : VSub (.tup [.agg [.sl 1 [] (.exact 0), .sl 2 [] (.exact 0)], .int .i64 e]) (encO ([], [], e)) :=
  VSub.tup (VSubs.cons (VSub.agg (VSubs.cons VSub.cap (VSubs.cons VSub.cap VSubs.nil))) (VSubs.refl _))
theorem del0_p {g : FuncId} {fn : Func} (hf : Try.prog.funcs[g]? = some fn) (hb : fn.body.isSome = true) (hn : fn.name ≠ "runtime.NumGoroutine") (caps : List AV) (hc : allPure caps = true) :
    PCalls Try.prog 130 [.sl 1 [] (.exact 0), .clo (.func g) [] caps] (.sl 1 [] .any) := by
  refine f130.pcalls0 (by simp) (by simp [allPure, isPure, capPure, hc]) rfl ?_
  unfold c130
  have h0 := indexStr_p [] (by simp) (fun _ => false) hf hb hn caps hc (by simp)
  have e : ix (fun _ : Bs => false) [] = -1 := rfl
  have d1 : decide ((-1 : Int) = -1) = true := rfl
  rw [e] at h0
  have hs : VSubs [AV.sl 1 [] (.exact 0), .clo (.func g) [] caps] [.sl 1 (strs []) .any, .clo (.func g) [] caps] := VSubs.cons VSub.cap (VSubs.refl _)
  repeat (first
    | ((first | apply Wp.seqItems | apply Wp.items | ((first
        | (refine WpItems.pcall ?_ ?_ (h0) ?_; (· simp only [go_sem, reduceIte, Nat.reduceEqDiff, Nat.reduceAdd, bx]); (· simp only [go_sem, reduceIte, Nat.reduceEqDiff, Nat.reduceAdd, bx, List.map]; exact hs))); apply WpItems.eval)); (· simp only [go_sem, reduceIte, Nat.reduceEqDiff, Nat.reduceAdd, bx, ax, if_true, if_false, Nat.reduceMul, Nat.reduceLeDiff, d1]; exact rfl))
    | (refine WpItems.nil ⟨?_, ?_⟩; (· first | trivial | simp [pairsQ, pairsOk, apart, ent0]))
    | (apply Wp.cond_lit; (· simp only [go_sem, reduceIte, Nat.reduceEqDiff, Nat.reduceAdd, bx, ax, if_true, if_false, Nat.reduceMul, Nat.reduceLeDiff, d1]; exact rfl); (· rfl))
    | refine Wp.skip ?_
    | refine Wp.label ?_
    | refine Wp.block ?_
    | refine Wp.exit ?_
    | refine Wp.seq ?_)
  refine Wp.ret ⟨trivial, _, rfl, ?_⟩
  simp only [go_sem, reduceIte, Nat.reduceEqDiff, Nat.reduceAdd, bx]
  exact VSub.cap
theorem made0_p (l : List Sp) (hl : l.length ≤ 4611686018427387904) : PCalls Try.prog 83 [.sl 1 [] (.exact 0), .sl 2 (sps l) .any] (encO (madeB [] l)) := by
  refine f83.pcalls0 (by simp) (by simp [allPure, isPure, capPure, sps_pure]) (encO_pure _) ?_
  unfold c83
  refine Wp.seqReg (by simp only [go_sem, reduceIte, Nat.reduceEqDiff, Nat.reduceAdd, bx]; exact rfl) (by trivial) ?_
  refine Wp.frz (fun j => j == 0) [(0, .sl 1 [] (.exact 0)), (3, .ref [.sl 2 (sps l) .any]), (4, .ptr 1 0)] ⟨upd none' 1 (some (.cells [.sl 1 [] (.exact 0), .sl 2 [] (.exact 0)])), 2, [], 0⟩ ?_ ?_ (by simp) (by simp [go_sem]) (Nat.le_refl _) ?_
  · simp only [AllSub, go_sem, reduceIte, Nat.reduceEqDiff, unT, and_true, beq_self_eq_true, Nat.reduceBEq, Bool.false_eq_true]
    and_intros <;> exact VSub.refl _
  · intro j o h
    show ∃ o', _ ∧ OSub o' o
    refine ⟨o, ?_, OSub.refl o⟩
    simp only [upd, none'] at h
    split at h
    · rename_i e; subst e; cases h; simp [H.drop, upd]
    · cases h
  by_cases b2 : l.length ≤ 64
  · have d1 : decide ((64 : Int) < ((0 : Nat) : Int)) = false := rfl
    have d2 : decide ((64 : Int) < (l.length : Int)) = false := decide_eq_false (by omega)
    repeat (first
      | ((first | apply Wp.seqItems | apply Wp.items | ((first
          | (refine WpItems.pcall ?_ ?_ (del0_p (caps := [.ref [.sl 2 (sps l) .any]]) Try.func131 rfl (of_decide_eq_true (by kernel_rfl)) (by simp [allPure, isPure, capPure, sps_pure])) ?_; (· simp only [go_sem, reduceIte, Nat.reduceEqDiff, Nat.reduceAdd, bx]); (· simp only [go_sem, reduceIte, Nat.reduceEqDiff, Nat.reduceAdd, bx, List.map]; first | exact VSubs.refl _ | (repeat (first | exact VSubs.nil | refine VSubs.cons (by first | exact VSub.refl _ | assumption | exact VSub.cap | exact VSub.any _) ?_))))); apply WpItems.eval)); (· simp only [go_sem, reduceIte, Nat.reduceEqDiff, Nat.reduceAdd, bx, ax, if_true, if_false, Nat.reduceMul, Nat.reduceLeDiff, d1, d2, sps_length]; exact rfl))
      | (refine WpItems.nil ⟨?_, ?_⟩; (· first | trivial | simp [pairsQ, pairsOk, apart, ent0]))
      | (apply Wp.cond_lit; (· simp only [go_sem, reduceIte, Nat.reduceEqDiff, Nat.reduceAdd, bx, ax, if_true, if_false, Nat.reduceMul, Nat.reduceLeDiff, d1, d2, sps_length]; exact rfl); (· rfl))
      | refine Wp.skip ?_
      | refine Wp.label ?_
      | refine Wp.block ?_
      | refine Wp.exit ?_
      | refine Wp.seq ?_)
    refine Wp.ret ⟨trivial, _, rfl, ?_⟩
    simp only [go_sem, reduceIte, Nat.reduceEqDiff, Nat.reduceAdd, bx]
    simp only [madeB, List.filter_nil, List.length_nil, Nat.zero_le, decide_true, b2, Bool.and_self, if_true]
    exact VSub.refl _
  · have d1 : decide ((64 : Int) < ((0 : Nat) : Int)) = false := rfl
    have d2 : decide ((64 : Int) < (l.length : Int)) = true := decide_eq_true (by omega)
    repeat (first
      | ((first | apply Wp.seqItems | apply Wp.items | ((first
          | (refine WpItems.pcall ?_ ?_ (del0_p (caps := [.ref [.sl 2 (sps l) .any]]) Try.func131 rfl (of_decide_eq_true (by kernel_rfl)) (by simp [allPure, isPure, capPure, sps_pure])) ?_; (· simp only [go_sem, reduceIte, Nat.reduceEqDiff, Nat.reduceAdd, bx]); (· simp only [go_sem, reduceIte, Nat.reduceEqDiff, Nat.reduceAdd, bx, List.map]; first | exact VSubs.refl _ | (repeat (first | exact VSubs.nil | refine VSubs.cons (by first | exact VSub.refl _ | assumption | exact VSub.cap | exact VSub.any _) ?_))))); apply WpItems.eval)); (· simp only [go_sem, reduceIte, Nat.reduceEqDiff, Nat.reduceAdd, bx, ax, if_true, if_false, Nat.reduceMul, Nat.reduceLeDiff, d1, d2, sps_length]; exact rfl))
      | (refine WpItems.nil ⟨?_, ?_⟩; (· first | trivial | simp [pairsQ, pairsOk, apart, ent0]))
      | (apply Wp.cond_lit; (· simp only [go_sem, reduceIte, Nat.reduceEqDiff, Nat.reduceAdd, bx, ax, if_true, if_false, Nat.reduceMul, Nat.reduceLeDiff, d1, d2, sps_length]; exact rfl); (· rfl))
      | refine Wp.skip ?_
      | refine Wp.label ?_
      | refine Wp.block ?_
      | refine Wp.exit ?_
      | refine Wp.seq ?_)
    refine Wp.ret ⟨trivial, _, rfl, ?_⟩
    simp only [go_sem, reduceIte, Nat.reduceEqDiff, Nat.reduceAdd, bx]
    simp only [madeB, List.filter_nil, List.length_nil, Nat.zero_le, decide_true, decide_eq_false b2, Bool.and_false, Bool.false_eq_true, if_false]
    exact nil_sub 9
theorem made_p (ks : List Bs) (hk : ks.length ≤ 1152921504606846976) (l : List Sp) (hl : l.length ≤ 4611686018427387904) : DCalls Try.prog 83 (strs ks) ks.length [.sl 2 (sps l) .any] (encO (madeB ks l)) := by
  refine f83.dcalls (by simp) (strs_pure _) (by simp [allPure, isPure, capPure, sps_pure]) (encO_pure _) ?_
  unfold c83
  refine Wp.seqReg (by simp only [go_sem, reduceIte, Nat.reduceEqDiff, Nat.reduceAdd, bx]; exact rfl) (by trivial) ?_
  refine Wp.frz (fun j => j == 1) [(0, .tsl 1 0 0 ks.length none), (3, .ref [.sl 2 (sps l) .any]), (4, .ptr 2 0)] ⟨upd (upd none' 0 (some (.cells (strs ks)))) 2 (some (.cells [.sl 1 [] (.exact 0), .sl 2 [] (.exact 0)])), 3, [], 0⟩ ?_ ?_ (by simp) (by simp [go_sem]) (Nat.le_refl _) ?_
  · simp only [AllSub, go_sem, reduceIte, Nat.reduceEqDiff, unT, and_true, beq_self_eq_true, Nat.reduceBEq, Bool.false_eq_true, and_false]
    and_intros <;> exact VSub.refl _
  · intro j o h
    show ∃ o', _ ∧ OSub o' o
    refine ⟨o, ?_, OSub.refl o⟩
    simp only [upd, none'] at h
    split at h
    · rename_i e; subst e; cases h; simp [H.drop, H.only, upd]
    · split at h
      · rename_i e; subst e; cases h; simp [H.drop, H.only, upd]
      · cases h
  refine Wp.seqItems (by simp only [go_sem, reduceIte, Nat.reduceEqDiff, Nat.reduceAdd, bx]; exact rfl) ?_
  refine WpItems.dcall 0 (by simp only [go_sem]) (by simp only [go_sem, reduceIte, Nat.reduceEqDiff, List.map]; exact VSubs.refl _) (del_p ks hk (spanned l) (caps := [.ref [.sl 2 (sps l) .any]]) Try.func131 rfl (of_decide_eq_true (by kernel_rfl)) (by simp [allPure, isPure, capPure, sps_pure]) (fun c _ => made1_p l hl c)) (by simp [upd]) (by simp) ?_
  refine WpItems.eval (by simp only [go_sem, reduceIte, Nat.reduceEqDiff, Nat.reduceAdd, bx]; exact rfl) ?_
  refine WpItems.nil ⟨by trivial, ?_⟩
  have hf : (ks.filter fun x => !spanned l x).length ≤ ks.length := List.length_filter_le _ _
  generalize hg : ks.filter (fun x => !spanned l x) = k2 at hf
  have hB : madeB ks l = if decide (k2.length ≤ 64) && decide (l.length ≤ 64) then (k2, l, 0) else ([], [], 9) := by rw [madeB, hg]
  rw [hB]
  by_cases b1 : k2.length ≤ 64
  · have d1 : decide ((64 : Int) < (k2.length : Int)) = false := decide_eq_false (by omega)
    by_cases b2 : l.length ≤ 64
    · have d2 : decide ((64 : Int) < (l.length : Int)) = false := decide_eq_false (by omega)
      repeat (first
        | ((first | apply Wp.seqItems | apply Wp.items); (· simp only [go_sem, reduceIte, Nat.reduceEqDiff, Nat.reduceAdd, bx, ax, if_true, if_false, Nat.reduceMul, Nat.reduceLeDiff, d1, d2, sps_length, strs_length]; exact rfl))
        | (refine WpItems.nil ⟨?_, ?_⟩; (· first | trivial | simp [pairsQ, pairsOk, apart, ent0]))
        | (apply Wp.cond_lit; (· simp only [go_sem, reduceIte, Nat.reduceEqDiff, Nat.reduceAdd, bx, ax, if_true, if_false, Nat.reduceMul, Nat.reduceLeDiff, d1, d2, sps_length, strs_length]; exact rfl); (· rfl))
        | refine Wp.skip ?_
        | refine Wp.label ?_
        | refine Wp.block ?_
        | refine Wp.exit ?_
        | refine Wp.seq ?_)
      refine Wp.ret ⟨trivial, _, rfl, ?_⟩
      simp only [go_sem, reduceIte, Nat.reduceEqDiff, Nat.reduceAdd, bx, unT, unTs]
      simp only [b1, b2, decide_true, Bool.and_self, if_true]
      exact VSub.refl _
    · have d2 : decide ((64 : Int) < (l.length : Int)) = true := decide_eq_true (by omega)
      repeat (first
        | ((first | apply Wp.seqItems | apply Wp.items); (· simp only [go_sem, reduceIte, Nat.reduceEqDiff, Nat.reduceAdd, bx, ax, if_true, if_false, Nat.reduceMul, Nat.reduceLeDiff, d1, d2, sps_length, strs_length]; exact rfl))
        | (refine WpItems.nil ⟨?_, ?_⟩; (· first | trivial | simp [pairsQ, pairsOk, apart, ent0]))
        | (apply Wp.cond_lit; (· simp only [go_sem, reduceIte, Nat.reduceEqDiff, Nat.reduceAdd, bx, ax, if_true, if_false, Nat.reduceMul, Nat.reduceLeDiff, d1, d2, sps_length, strs_length]; exact rfl); (· rfl))
        | refine Wp.skip ?_
        | refine Wp.label ?_
        | refine Wp.block ?_
        | refine Wp.exit ?_
        | refine Wp.seq ?_)
      refine Wp.ret ⟨trivial, _, rfl, ?_⟩
      simp only [go_sem, reduceIte, Nat.reduceEqDiff, Nat.reduceAdd, bx, unT, unTs]
      simp only [decide_eq_false b2, Bool.and_false, Bool.false_eq_true, if_false]
      exact nil_sub 9
  · have d1 : decide ((64 : Int) < (k2.length : Int)) = true := decide_eq_true (by omega)
    repeat (first
      | ((first | apply Wp.seqItems | apply Wp.items); (· simp only [go_sem, reduceIte, Nat.reduceEqDiff, Nat.reduceAdd, bx, ax, if_true, if_false, Nat.reduceMul, Nat.reduceLeDiff, d1, sps_length, strs_length]; exact rfl))
      | (refine WpItems.nil ⟨?_, ?_⟩; (· first | trivial | simp [pairsQ, pairsOk, apart, ent0]))
      | (apply Wp.cond_lit; (· simp only [go_sem, reduceIte, Nat.reduceEqDiff, Nat.reduceAdd, bx, ax, if_true, if_false, Nat.reduceMul, Nat.reduceLeDiff, d1, sps_length, strs_length]; exact rfl); (· rfl))
      | refine Wp.skip ?_
      | refine Wp.label ?_
      | refine Wp.block ?_
      | refine Wp.exit ?_
      | refine Wp.seq ?_)
    refine Wp.ret ⟨trivial, _, rfl, ?_⟩
    simp only [go_sem, reduceIte, Nat.reduceEqDiff, Nat.reduceAdd, bx, unT, unTs]
    simp only [decide_eq_false b1, Bool.false_and, Bool.false_eq_true, if_false]
    exact nil_sub 9
theorem rising {k : List Bs} {l : List Sp} (h : ksOk k l = true) {i : Nat} : ∀ {j}, i < j → j < k.length → Op.bytesLess (k.getD i []) (k.getD j []) = true
  | 0, hij, _ => absurd hij (by omega)
  | j + 1, hij, hj => by
    have h1 := List.all_eq_true.1 h (j + 1) (List.mem_range.2 hj)
    simp only [kOk, Nat.add_sub_cancel, Bool.and_eq_true, Bool.or_eq_true, decide_eq_true_eq] at h1
    have h2 : Op.bytesLess (k.getD j []) (k.getD (j + 1) []) = true := by
      rcases h1.1 with e | e
      · omega
      · exact e
    by_cases e : i = j
    · subst e; exact h2
    · exact less_trans (rising h (i := i) (j := j) (by omega) (by omega)) h2
def place (k : List Bs) (key : Bs) : Nat := k.findIdx fun x => !Op.bytesLess x key
def there (k : List Bs) (key : Bs) : Bool := decide (place k key < k.length) && decide (k.getD (place k key) [] = key)
theorem place_le (k : List Bs) (key : Bs) : place k key ≤ k.length := List.findIdx_le_length
theorem place_lt {k : List Bs} {key : Bs} {i : Nat} (h : i < place k key) : Op.bytesLess (k.getD i []) key = true := by
  have hl : i < k.length := Nat.lt_of_lt_of_le h (place_le k key)
  have := List.not_of_lt_findIdx h
  rw [getD_el hl]
  simpa using this
theorem place_ge {k : List Bs} {l : List Sp} {key : Bs} (hk : ksOk k l = true) {i : Nat} (h : place k key ≤ i) (hl : i < k.length) : Op.bytesLess (k.getD i []) key = false := by
  have hp : place k key < k.length := Nat.lt_of_le_of_lt h hl
  have h1 : Op.bytesLess (k.getD (place k key) []) key = false := by
    have := List.findIdx_getElem (p := fun x => !Op.bytesLess x key) (xs := k) (w := hp)
    rw [getD_el hp]
    have h2 : (!Op.bytesLess (k[place k key]'hp) key) = true := this
    simpa using h2
  by_cases e : i = place k key
  · rw [e]; exact h1
  · have h2 := rising hk (i := place k key) (j := i) (by omega) hl
    cases hc : Op.bytesLess (k.getD i []) key with
    | false => rfl
    | true => rw [less_trans h2 hc] at h1; cases h1
theorem search_p {k : List Bs} {l : List Sp} (hk : ksOk k l = true) (hl : k.length ≤ 64) (key : Bs) : PCalls Try.prog 81 [.sl 1 (strs k) .any, .str key] (.tup [.int .i64 (place k key), .bool (there k key)]) :=
  bsearch_p k (by omega) key (place k key) (place_le k key) (fun i h => place_lt h) (fun i h hi => place_ge hk h hi)
end Go.Proofs.Ytpehfflehebmbaa.Reads
end
section
set_option linter.unusedSimpArgs false
set_option linter.unusedVariables false
set_option maxRecDepth 10000
namespace Go.Proofs.Ytpehfflehebmbaa.Reads
open Go Go.Av Go.Proofs Go.Proofs.Ytpehfflehebmbaa.C Go.Proofs.Ytpehfflehebmbaa.Batch
def insK (k : List Bs) (key : Bs) : List Bs := if there k key then k else k.take (place k key) ++ key :: k.drop (place k key)
def keyB (k : List Bs) (l : List Sp) (key : Bs) : List Bs × List Sp × Int := if checkB k l then madeB (insK k key) l else ([], [], 4)
theorem strs_cells (l : List Bs) : (strs l).flatMap cellsOf = strs l := by
  induction l with
  | nil => rfl
  | cons s l ih => simp only [strs, List.map_cons, List.flatMap_cons] at ih ⊢; rw [ih]; rfl
theorem strs_shaped (l : List Bs) : (strs l).all shaped = true := by
  simp [strs, shaped, isCell]
theorem cloneK_p (k : List Bs) (h0 : k ≠ []) (hl : k.length ≤ 1000000) (n m : Nat) : ACalls Try.prog 61 [.sl 1 (strs k) .any] (H0 n m) (.tsl 1 n 0 k.length none) (.only (upd none' n (some (.cells (strs k)))) [] (n + 1) m) := by
  cases k with
  | nil => exact absurd rfl h0
  | cons s k =>
    have := cloneT_gen (sz := 1) (bytes := 16) f61 (.str s) (strs k) (strs_shaped (s :: k)) (by rw [strs_length]; simp only [List.length_cons] at hl; omega) (by rw [strs_length]; simp only [List.length_cons] at hl; omega) n m
    rw [strs_length] at this
    have e : (AV.str s :: strs k).flatMap cellsOf = strs (s :: k) := strs_cells (s :: k)
    rw [e] at this
    exact this
theorem cloneS_p (l : List Sp) (hl : l.length ≤ 1000000) : PCalls Try.prog 84 [.sl 2 (sps l) .any] (.sl 2 (sps l) .any) :=
  clone_gen (sz := 2) (bytes := 32) f84 (sps l) (sps_pure l) (by rw [sps_length]; omega) (by rw [sps_length]; omega)
theorem check_ok {k : List Bs} {l : List Sp} (h : checkB k l = true) : k.length ≤ 64 ∧ l.length ≤ 64 ∧ spsOk l = true ∧ ksOk k l = true := by
  simp only [checkB, Bool.and_eq_true, decide_eq_true_eq] at h
  exact ⟨h.1.1.1, h.1.1.2, h.1.2, h.2⟩
theorem key_p (k : List Bs) (l : List Sp) (key : Bs) : PCalls Try.prog 39 [encR k l, .str key] (encO (keyB k l key)) := by
  refine f39.pcallsF (by simp) (by simp [allPure, encR_pure, isPure]) (encO_pure _) ?_
  unfold c39
  have hck := check_p k l
  cases hc : checkB k l with
  | false =>
    rw [hc] at hck
    simp only [Bool.false_eq_true, if_false] at hck
    have d1 : decide ((4 : Int) = 0) = false := rfl
    repeat (first
      | ((first | apply Wp.seqItems | apply Wp.items | ((first
          | (refine WpItems.pcall ?_ ?_ (hck) ?_; (· simp only [go_sem, reduceIte, Nat.reduceEqDiff, Nat.reduceAdd, bx]); (· simp only [go_sem, reduceIte, Nat.reduceEqDiff, Nat.reduceAdd, bx, List.map]; first | exact VSubs.refl _ | (repeat (first | exact VSubs.nil | refine VSubs.cons (by first | exact VSub.refl _ | assumption | exact VSub.cap | exact VSub.any _) ?_))))); apply WpItems.eval)); (· simp only [go_sem, reduceIte, Nat.reduceEqDiff, Nat.reduceAdd, bx, ax, if_true, if_false, Nat.reduceMul, Nat.reduceLeDiff, encR, d1]; exact rfl))
      | (refine WpItems.nil ⟨?_, ?_⟩; (· first | trivial | simp [pairsQ, pairsOk, apart, ent0]))
      | (apply Wp.cond_lit; (· simp only [go_sem, reduceIte, Nat.reduceEqDiff, Nat.reduceAdd, bx, ax, if_true, if_false, Nat.reduceMul, Nat.reduceLeDiff, encR, d1]; exact rfl); (· rfl))
      | refine Wp.skip ?_
      | refine Wp.label ?_
      | refine Wp.block ?_
      | refine Wp.exit ?_
      | refine Wp.seq ?_)
    refine Wp.ret ⟨trivial, _, rfl, ?_⟩
    simp only [go_sem, reduceIte, Nat.reduceEqDiff, Nat.reduceAdd, bx, unT, unTs]
    simp only [keyB, hc, Bool.false_eq_true, if_false]
    exact nil_sub 4
  | true =>
    rw [hc] at hck
    simp only [if_true] at hck
    have d1 : decide ((0 : Int) = 0) = true := rfl
    obtain ⟨b1, b2, b3, b4⟩ := check_ok hc
    have hse := search_p b4 b1 key
    have hpl := place_le k key
    rw [show keyB k l key = madeB (insK k key) l by simp [keyB, hc]]
    repeat (first
      | ((first | apply Wp.seqItems | apply Wp.items | ((first
          | (refine WpItems.pcall ?_ ?_ (hck) ?_; (· simp only [go_sem, reduceIte, Nat.reduceEqDiff, Nat.reduceAdd, bx]); (· simp only [go_sem, reduceIte, Nat.reduceEqDiff, Nat.reduceAdd, bx, List.map]; first | exact VSubs.refl _ | (repeat (first | exact VSubs.nil | refine VSubs.cons (by first | exact VSub.refl _ | assumption | exact VSub.cap | exact VSub.any _) ?_))))); apply WpItems.eval)); (· simp only [go_sem, reduceIte, Nat.reduceEqDiff, Nat.reduceAdd, bx, ax, if_true, if_false, Nat.reduceMul, Nat.reduceLeDiff, encR, d1]; exact rfl))
      | (refine WpItems.nil ⟨?_, ?_⟩; (· first | trivial | simp [pairsQ, pairsOk, apart, ent0]))
      | (apply Wp.cond_lit; (· simp only [go_sem, reduceIte, Nat.reduceEqDiff, Nat.reduceAdd, bx, ax, if_true, if_false, Nat.reduceMul, Nat.reduceLeDiff, encR, d1]; exact rfl); (· rfl))
      | refine Wp.skip ?_
      | refine Wp.label ?_
      | refine Wp.block ?_
      | refine Wp.exit ?_
      | refine Wp.seq ?_)
    by_cases hk0 : k = []
    · subst hk0
      refine WpItems.pcall (by simp only [go_sem]) (by simp only [go_sem, reduceIte, Nat.reduceEqDiff, List.map]; exact VSubs.refl _) (cloneE_gen (sz := 1) (bytes := 16) f61) ?_
      refine WpItems.eval (by simp only [go_sem, reduceIte, Nat.reduceEqDiff, Nat.reduceAdd, bx]; exact rfl) ?_
      refine WpItems.nil ⟨by trivial, ?_⟩
      refine Wp.seq ?_
      refine Wp.seqItems (by simp only [go_sem, reduceIte, Nat.reduceEqDiff, Nat.reduceAdd, bx]; exact rfl) ?_
      refine WpItems.pcall (by simp only [go_sem]) (by simp only [go_sem, reduceIte, Nat.reduceEqDiff, List.map]; exact VSubs.cons VSub.cap (VSubs.refl _)) hse ?_
      refine WpItems.eval (by simp only [go_sem, reduceIte, Nat.reduceEqDiff, Nat.reduceAdd, bx]; exact rfl) ?_
      refine WpItems.nil ⟨by trivial, ?_⟩
      have ht : there [] key = false := rfl
      have hp0 : place [] key = 0 := rfl
      have e : insK [] key = [key] := rfl
      rw [e, ht, hp0]
      refine Wp.seqReg (by simp only [go_sem, reduceIte, Nat.reduceEqDiff, Nat.reduceAdd, bx]; exact rfl) (by trivial) ?_
      refine Wp.cond_true (by simp only [go_sem, reduceIte, Nat.reduceEqDiff, Nat.reduceAdd, bx]) ?_
      refine Wp.regN ?_
      refine WpItemsN.op (by simp only [go_sem, reduceIte, Nat.reduceEqDiff, Nat.reduceAdd, bx]) (by simp only [go_sem, reduceIte, Nat.reduceEqDiff, Nat.reduceAdd, bx]; exact rfl) ?_
      refine WpItemsN.op (by simp only [go_sem, reduceIte, Nat.reduceEqDiff, Nat.reduceAdd, bx]) (by simp only [go_sem, reduceIte, Nat.reduceEqDiff, Nat.reduceAdd, bx]; exact rfl) ?_
      refine WpItemsN.op (by simp only [go_sem, reduceIte, Nat.reduceEqDiff, Nat.reduceAdd, bx]) (by simp only [go_sem, reduceIte, Nat.reduceEqDiff, Nat.reduceAdd, bx]; exact rfl) ?_
      refine WpItemsN.opT (by simp only [go_sem, reduceIte, Nat.reduceEqDiff, Nat.reduceAdd, bx]) (by simp only [aopT, go_sem, reduceIte, Nat.reduceEqDiff, Nat.reduceAdd, bx, List.all_cons, List.all_nil, List.length_cons, List.length_nil, Nat.reduceMul, Nat.reduceLeDiff, and_self, if_true, decide_true, Bool.and_self]; exact rfl) ?_
      refine WpItemsN.acall (by simp only [go_sem]) (by simp only [go_sem, reduceIte, Nat.reduceEqDiff, List.map]; exact VSubs.refl _) (insert_e key (id2 := 2) (h := .only (upd none' 2 (some (.cells [.str key]))) [] 3 0) (by simp [H.only, upd]) rfl) (touch_turn _ (id := 2) (ob := .cells [.str key]) (by simp [upd, cellsOf]) (by simp)) ?_
      refine WpItemsN.op (by simp only [go_sem, reduceIte, Nat.reduceEqDiff, Nat.reduceAdd, bx]) (by simp only [go_sem, reduceIte, Nat.reduceEqDiff, Nat.reduceAdd, bx]; exact rfl) ?_
      refine WpItems.toN (log := []) (WpItems.nil ?_)
      refine Wp.seqItems (by simp only [go_sem, reduceIte, Nat.reduceEqDiff, Nat.reduceAdd, bx, H.turn]; exact rfl) ?_
      refine WpItems.pcall (by simp only [go_sem, reduceIte, Nat.reduceEqDiff, Nat.reduceAdd, bx]) (by simp only [go_sem, reduceIte, Nat.reduceEqDiff, Nat.reduceAdd, bx, List.map]; exact VSubs.refl _) (cloneS_p l (by omega)) ?_
      refine WpItems.eval (by simp only [go_sem, reduceIte, Nat.reduceEqDiff, Nat.reduceAdd, bx]; exact rfl) ?_
      refine WpItems.dcall 3 (by simp only [go_sem]) (by simp only [go_sem, reduceIte, Nat.reduceEqDiff, List.map]; exact VSubs.refl _) (made_p [key] (by simp) l (by omega)) (by simp [upd]) (by simp) ?_
      refine WpItems.eval (by simp only [go_sem, reduceIte, Nat.reduceEqDiff, Nat.reduceAdd, bx, encO, encR]; exact rfl) ?_
      refine WpItems.nil ⟨by trivial, ?_⟩
      refine Wp.ret ⟨trivial, _, rfl, ?_⟩
      simp only [go_sem, reduceIte, Nat.reduceEqDiff, Nat.reduceAdd, bx, unT, unTs]
      exact VSub.refl _
    · refine WpItems.acall (by simp only [go_sem]) (by simp only [go_sem, reduceIte, Nat.reduceEqDiff, List.map]; exact VSubs.refl _) (cloneK_p k hk0 (by omega) _ _) (touch_new _ _) ?_
      refine WpItems.eval (by simp only [go_sem, reduceIte, Nat.reduceEqDiff, Nat.reduceAdd, bx]; exact rfl) ?_
      refine WpItems.nil ⟨by trivial, ?_⟩
      refine Wp.seq ?_
      refine Wp.seqItems (by simp only [go_sem, reduceIte, Nat.reduceEqDiff, Nat.reduceAdd, bx]; exact rfl) ?_
      have look : RCalls Try.prog 81 [.tsl 1 2 0 k.length none, .str key] (upd none' 2 (some (.cells (strs k)))) (.tup [.int .i64 (place k key), .bool (there k key)]) := by
        have := hse.look (fun G G' w v h => by simpa only [VRel, VRels] using h) none 2
        rwa [strs_length] at this
      refine WpItems.rcall [2] (by simp only [go_sem]) (by simp only [go_sem, reduceIte, Nat.reduceEqDiff, List.map]; exact VSubs.refl _) (fun id o h => by simp only [upd, none'] at h ⊢; split at h <;> simp_all) (fun id h => by simp only [upd, none'] at h; split at h <;> simp_all) look ?_
      refine WpItems.eval (by simp only [go_sem, reduceIte, Nat.reduceEqDiff, Nat.reduceAdd, bx]; exact rfl) ?_
      refine WpItems.nil ⟨by trivial, ?_⟩
      cases ht : there k key with
      | true =>
        have e : insK k key = k := by simp [insK, ht]
        rw [e]
        repeat (first
          | ((first | apply Wp.seqItems | apply Wp.items); (· simp only [go_sem, reduceIte, Nat.reduceEqDiff, Nat.reduceAdd, bx, ax, if_true, if_false, Nat.reduceMul, Nat.reduceLeDiff, ht]; exact rfl))
          | (refine WpItems.nil ⟨?_, ?_⟩; (· first | trivial | simp [pairsQ, pairsOk, apart, ent0]))
          | (apply Wp.cond_lit; (· simp only [go_sem, reduceIte, Nat.reduceEqDiff, Nat.reduceAdd, bx, ax, if_true, if_false, Nat.reduceMul, Nat.reduceLeDiff, ht]; exact rfl); (· rfl))
          | refine Wp.skip ?_
          | refine Wp.label ?_
          | refine Wp.block ?_
          | refine Wp.exit ?_
          | refine Wp.seq ?_)
        refine WpItems.pcall (by simp only [go_sem, reduceIte, Nat.reduceEqDiff, Nat.reduceAdd, bx]) (by simp only [go_sem, reduceIte, Nat.reduceEqDiff, Nat.reduceAdd, bx, List.map]; exact VSubs.refl _) (cloneS_p l (by omega)) ?_
        refine WpItems.eval (by simp only [go_sem, reduceIte, Nat.reduceEqDiff, Nat.reduceAdd, bx]; exact rfl) ?_
        refine WpItems.dcall 2 (by simp only [go_sem]) (by simp only [go_sem, reduceIte, Nat.reduceEqDiff, List.map]; exact VSubs.refl _) (made_p k (by omega) l (by omega)) (by simp [upd]) (by simp) ?_
        refine WpItems.eval (by simp only [go_sem, reduceIte, Nat.reduceEqDiff, Nat.reduceAdd, bx, encO, encR]; exact rfl) ?_
        refine WpItems.nil ⟨by trivial, ?_⟩
        refine Wp.ret ⟨trivial, _, rfl, ?_⟩
        simp only [go_sem, reduceIte, Nat.reduceEqDiff, Nat.reduceAdd, bx, unT, unTs]
        exact VSub.refl _
      | false =>
        have e : insK k key = k.take (place k key) ++ key :: k.drop (place k key) := by simp [insK, ht]
        rw [e]
        have hpos : 0 < k.length := List.length_pos_iff.2 hk0
        have hln : (k.take (place k key) ++ key :: k.drop (place k key)).length = k.length + 1 := by
          simp only [List.length_append, List.length_cons, List.length_take, List.length_drop]; omega
        refine Wp.seqReg (by simp only [go_sem, reduceIte, Nat.reduceEqDiff, Nat.reduceAdd, bx]; exact rfl) (by trivial) ?_
        refine Wp.cond_true (by simp only [go_sem, reduceIte, Nat.reduceEqDiff, Nat.reduceAdd, bx]) ?_
        refine Wp.regN ?_
        refine WpItemsN.op (by simp only [go_sem, reduceIte, Nat.reduceEqDiff, Nat.reduceAdd, bx]) (by simp only [go_sem, reduceIte, Nat.reduceEqDiff, Nat.reduceAdd, bx]; exact rfl) ?_
        refine WpItemsN.op (by simp only [go_sem, reduceIte, Nat.reduceEqDiff, Nat.reduceAdd, bx]) (by simp only [go_sem, reduceIte, Nat.reduceEqDiff, Nat.reduceAdd, bx]; exact rfl) ?_
        refine WpItemsN.op (by simp only [go_sem, reduceIte, Nat.reduceEqDiff, Nat.reduceAdd, bx]) (by simp only [go_sem, reduceIte, Nat.reduceEqDiff, Nat.reduceAdd, bx]; exact rfl) ?_
        refine WpItemsN.opT (by simp only [go_sem, reduceIte, Nat.reduceEqDiff, Nat.reduceAdd, bx]) (by simp only [aopT, go_sem, reduceIte, Nat.reduceEqDiff, Nat.reduceAdd, bx, List.all_cons, List.all_nil, List.length_cons, List.length_nil, Nat.reduceMul, Nat.reduceLeDiff, and_self, if_true, decide_true, Bool.and_self]; exact rfl) ?_
        refine WpItemsN.acall (by simp only [go_sem]) (by simp only [go_sem, reduceIte, Nat.reduceEqDiff, List.map]; exact VSubs.refl _) (insert_t k (place k key) key hpl (by omega) hpos (id := 2) (id2 := 3) (h := .only (upd (upd none' 2 (some (.cells (strs k)))) 3 (some (.cells [.str key]))) [] 4 0) (by decide) (by simp [H.only, upd]) (by simp [H.only, upd]) rfl) (touch_turn2 _ (id := 2) (id2 := 3) (ob := .cells (strs k)) (ob2 := .cells [.str key]) (by simp [upd]) (by simp [upd, cellsOf]) (by decide) (by simp) (by simp)) ?_
        refine WpItemsN.op (by simp only [go_sem, reduceIte, Nat.reduceEqDiff, Nat.reduceAdd, bx]) (by simp only [go_sem, reduceIte, Nat.reduceEqDiff, Nat.reduceAdd, bx]; exact rfl) ?_
        refine WpItems.toN (log := []) (WpItems.nil ?_)
        refine Wp.seqItems (by simp only [go_sem, reduceIte, Nat.reduceEqDiff, Nat.reduceAdd, bx, H.turn]; exact rfl) ?_
        refine WpItems.pcall (by simp only [go_sem, reduceIte, Nat.reduceEqDiff, Nat.reduceAdd, bx]) (by simp only [go_sem, reduceIte, Nat.reduceEqDiff, Nat.reduceAdd, bx, List.map]; exact VSubs.refl _) (cloneS_p l (by omega)) ?_
        refine WpItems.eval (by simp only [go_sem, reduceIte, Nat.reduceEqDiff, Nat.reduceAdd, bx]; exact rfl) ?_
        have hmd := made_p (k.take (place k key) ++ key :: k.drop (place k key)) (by omega) l (by omega)
        rw [hln] at hmd
        refine WpItems.dcall 4 (by simp only [go_sem]) (by simp only [go_sem, reduceIte, Nat.reduceEqDiff, List.map]; exact VSubs.refl _) hmd (by simp [upd]) (by simp) ?_
        refine WpItems.eval (by simp only [go_sem, reduceIte, Nat.reduceEqDiff, Nat.reduceAdd, bx, encO, encR]; exact rfl) ?_
        refine WpItems.nil ⟨by trivial, ?_⟩
        refine Wp.ret ⟨trivial, _, rfl, ?_⟩
        simp only [go_sem, reduceIte, Nat.reduceEqDiff, Nat.reduceAdd, bx, unT, unTs]
        exact VSub.refl _
end Go.Proofs.Ytpehfflehebmbaa.Reads
end
section
set_option linter.unusedSimpArgs false
set_option linter.unusedVariables false
set_option maxRecDepth 10000
namespace Go.Proofs.Ytpehfflehebmbaa.Reads
open Go Go.Av Go.Proofs Go.Proofs.Ytpehfflehebmbaa.C Go.Proofs.Ytpehfflehebmbaa.Batch
structure SS where
  x : Sp
  laid : Bool
  out : List Sp
def stepS (s : SS) (y : Sp) : SS :=
  if apartB y s.x = true then ⟨s.x, s.laid, s.out ++ [y]⟩
  else if apartB s.x y = false then ⟨joinB s.x y, s.laid, s.out⟩
  else if s.laid = false then ⟨s.x, true, s.out ++ [s.x] ++ [y]⟩ else ⟨s.x, true, s.out ++ [y]⟩
def spanGo (l : List Sp) (x : Sp) : SS := l.foldl stepS ⟨x, false, []⟩
def spanL (l : List Sp) (x : Sp) : List Sp := if (spanGo l x).laid = true then (spanGo l x).out else (spanGo l x).out ++ [(spanGo l x).x]
def spanB (k : List Bs) (l : List Sp) (x : Sp) : List Bs × List Sp × Int := if checkB k l then madeB k (if hasB x = true then spanL l x else l) else ([], [], 4)
theorem sub2 {g : Nat → Option Av.Obj} {A B : Av.Obj} (h1 : g 1 = some A) (h2 : g 2 = some B) : OLe g (upd (upd none' 1 (some A)) 2 (some B)) := OLe.put (OLe.at h1) h2 (OSub.refl _)
abbrev res0 : Av.Obj := .cells [.sl 1 [] (.exact 0), .sl 2 [] (.exact 0)]
def hS (x : Sp) (tk n m : Nat) : H := ⟨upd (upd none' 1 (some res0)) 2 (some (.cells [.str x.f, .str x.t])), n, [tk], m⟩
theorem rooms32 {a : Nat} (h : a ≤ 128) : ((a + 1) * 32 ≤ 140737488355328 ∧ a + 1 < 4611686018427387904) ∧ (a + 1 + 1) * 32 ≤ 140737488355328 ∧ a + 1 + 1 < 4611686018427387904 := by omega
set_option maxHeartbeats 1000000 in
theorem span_p (k : List Bs) (l : List Sp) (x : Sp) : PCalls Try.prog 41 [encR k l, .str x.f, .str x.t] (encO (spanB k l x)) := by
  refine f41.pcallsF (by simp) (by simp [allPure, encR_pure, isPure]) (encO_pure _) ?_
  unfold c41
  have hck := check_p k l
  refine Wp.seqReg (by simp only [go_sem, reduceIte, Nat.reduceEqDiff, Nat.reduceAdd, bx, encR]; exact rfl) (by trivial) ?_
  refine Wp.frz (fun j => j == 0) [(1, .str x.f), (2, .str x.t), (3, .ref [.sl 1 (strs k) .any, .sl 2 (sps l) .any]), (6, .ptr 1 0)] ⟨upd none' 1 (some res0), 2, [], 0⟩ ?_ ?_ (by simp) (by simp [go_sem]) (Nat.le_refl _) ?_
  · simp only [AllSub, go_sem, reduceIte, Nat.reduceEqDiff, unT, and_true, beq_self_eq_true, Nat.reduceBEq, Bool.false_eq_true]
    and_intros <;> exact VSub.refl _
  · intro j o h
    show ∃ o', _ ∧ OSub o' o
    refine ⟨o, ?_, OSub.refl o⟩
    simp only [upd, none'] at h
    split at h
    · rename_i e; subst e; cases h; simp [H.drop, upd]
    · cases h
  refine Wp.straight ?_
  cases hc : checkB k l with
  | false =>
    rw [hc] at hck
    simp only [Bool.false_eq_true, if_false] at hck
    have d1 : decide ((4 : Int) = 0) = false := rfl
    repeat (first
      | ((first | apply Wp.seqItems | apply Wp.items | ((first
          | (refine WpItems.pcall ?_ ?_ (hck) ?_; (· simp only [go_sem, reduceIte, Nat.reduceEqDiff, Nat.reduceAdd, bx]); (· simp only [go_sem, reduceIte, Nat.reduceEqDiff, Nat.reduceAdd, bx, List.map]; first | exact VSubs.refl _ | (repeat (first | exact VSubs.nil | refine VSubs.cons (by first | exact VSub.refl _ | assumption | exact VSub.cap | exact VSub.any _) ?_))))); apply WpItems.eval)); (· simp only [go_sem, reduceIte, Nat.reduceEqDiff, Nat.reduceAdd, bx, ax, if_true, if_false, Nat.reduceMul, Nat.reduceLeDiff, d1]; exact rfl))
      | (refine WpItems.nil ⟨?_, ?_⟩; (· first | trivial | simp [pairsQ, pairsOk, apart, ent0]))
      | (apply Wp.cond_lit; (· simp only [go_sem, reduceIte, Nat.reduceEqDiff, Nat.reduceAdd, bx, ax, if_true, if_false, Nat.reduceMul, Nat.reduceLeDiff, d1]; exact rfl); (· rfl))
      | refine Wp.skip ?_
      | refine Wp.label ?_
      | refine Wp.block ?_
      | refine Wp.exit ?_
      | refine Wp.seq ?_)
    refine Wp.ret ⟨trivial, _, rfl, ?_⟩
    simp only [go_sem, reduceIte, Nat.reduceEqDiff, Nat.reduceAdd, bx, unT, unTs]
    simp only [spanB, hc, Bool.false_eq_true, if_false]
    exact nil_sub 4
  | true =>
    rw [hc] at hck
    simp only [if_true] at hck
    have d1 : decide ((0 : Int) = 0) = true := rfl
    obtain ⟨b1, b2, b3, b4⟩ := check_ok hc
    cases hB : hasB x with
    | false =>
      rw [show spanB k l x = madeB k l by simp [spanB, hc, hB]]
      repeat (first
        | ((first | apply Wp.seqItems | apply Wp.items | ((first
            | (refine WpItems.pcall ?_ ?_ (hck) ?_; (· simp only [go_sem, reduceIte, Nat.reduceEqDiff, Nat.reduceAdd, bx]); (· simp only [go_sem, reduceIte, Nat.reduceEqDiff, Nat.reduceAdd, bx, List.map]; first | exact VSubs.refl _ | (repeat (first | exact VSubs.nil | refine VSubs.cons (by first | exact VSub.refl _ | assumption | exact VSub.cap | exact VSub.any _) ?_))))
            | (refine WpItems.pcall ?_ ?_ (cloneS_p l (by omega)) ?_; (· simp only [go_sem, reduceIte, Nat.reduceEqDiff, Nat.reduceAdd, bx]); (· simp only [go_sem, reduceIte, Nat.reduceEqDiff, Nat.reduceAdd, bx, List.map]; first | exact VSubs.refl _ | (repeat (first | exact VSubs.nil | refine VSubs.cons (by first | exact VSub.refl _ | assumption | exact VSub.cap | exact VSub.any _) ?_))))
            | (refine WpItems.pcall ?_ ?_ (has_p x) ?_; (· simp only [go_sem, reduceIte, Nat.reduceEqDiff, Nat.reduceAdd, bx]); (· simp only [go_sem, reduceIte, Nat.reduceEqDiff, Nat.reduceAdd, bx, List.map]; first | exact VSubs.refl _ | (repeat (first | exact VSubs.nil | refine VSubs.cons (by first | exact VSub.refl _ | assumption | exact VSub.cap | exact VSub.any _) ?_))))); apply WpItems.eval)); (· simp only [go_sem, reduceIte, Nat.reduceEqDiff, Nat.reduceAdd, bx, ax, if_true, if_false, Nat.reduceMul, Nat.reduceLeDiff, d1, hB, encSp]; exact rfl))
        | (refine WpItems.nil ⟨?_, ?_⟩; (· first | trivial | simp [pairsQ, pairsOk, apart, ent0]))
        | (apply Wp.cond_lit; (· simp only [go_sem, reduceIte, Nat.reduceEqDiff, Nat.reduceAdd, bx, ax, if_true, if_false, Nat.reduceMul, Nat.reduceLeDiff, d1, hB, encSp]; exact rfl); (· rfl))
        | refine Wp.skip ?_
        | refine Wp.label ?_
        | refine Wp.block ?_
        | refine Wp.exit ?_
        | refine Wp.seq ?_)
      by_cases hk0 : k = []
      · subst hk0
        refine WpItems.pcall (by simp only [go_sem]) (by simp only [go_sem, reduceIte, Nat.reduceEqDiff, List.map]; exact VSubs.refl _) (cloneE_gen (sz := 1) (bytes := 16) f61) ?_
        refine WpItems.eval (by simp only [go_sem, reduceIte, Nat.reduceEqDiff, Nat.reduceAdd, bx]; exact rfl) ?_
        refine WpItems.pcall (by simp only [go_sem, reduceIte, Nat.reduceEqDiff, Nat.reduceAdd, bx]) (by simp only [go_sem, reduceIte, Nat.reduceEqDiff, Nat.reduceAdd, bx, List.map]; exact VSubs.refl _) (made0_p l (by omega)) ?_
        refine WpItems.eval (by simp only [go_sem, reduceIte, Nat.reduceEqDiff, Nat.reduceAdd, bx, encO, encR]; exact rfl) ?_
        refine WpItems.nil ⟨by trivial, ?_⟩
        refine Wp.ret ⟨trivial, _, rfl, ?_⟩
        simp only [go_sem, reduceIte, Nat.reduceEqDiff, Nat.reduceAdd, bx, unT, unTs]
        exact VSub.refl _
      · refine WpItems.acall (by simp only [go_sem]) (by simp only [go_sem, reduceIte, Nat.reduceEqDiff, List.map]; exact VSubs.refl _) (cloneK_p k hk0 (by omega) _ _) (touch_new _ _) ?_
        refine WpItems.eval (by simp only [go_sem, reduceIte, Nat.reduceEqDiff, Nat.reduceAdd, bx]; exact rfl) ?_
        refine WpItems.dcall 3 (by simp only [go_sem]) (by simp only [go_sem, reduceIte, Nat.reduceEqDiff, List.map]; exact VSubs.refl _) (made_p k (by omega) l (by omega)) (by simp [upd]) (by simp) ?_
        refine WpItems.eval (by simp only [go_sem, reduceIte, Nat.reduceEqDiff, Nat.reduceAdd, bx, encO, encR]; exact rfl) ?_
        refine WpItems.nil ⟨by trivial, ?_⟩
        refine Wp.ret ⟨trivial, _, rfl, ?_⟩
        simp only [go_sem, reduceIte, Nat.reduceEqDiff, Nat.reduceAdd, bx, unT, unTs]
        exact VSub.refl _
    | true =>
      rw [show spanB k l x = madeB k (spanL l x) by simp [spanB, hc, hB]]
      repeat (first
        | ((first | apply Wp.seqItems | apply Wp.items | ((first
            | (refine WpItems.pcall ?_ ?_ (hck) ?_; (· simp only [go_sem, reduceIte, Nat.reduceEqDiff, Nat.reduceAdd, bx]); (· simp only [go_sem, reduceIte, Nat.reduceEqDiff, Nat.reduceAdd, bx, List.map]; first | exact VSubs.refl _ | (repeat (first | exact VSubs.nil | refine VSubs.cons (by first | exact VSub.refl _ | assumption | exact VSub.cap | exact VSub.any _) ?_))))
            | (refine WpItems.pcall ?_ ?_ (cloneS_p l (by omega)) ?_; (· simp only [go_sem, reduceIte, Nat.reduceEqDiff, Nat.reduceAdd, bx]); (· simp only [go_sem, reduceIte, Nat.reduceEqDiff, Nat.reduceAdd, bx, List.map]; first | exact VSubs.refl _ | (repeat (first | exact VSubs.nil | refine VSubs.cons (by first | exact VSub.refl _ | assumption | exact VSub.cap | exact VSub.any _) ?_))))
            | (refine WpItems.pcall ?_ ?_ (has_p x) ?_; (· simp only [go_sem, reduceIte, Nat.reduceEqDiff, Nat.reduceAdd, bx]); (· simp only [go_sem, reduceIte, Nat.reduceEqDiff, Nat.reduceAdd, bx, List.map]; first | exact VSubs.refl _ | (repeat (first | exact VSubs.nil | refine VSubs.cons (by first | exact VSub.refl _ | assumption | exact VSub.cap | exact VSub.any _) ?_))))); apply WpItems.eval)); (· simp only [go_sem, reduceIte, Nat.reduceEqDiff, Nat.reduceAdd, bx, ax, if_true, if_false, Nat.reduceMul, Nat.reduceLeDiff, d1, hB, encSp, sps_length]; exact rfl))
        | (refine WpItems.nil ⟨?_, ?_⟩; (· first | trivial | simp [pairsQ, pairsOk, apart, ent0]))
        | (apply Wp.cond_lit; (· simp only [go_sem, reduceIte, Nat.reduceEqDiff, Nat.reduceAdd, bx, ax, if_true, if_false, Nat.reduceMul, Nat.reduceLeDiff, d1, hB, encSp, sps_length]; exact rfl); (· rfl))
        | refine Wp.skip ?_
        | refine Wp.label ?_
        | refine Wp.block ?_
        | refine Wp.exit ?_
        | refine Wp.seq ?_)
      refine Wp.le (StLe.trans (StLe.tok _ _) (StLe.of (f' := upd (upd none' 1 (some res0)) 2 (some (.cells [.str x.f, .str x.t]))) (n' := 3) (m' := 1) (k' := [0]) (fun i => VSub.refl _) (sub2 (by simp [upd]) (by simp [upd])) (by simp) (by simp) (by simp))) ?_
      refine Wp.loopH [3, 6, 9, 37, 38] (by simp only [go_sem, reduceIte, Nat.reduceEqDiff, List.map, sps_length]; exact rfl) (fun b : Nat × SS × Nat × Nat × Nat => [(11, .sl 2 (sps b.2.1.out) (.own b.2.2.1)), (12, .bool b.2.1.laid), (39, .int .i64 b.1)]) (fun b => hS b.2.1.x b.2.2.1 b.2.2.2.1 b.2.2.2.2)
        (fun b => b.1 ≤ l.length ∧ 3 ≤ b.2.2.2.1 ∧ b.2.1 = (l.take b.1).foldl stepS ⟨x, false, []⟩ ∧ b.2.1.out.length ≤ 2 * b.1) (fun b => l.length - b.1) (0, ⟨x, false, []⟩, 0, 3, 1) ⟨by simp, by simp, rfl, by simp⟩ rfl ?_ ?_
      · simp only [AllSub, go_sem, reduceIte, Nat.reduceEqDiff, Nat.reduceAdd, bx]; and_intros <;> first | exact trivial | exact VSub.refl _ | exact VSub.any _ | exact VSub.own_of rfl | (refine VSub.int ?_; omega)
      rintro ⟨j, s, tk, n, m⟩ ⟨h1, h2, h3, h4⟩
      simp only at h1 h2 h3 h4
      have n1 : ¬ (n = 1) := by omega
      have n1' : ¬ (1 = n) := by omega
      have n2 : ¬ (n = 2) := by omega
      have n2' : ¬ (2 = n) := by omega
      by_cases hj : j < l.length
      · have g1 : decide ((j : Int) < (l.length : Int)) = true := decide_eq_true (by omega)
        have q1 : (0 : Int) ≤ (j : Int) := by omega
        have q2 : (j : Int) < (l.length : Int) := by omega
        have e1 : IntKind.i64.wrap ((j : Int) + 1) = ((j + 1 : Nat) : Int) := by rw [IntWalk.i64_in _ (by omega)]; omega
        have hst : (l.take (j + 1)).foldl stepS ⟨x, false, []⟩ = stepS s (l.getD j default) := by
          rw [List.take_succ_eq_append_getElem hj, List.foldl_append, ← h3, getD_el hj]; rfl
        obtain ⟨⟨r0, r0'⟩, r1, r1'⟩ := rooms32 (a := s.out.length) (by omega)
        generalize hy : l.getD j default = y at hst
        unfold hS
        cases ha : apartB y s.x with
        | true =>
          have hs : stepS s y = ⟨s.x, s.laid, s.out ++ [y]⟩ := by simp [stepS, ha]
          repeat (first
            | ((first | apply Wp.seqItems | apply Wp.items | ((first
                | (refine WpItems.pcall ?_ ?_ (apart_p y s.x) ?_; (· simp only [go_sem, reduceIte, Nat.reduceEqDiff, Nat.reduceAdd, bx]); (· simp only [go_sem, reduceIte, Nat.reduceEqDiff, Nat.reduceAdd, bx, List.map]; first | exact VSubs.refl _ | (repeat (first | exact VSubs.nil | refine VSubs.cons (by first | exact VSub.refl _ | assumption | exact VSub.cap | exact VSub.any _) ?_))))); apply WpItems.eval)); (· simp only [go_sem, reduceIte, Nat.reduceEqDiff, Nat.reduceAdd, bx, ax, if_true, if_false, Nat.reduceMul, Nat.reduceLeDiff, g1, q1, q2, e1, n1, n1', n2, n2', sps_length, Int.toNat_natCast, sps_getD _ _ _ hj, hy, encSp, ha, r0, r0']; exact rfl))
            | (refine WpItems.nil ⟨?_, ?_⟩; (· first | trivial | simp [pairsQ, pairsOk, apart, ent0]))
            | (apply Wp.cond_lit; (· simp only [go_sem, reduceIte, Nat.reduceEqDiff, Nat.reduceAdd, bx, ax, if_true, if_false, Nat.reduceMul, Nat.reduceLeDiff, g1, q1, q2, e1, n1, n1', n2, n2', sps_length, Int.toNat_natCast, sps_getD _ _ _ hj, hy, encSp, ha, r0, r0']; exact rfl); (· rfl))
            | refine Wp.skip ?_
            | refine Wp.label ?_
            | refine Wp.block ?_
            | refine Wp.exit ?_
            | refine Wp.seq ?_)
          refine ⟨(j + 1, ⟨s.x, s.laid, s.out ++ [y]⟩, m, n + 1, m + 1), ⟨hj, by simp only; omega, by simp only; rw [hst, hs], by simp only [List.length_append, List.length_singleton]; clear r0 r1; omega⟩, by simp only; omega, ?_⟩
          refine StLe.tmN (Nat.le_refl _) (sub2 (by simp [upd, n1']) (by simp [upd, n2'])) ?_
          simp only [AllSub, go_sem, reduceIte, Nat.reduceEqDiff, Nat.reduceAdd, bx]; and_intros <;> first | exact trivial | exact VSub.refl _ | exact VSub.any _ | exact VSub.of_eq (by simp [sps, encSp]) | (refine VSub.int ?_; omega)
        | false =>
          cases hb : apartB s.x y with
          | false =>
            have hs : stepS s y = ⟨joinB s.x y, s.laid, s.out⟩ := by simp [stepS, ha, hb]
            repeat (first
              | ((first | apply Wp.seqItems | apply Wp.items | ((first
                  | (refine WpItems.pcall ?_ ?_ (apart_p y s.x) ?_; (· simp only [go_sem, reduceIte, Nat.reduceEqDiff, Nat.reduceAdd, bx]); (· simp only [go_sem, reduceIte, Nat.reduceEqDiff, Nat.reduceAdd, bx, List.map]; first | exact VSubs.refl _ | (repeat (first | exact VSubs.nil | refine VSubs.cons (by first | exact VSub.refl _ | assumption | exact VSub.cap | exact VSub.any _) ?_))))
                  | (refine WpItems.pcall ?_ ?_ (apart_p s.x y) ?_; (· simp only [go_sem, reduceIte, Nat.reduceEqDiff, Nat.reduceAdd, bx]); (· simp only [go_sem, reduceIte, Nat.reduceEqDiff, Nat.reduceAdd, bx, List.map]; first | exact VSubs.refl _ | (repeat (first | exact VSubs.nil | refine VSubs.cons (by first | exact VSub.refl _ | assumption | exact VSub.cap | exact VSub.any _) ?_))))
                  | (refine WpItems.pcall ?_ ?_ (joined_p s.x y) ?_; (· simp only [go_sem, reduceIte, Nat.reduceEqDiff, Nat.reduceAdd, bx]); (· simp only [go_sem, reduceIte, Nat.reduceEqDiff, Nat.reduceAdd, bx, List.map]; first | exact VSubs.refl _ | (repeat (first | exact VSubs.nil | refine VSubs.cons (by first | exact VSub.refl _ | assumption | exact VSub.cap | exact VSub.any _) ?_))))); apply WpItems.eval)); (· simp only [go_sem, reduceIte, Nat.reduceEqDiff, Nat.reduceAdd, bx, ax, if_true, if_false, Nat.reduceMul, Nat.reduceLeDiff, g1, q1, q2, e1, n1, n1', n2, n2', sps_length, Int.toNat_natCast, sps_getD _ _ _ hj, hy, encSp, ha, hb]; exact rfl))
              | (refine WpItems.nil ⟨?_, ?_⟩; (· first | trivial | simp [pairsQ, pairsOk, apart, ent0]))
              | (apply Wp.cond_lit; (· simp only [go_sem, reduceIte, Nat.reduceEqDiff, Nat.reduceAdd, bx, ax, if_true, if_false, Nat.reduceMul, Nat.reduceLeDiff, g1, q1, q2, e1, n1, n1', n2, n2', sps_length, Int.toNat_natCast, sps_getD _ _ _ hj, hy, encSp, ha, hb]; exact rfl); (· rfl))
              | refine Wp.skip ?_
              | refine Wp.label ?_
              | refine Wp.block ?_
              | refine Wp.exit ?_
              | refine Wp.seq ?_)
            refine ⟨(j + 1, ⟨joinB s.x y, s.laid, s.out⟩, tk, n + 1, m), ⟨hj, by simp only; omega, by simp only; rw [hst, hs], by simp only; clear r0 r1; omega⟩, by simp only; omega, ?_⟩
            refine StLe.tmN (Nat.le_refl _) (sub2 (by simp [upd, n1']) (by simp [upd, n2'])) ?_
            simp only [AllSub, go_sem, reduceIte, Nat.reduceEqDiff, Nat.reduceAdd, bx]; and_intros <;> first | exact trivial | exact VSub.refl _ | exact VSub.any _ | (refine VSub.int ?_; omega)
          | true =>
            cases hl : s.laid with
            | true =>
              have hs : stepS s y = ⟨s.x, true, s.out ++ [y]⟩ := by simp [stepS, ha, hb, hl]
              repeat (first
                | ((first | apply Wp.seqItems | apply Wp.items | ((first
                    | (refine WpItems.pcall ?_ ?_ (apart_p y s.x) ?_; (· simp only [go_sem, reduceIte, Nat.reduceEqDiff, Nat.reduceAdd, bx]); (· simp only [go_sem, reduceIte, Nat.reduceEqDiff, Nat.reduceAdd, bx, List.map]; first | exact VSubs.refl _ | (repeat (first | exact VSubs.nil | refine VSubs.cons (by first | exact VSub.refl _ | assumption | exact VSub.cap | exact VSub.any _) ?_))))
                    | (refine WpItems.pcall ?_ ?_ (apart_p s.x y) ?_; (· simp only [go_sem, reduceIte, Nat.reduceEqDiff, Nat.reduceAdd, bx]); (· simp only [go_sem, reduceIte, Nat.reduceEqDiff, Nat.reduceAdd, bx, List.map]; first | exact VSubs.refl _ | (repeat (first | exact VSubs.nil | refine VSubs.cons (by first | exact VSub.refl _ | assumption | exact VSub.cap | exact VSub.any _) ?_))))); apply WpItems.eval)); (· simp only [go_sem, reduceIte, Nat.reduceEqDiff, Nat.reduceAdd, bx, ax, if_true, if_false, Nat.reduceMul, Nat.reduceLeDiff, g1, q1, q2, e1, n1, n1', n2, n2', sps_length, Int.toNat_natCast, sps_getD _ _ _ hj, hy, encSp, ha, hb, hl, r0, r0']; exact rfl))
                | (refine WpItems.nil ⟨?_, ?_⟩; (· first | trivial | simp [pairsQ, pairsOk, apart, ent0]))
                | (apply Wp.cond_lit; (· simp only [go_sem, reduceIte, Nat.reduceEqDiff, Nat.reduceAdd, bx, ax, if_true, if_false, Nat.reduceMul, Nat.reduceLeDiff, g1, q1, q2, e1, n1, n1', n2, n2', sps_length, Int.toNat_natCast, sps_getD _ _ _ hj, hy, encSp, ha, hb, hl, r0, r0']; exact rfl); (· rfl))
                | refine Wp.skip ?_
                | refine Wp.label ?_
                | refine Wp.block ?_
                | refine Wp.exit ?_
                | refine Wp.seq ?_)
              refine ⟨(j + 1, ⟨s.x, true, s.out ++ [y]⟩, m, n + 1, m + 1), ⟨hj, by simp only; omega, by simp only; rw [hst, hs], by simp only [List.length_append, List.length_singleton]; clear r0 r1; omega⟩, by simp only; omega, ?_⟩
              refine StLe.tmN (Nat.le_refl _) (sub2 (by simp [upd, n1']) (by simp [upd, n2'])) ?_
              simp only [AllSub, go_sem, reduceIte, Nat.reduceEqDiff, Nat.reduceAdd, bx]; and_intros <;> first | exact trivial | exact VSub.refl _ | exact VSub.any _ | exact VSub.of_eq (by simp [sps, encSp]) | (refine VSub.int ?_; omega)
            | false =>
              have hs : stepS s y = ⟨s.x, true, s.out ++ [s.x] ++ [y]⟩ := by simp [stepS, ha, hb, hl]
              repeat (first
                | ((first | apply Wp.seqItems | apply Wp.items | ((first
                    | (refine WpItems.pcall ?_ ?_ (apart_p y s.x) ?_; (· simp only [go_sem, reduceIte, Nat.reduceEqDiff, Nat.reduceAdd, bx]); (· simp only [go_sem, reduceIte, Nat.reduceEqDiff, Nat.reduceAdd, bx, List.map]; first | exact VSubs.refl _ | (repeat (first | exact VSubs.nil | refine VSubs.cons (by first | exact VSub.refl _ | assumption | exact VSub.cap | exact VSub.any _) ?_))))
                    | (refine WpItems.pcall ?_ ?_ (apart_p s.x y) ?_; (· simp only [go_sem, reduceIte, Nat.reduceEqDiff, Nat.reduceAdd, bx]); (· simp only [go_sem, reduceIte, Nat.reduceEqDiff, Nat.reduceAdd, bx, List.map]; first | exact VSubs.refl _ | (repeat (first | exact VSubs.nil | refine VSubs.cons (by first | exact VSub.refl _ | assumption | exact VSub.cap | exact VSub.any _) ?_))))); apply WpItems.eval)); (· simp only [go_sem, reduceIte, Nat.reduceEqDiff, Nat.reduceAdd, bx, ax, if_true, if_false, Nat.reduceMul, Nat.reduceLeDiff, g1, q1, q2, e1, n1, n1', n2, n2', sps_length, Int.toNat_natCast, sps_getD _ _ _ hj, hy, encSp, ha, hb, hl, r0, r0', r1, r1']; exact rfl))
                | (refine WpItems.nil ⟨?_, ?_⟩; (· first | trivial | simp [pairsQ, pairsOk, apart, ent0]))
                | (apply Wp.cond_lit; (· simp only [go_sem, reduceIte, Nat.reduceEqDiff, Nat.reduceAdd, bx, ax, if_true, if_false, Nat.reduceMul, Nat.reduceLeDiff, g1, q1, q2, e1, n1, n1', n2, n2', sps_length, Int.toNat_natCast, sps_getD _ _ _ hj, hy, encSp, ha, hb, hl, r0, r0', r1, r1']; exact rfl); (· rfl))
                | refine Wp.skip ?_
                | refine Wp.label ?_
                | refine Wp.block ?_
                | refine Wp.exit ?_
                | refine Wp.seq ?_)
              refine ⟨(j + 1, ⟨s.x, true, s.out ++ [s.x] ++ [y]⟩, m + 1, n + 1, m + 1 + 1), ⟨hj, by simp only; omega, by simp only; rw [hst, hs], by simp only [List.length_append, List.length_singleton]; clear r0 r1; omega⟩, by simp only; omega, ?_⟩
              refine StLe.tmN (Nat.le_refl _) (sub2 (by simp [upd, n1']) (by simp [upd, n2'])) ?_
              simp only [AllSub, go_sem, reduceIte, Nat.reduceEqDiff, Nat.reduceAdd, bx]; and_intros <;> first | exact trivial | exact VSub.refl _ | exact VSub.any _ | exact VSub.of_eq (by simp [sps, encSp]) | (refine VSub.int ?_; omega)
      · obtain rfl : j = l.length := by omega
        have g1 : decide ((l.length : Int) < (l.length : Int)) = false := decide_eq_false (by omega)
        have hgo : spanGo l x = s := by rw [h3, List.take_length]; rfl
        obtain ⟨⟨r0, r0'⟩, -⟩ := rooms32 (a := s.out.length) (by omega)
        have hk9 : k.length ≤ 1000000 := by clear r0; omega
        have hl9 : (spanL l x).length ≤ 1000 := by
          unfold spanL
          rw [hgo]
          split
          · clear r0; omega
          · simp only [List.length_append, List.length_singleton]; clear r0; omega
        have hk8 : k.length ≤ 1152921504606846976 := Nat.le_trans hk9 (by decide)
        have hl8 : (spanL l x).length ≤ 4611686018427387904 := Nat.le_trans hl9 (by decide)
        unfold hS
        cases hl : s.laid with
        | true =>
          have hsp : spanL l x = s.out := by simp [spanL, hgo, hl]
          repeat (first
            | ((first | apply Wp.seqItems | apply Wp.items); (· simp only [go_sem, reduceIte, Nat.reduceEqDiff, Nat.reduceAdd, bx, ax, if_true, if_false, Nat.reduceMul, Nat.reduceLeDiff, g1, hl]; exact rfl))
            | (refine WpItems.nil ⟨?_, ?_⟩; (· first | trivial | simp [pairsQ, pairsOk, apart, ent0]))
            | (apply Wp.cond_lit; (· simp only [go_sem, reduceIte, Nat.reduceEqDiff, Nat.reduceAdd, bx, ax, if_true, if_false, Nat.reduceMul, Nat.reduceLeDiff, g1, hl]; exact rfl); (· rfl))
            | refine Wp.skip ?_
            | refine Wp.label ?_
            | refine Wp.block ?_
            | refine Wp.exit ?_
            | refine Wp.seq ?_)
          by_cases hk0 : k = []
          · subst hk0
            refine WpItems.pcall (by simp only [go_sem]) (by simp only [go_sem, reduceIte, Nat.reduceEqDiff, List.map]; exact VSubs.refl _) (cloneE_gen (sz := 1) (bytes := 16) f61) ?_
            refine WpItems.eval (by simp only [go_sem, reduceIte, Nat.reduceEqDiff, Nat.reduceAdd, bx]; exact rfl) ?_
            rw [hsp] at hl8 ⊢
            refine WpItems.pcall (by simp only [go_sem, reduceIte, Nat.reduceEqDiff, Nat.reduceAdd, bx]) (by simp only [go_sem, reduceIte, Nat.reduceEqDiff, Nat.reduceAdd, bx, List.map]; exact VSubs.cons (VSub.refl _) (VSubs.cons VSub.cap VSubs.nil)) (made0_p s.out hl8) ?_
            refine WpItems.eval (by simp only [go_sem, reduceIte, Nat.reduceEqDiff, Nat.reduceAdd, bx, encO, encR, n1', n1]; exact rfl) ?_
            refine WpItems.nil ⟨by trivial, ?_⟩
            refine Wp.ret ⟨trivial, _, rfl, ?_⟩
            simp only [go_sem, reduceIte, Nat.reduceEqDiff, Nat.reduceAdd, bx, unT, unTs, n1', n1]
            exact VSub.refl _
          · refine WpItems.acall (by simp only [go_sem]) (by simp only [go_sem, reduceIte, Nat.reduceEqDiff, List.map]; exact VSubs.refl _) (cloneK_p k hk0 hk9 _ _) (touch_new _ _) ?_
            refine WpItems.eval (by simp only [go_sem, reduceIte, Nat.reduceEqDiff, Nat.reduceAdd, bx]; exact rfl) ?_
            rw [hsp] at hl8 ⊢
            refine WpItems.dcall n (by simp only [go_sem]) (by simp only [go_sem, reduceIte, Nat.reduceEqDiff, List.map]; exact VSubs.cons (VSub.refl _) (VSubs.cons VSub.cap VSubs.nil)) (made_p k hk8 s.out hl8) (by simp [upd]) (by simp) ?_
            refine WpItems.eval (by simp only [go_sem, reduceIte, Nat.reduceEqDiff, Nat.reduceAdd, bx, encO, encR, n1', n1]; exact rfl) ?_
            refine WpItems.nil ⟨by trivial, ?_⟩
            refine Wp.ret ⟨trivial, _, rfl, ?_⟩
            simp only [go_sem, reduceIte, Nat.reduceEqDiff, Nat.reduceAdd, bx, unT, unTs, n1', n1]
            exact VSub.refl _
        | false =>
          have hsp : spanL l x = s.out ++ [s.x] := by simp [spanL, hgo, hl]
          have hcap : VSub (.sl 2 (sps s.out ++ [.agg [.str s.x.f, .str s.x.t]]) (.own m)) (.sl 2 (sps (s.out ++ [s.x])) .any) := (VSub.of_eq (y := .sl 2 (sps (s.out ++ [s.x])) (.own m)) (by simp [sps, encSp])).trans VSub.cap
          repeat (first
            | ((first | apply Wp.seqItems | apply Wp.items); (· simp only [go_sem, reduceIte, Nat.reduceEqDiff, Nat.reduceAdd, bx, ax, if_true, if_false, Nat.reduceMul, Nat.reduceLeDiff, g1, hl, sps_length, encSp, r0, r0']; exact rfl))
            | (refine WpItems.nil ⟨?_, ?_⟩; (· first | trivial | simp [pairsQ, pairsOk, apart, ent0]))
            | (apply Wp.cond_lit; (· simp only [go_sem, reduceIte, Nat.reduceEqDiff, Nat.reduceAdd, bx, ax, if_true, if_false, Nat.reduceMul, Nat.reduceLeDiff, g1, hl, sps_length, encSp, r0, r0']; exact rfl); (· rfl))
            | refine Wp.skip ?_
            | refine Wp.label ?_
            | refine Wp.block ?_
            | refine Wp.exit ?_
            | refine Wp.seq ?_)
          by_cases hk0 : k = []
          · subst hk0
            refine WpItems.pcall (by simp only [go_sem]) (by simp only [go_sem, reduceIte, Nat.reduceEqDiff, List.map]; exact VSubs.refl _) (cloneE_gen (sz := 1) (bytes := 16) f61) ?_
            refine WpItems.eval (by simp only [go_sem, reduceIte, Nat.reduceEqDiff, Nat.reduceAdd, bx]; exact rfl) ?_
            rw [hsp] at hl8 ⊢
            refine WpItems.pcall (by simp only [go_sem, reduceIte, Nat.reduceEqDiff, Nat.reduceAdd, bx]) (by simp only [go_sem, reduceIte, Nat.reduceEqDiff, Nat.reduceAdd, bx, List.map]; exact VSubs.cons (VSub.refl _) (VSubs.cons hcap VSubs.nil)) (made0_p (s.out ++ [s.x]) hl8) ?_
            refine WpItems.eval (by simp only [go_sem, reduceIte, Nat.reduceEqDiff, Nat.reduceAdd, bx, encO, encR, n1', n1]; exact rfl) ?_
            refine WpItems.nil ⟨by trivial, ?_⟩
            refine Wp.ret ⟨trivial, _, rfl, ?_⟩
            simp only [go_sem, reduceIte, Nat.reduceEqDiff, Nat.reduceAdd, bx, unT, unTs, n1', n1]
            exact VSub.refl _
          · refine WpItems.acall (by simp only [go_sem]) (by simp only [go_sem, reduceIte, Nat.reduceEqDiff, List.map]; exact VSubs.refl _) (cloneK_p k hk0 hk9 _ _) (touch_new _ _) ?_
            refine WpItems.eval (by simp only [go_sem, reduceIte, Nat.reduceEqDiff, Nat.reduceAdd, bx]; exact rfl) ?_
            rw [hsp] at hl8 ⊢
            refine WpItems.dcall n (by simp only [go_sem]) (by simp only [go_sem, reduceIte, Nat.reduceEqDiff, List.map]; exact VSubs.cons (VSub.refl _) (VSubs.cons hcap VSubs.nil)) (made_p k hk8 (s.out ++ [s.x]) hl8) (by simp [upd]) (by simp) ?_
            refine WpItems.eval (by simp only [go_sem, reduceIte, Nat.reduceEqDiff, Nat.reduceAdd, bx, encO, encR, n1', n1]; exact rfl) ?_
            refine WpItems.nil ⟨by trivial, ?_⟩
            refine Wp.ret ⟨trivial, _, rfl, ?_⟩
            simp only [go_sem, reduceIte, Nat.reduceEqDiff, Nat.reduceAdd, bx, unT, unTs, n1', n1]
            exact VSub.refl _
end Go.Proofs.Ytpehfflehebmbaa.Reads
end
section
set_option linter.unusedSimpArgs false
set_option linter.unusedVariables false
set_option maxRecDepth 10000
namespace Go.Proofs.Ytpehfflehebmbaa.Reads
open Go Go.Av Go.Proofs Go.Proofs.Ytpehfflehebmbaa.C Go.Proofs.Ytpehfflehebmbaa.Batch
def NF (l : List Sp) : Prop := (∀ s ∈ l, hasB s = true) ∧ l.Pairwise fun a b => apartB a b = true
theorem apart_iff {a b : Sp} : apartB a b = true ↔ a.t ≠ [] ∧ Op.bytesLess a.t b.f = true := by simp [apartB]
theorem has_iff {a : Sp} : hasB a = true ↔ a.t = [] ∨ Op.bytesLess a.f a.t = true := by simp [hasB]
theorem apart_trans {a b c : Sp} (h1 : apartB a b = true) (h2 : hasB b = true) (h3 : apartB b c = true) : apartB a c = true := by
  rw [apart_iff] at *
  rw [has_iff] at h2
  refine ⟨h1.1, ?_⟩
  rcases h2 with h2 | h2
  · exact absurd h2 h3.1
  · exact less_trans (less_trans h1.2 h2) h3.2
theorem nf_of {l : List Sp} (h : spsOk l = true) : NF l := by
  have h1 : ∀ i, i < l.length → hasB (l.getD i default) = true ∧ (i = 0 ∨ apartB (l.getD (i - 1) default) (l.getD i default) = true) := by
    intro i hi
    have := List.all_eq_true.1 h i (List.mem_range.2 hi)
    simpa [spOk] using this
  refine ⟨fun s hs => ?_, ?_⟩
  · obtain ⟨i, hi, rfl⟩ := List.mem_iff_getElem.1 hs
    have := (h1 i hi).1
    rwa [getD_el hi] at this
  · rw [List.pairwise_iff_getElem]
    intro i j hi hj hij
    induction j with
    | zero => omega
    | succ j ih =>
      have h2 := (h1 (j + 1) hj).2
      rw [Nat.add_sub_cancel] at h2
      have h3 : apartB (l[j]'(by omega)) l[j + 1] = true := by
        rcases h2 with h2 | h2
        · omega
        · rwa [getD_el hj, getD_el (by omega)] at h2
      by_cases e : i = j
      · subst e; exact h3
      · have h4 := (h1 j (by omega)).1
        rw [getD_el (by omega)] at h4
        exact apart_trans (ih (by omega) (by omega)) h4 h3
theorem join_has {x y : Sp} (hx : hasB x = true) (hy : hasB y = true) : hasB (joinB x y) = true := by
  rw [has_iff] at *
  obtain ⟨xf, xt⟩ := x
  obtain ⟨yf, yt⟩ := y
  simp only [joinB] at *
  by_cases c1 : xt = [] <;> by_cases c2 : yt = []
  all_goals
    grind [less_trans, less_irrefl, less_total]
theorem nf_tail {x : Sp} {l : List Sp} (h : NF (x :: l)) : NF l := ⟨fun s hs => h.1 s (List.mem_cons_of_mem _ hs), (List.pairwise_cons.1 h.2).2⟩
end Go.Proofs.Ytpehfflehebmbaa.Reads
end
section
set_option linter.unusedSimpArgs false
set_option linter.unusedVariables false
set_option maxRecDepth 10000
namespace Go.Proofs.Ytpehfflehebmbaa.Batch
open Go Go.Av Go.Proofs Go.Proofs.Ytpehfflehebmbaa.C
abbrev Bs := List UInt8
structure Pr where
  k : Bs
  v : Bs
  deriving DecidableEq
structure Ch where
  k : Bs
  v : Bs
  d : Bool
  deriving DecidableEq
instance : Inhabited Pr := ⟨⟨[], []⟩⟩
instance : Inhabited Ch := ⟨⟨[], [], false⟩⟩
def encCh (c : Ch) : AV := .agg [.str c.k, .str c.v, .bool c.d]
def chs (l : List Ch) : List AV := l.map encCh
theorem chs_length (l : List Ch) : (chs l).length = l.length := by simp [chs]
theorem chs_getD (l : List Ch) (k : Nat) (d : AV) (h : k < l.length) : (chs l).getD k d = encCh (l.getD k default) := by
  simp [chs, List.getD, List.getElem?_map, List.getElem?_eq_getElem h]
theorem allPure_map {α : Type} {f : α → AV} (h : ∀ x, isPure (f x) = true) : ∀ l : List α, allPure (l.map f) = true
  | [] => rfl
  | x :: l => by simp only [List.map_cons, allPure, h x, Bool.true_and]; exact allPure_map h l
theorem chs_pure (l : List Ch) : allPure (chs l) = true := allPure_map (fun x => by simp [encCh, isPure, allPure]) l
end Go.Proofs.Ytpehfflehebmbaa.Batch
end
section
set_option linter.unusedVariables false
set_option linter.unusedSimpArgs false
namespace Go.Av
abbrev Objs := Nat → Option Obj
structure Fr where
  o : Objs
  k : List Nat
def lay : List Fr → Objs
  | [] => none'
  | F :: l => fun j => (F.o j).or (lay l j)
def ks (l : List Fr) : List Nat := l.flatMap (·.k)
def ob (i : Nat) (o : Obj) : Fr := ⟨upd none' i (some o), []⟩
def fr0 : Fr := ⟨none', []⟩
structure Ok (l : List Fr) (n : Nat) (T : List Nat) (m : Nat) : Prop where
  bd : ∀ F ∈ l, ∀ j, n ≤ j → F.o j = none
  dj : l.Pairwise fun F F' => ∀ j, F.o j = none ∨ F'.o j = none
  tk : ∀ t ∈ ks l, t ∈ T
  td : l.Pairwise fun F F' => ∀ t ∈ F.k, t ∉ F'.k
  tb : ∀ t ∈ T, t < m
theorem lay_cons (F : Fr) (l : List Fr) (j : Nat) : lay (F :: l) j = (F.o j).or (lay l j) := rfl
theorem ob_o (i : Nat) (o : Obj) (j : Nat) : (ob i o).o j = if j = i then some o else none := rfl
theorem lay_append (l m : List Fr) (j : Nat) : lay (l ++ m) j = (lay l j).or (lay m j) := by
  induction l with
  | nil => simp [lay, none']
  | cons F l ih => simp [lay, ih, Option.or_assoc]
theorem lay_none {l : List Fr} {j : Nat} : lay l j = none ↔ ∀ F ∈ l, F.o j = none := by
  induction l with
  | nil => simp [lay, none']
  | cons F l ih => simp [lay, Option.or_eq_none_iff, ih]
theorem Ok.lay_bd {l : List Fr} {n m : Nat} {T : List Nat} (h : Ok l n T m) {j : Nat} (hj : n ≤ j) : lay l j = none := lay_none.2 fun F hF => h.bd F hF j hj
theorem Ok.nil {n m : Nat} : Ok [] n [] m := ⟨by simp, by simp, by simp [ks], by simp, by simp⟩
theorem Ok.grow {l : List Fr} {n m n' m' : Nat} {T : List Nat} (h : Ok l n T m) (hn : n ≤ n') (hm : m ≤ m') : Ok l n' T m' :=
  ⟨fun F hF j hj => h.bd F hF j (by omega), h.dj, h.tk, h.td, fun t ht => Nat.lt_of_lt_of_le (h.tb t ht) hm⟩
theorem Ok.put {F : Fr} {l : List Fr} {n m i : Nat} {T : List Nat} {o : Obj} (h : Ok (F :: l) n T m) (hi : lay l i = none) (hn : i < n) : Ok (⟨upd F.o i (some o), F.k⟩ :: l) n T m where
  bd F' hF j hj := by
    rcases List.mem_cons.1 hF with rfl | hF
    · simp only [upd]
      rw [if_neg (by omega)]
      exact h.bd F (by simp) j hj
    · exact h.bd F' (by simp [hF]) j hj
  dj := by
    refine List.pairwise_cons.2 ⟨fun F' hF j => ?_, (List.pairwise_cons.1 h.dj).2⟩
    simp only [upd]
    by_cases e : j = i
    · subst e; exact .inr (lay_none.1 hi F' hF)
    · rw [if_neg e]; exact (List.pairwise_cons.1 h.dj).1 F' hF j
  tk t ht := h.tk t (by simpa [ks] using ht)
  td := List.pairwise_cons.2 ⟨(List.pairwise_cons.1 h.td).1, (List.pairwise_cons.1 h.td).2⟩
  tb := h.tb
theorem Ok.start {l : List Fr} {n m : Nat} {T : List Nat} (h : Ok l n T m) : Ok (fr0 :: l) n T m :=
  ⟨fun F hF j hj => by rcases List.mem_cons.1 hF with rfl | hF; exact rfl; exact h.bd F hF j hj, List.pairwise_cons.2 ⟨fun F' _ j => .inl rfl, h.dj⟩, fun t ht => h.tk t (by simpa [ks, fr0] using ht), List.pairwise_cons.2 ⟨fun F' _ t ht => by simp [fr0] at ht, h.td⟩, h.tb⟩
theorem Ok.old {F : Fr} {l : List Fr} {n m : Nat} {T : List Nat} (h : Ok (F :: l) n T m) {i : Nat} (hi : (F.o i).isSome = true) : lay l i = none :=
  lay_none.2 fun F' hF => by
    rcases (List.pairwise_cons.1 h.dj).1 F' hF i with e | e
    · rw [e] at hi; cases hi
    · exact e
section
variable {P : Program} {N : Nat}
def GCalls (P : Program) (f : FuncId) (args : List AV) (l : List Fr) (Q : AV → List Fr → Prop) : Prop :=
  ∀ n m, Ok l n (ks l) m → ∃ r l' n' m', ACalls P f args ⟨lay l, n, ks l, m⟩ r ⟨lay l', n', ks l', m'⟩ ∧ n ≤ n' ∧ m ≤ m' ∧ Ok l' n' (ks l') m' ∧ (∀ j, n ≤ j ∨ (lay l j).isSome = true ∨ lay l' j = none) ∧ (∀ t ∈ ks l', t ∈ ks l ∨ m ≤ t) ∧ Q r l'
theorem GCalls.mono {f : FuncId} {args : List AV} {l : List Fr} {Q Q' : AV → List Fr → Prop} (h : GCalls P f args l Q) (hq : ∀ r l', Q r l' → Q' r l') : GCalls P f args l Q' := by
  intro n m ok
  obtain ⟨r, l', n', m', h1, h2, h3, h4, h5, h6, h7⟩ := h n m ok
  exact ⟨r, l', n', m', h1, h2, h3, h4, h5, h6, hq _ _ h7⟩
theorem PCalls.g {f : FuncId} {args : List AV} {r : AV} (h : PCalls P f args r) : GCalls P f args [] (fun r' l' => r' = r ∧ l' = []) := fun n m _ =>
  ⟨r, [], n, m, h n m, Nat.le_refl _, Nat.le_refl _, Ok.nil, fun j => .inr (.inr rfl), by simp [ks], rfl, rfl⟩
theorem Wp.nm {c : AC} {s : St} {Q : AExit → St → Prop} (h : Wp P N c s Q) : Wp P N c s fun e s' => Q e s' ∧ s.h.n ≤ s'.h.n ∧ s.h.m ≤ s'.h.m := by
  intro code hc
  obtain ⟨e, s', r, q⟩ := h code hc
  exact ⟨e, s', r, q, r.1⟩
theorem ACalls.le {f : FuncId} {args : List AV} {h h' h'' : H} {r r' : AV} (hc : ACalls P f args h r h') (hs : VSub r r') (hl : HLe h' h'') (n : h'.n = h''.n) (m : h'.m = h''.m) : ACalls P f args h r' h'' := by
  intro G w vs hv R F
  refine (hc G w vs hv R (by unfold Fresh at F ⊢; rwa [n, m])).mono ?_
  rintro e w' ⟨v, G', rfl, T, R', V⟩
  exact ⟨v, G', rfl, T.trans R R' (Trans.le hl (by omega) (by omega)), R'.le hl, hs G' w' v V⟩
structure Ends (l : List Fr) (n m : Nat) (Q : AV → List Fr → Prop) (q : AV) (h : H) (r : AV) (l' : List Fr) : Prop where
  sub : VSub q r
  ole : OLe h.objs (lay l')
  tk : ∀ t ∈ ks l', t ∈ h.toks
  ok : Ok l' h.n (Go.Av.ks l') h.m
  new : ∀ j, n ≤ j ∨ (lay l j).isSome = true ∨ lay l' j = none
  knew : ∀ t ∈ Go.Av.ks l', t ∈ Go.Av.ks l ∨ m ≤ t
  q : Q r l'
def fin (h : H) (ids toks : List Nat) : Ent := ⟨[], ids, toks⟩
def Wi (l0 : List Fr) (n0 : Nat) (l : List Fr) : Prop := ∀ j, n0 ≤ j ∨ (lay l0 j).isSome = true ∨ lay l j = none
def Ki (l0 : List Fr) (m0 : Nat) (l : List Fr) : Prop := ∀ t ∈ ks l, t ∈ ks l0 ∨ m0 ≤ t
theorem Wi.refl {l : List Fr} {n : Nat} : Wi l n l := fun j => by
  cases h : lay l j with
  | none => exact .inr (.inr rfl)
  | some o => exact .inr (.inl rfl)
theorem Ki.refl {l : List Fr} {m : Nat} : Ki l m l := fun t h => .inl h
theorem Wi.trans {l0 l l' : List Fr} {n0 n : Nat} (a : Wi l0 n0 l) (hn : n0 ≤ n) (b : Wi l n l') : Wi l0 n0 l' := fun j => by
  rcases b j with h | h | h
  · exact .inl (by omega)
  · rcases a j with h' | h' | h'
    · exact .inl h'
    · exact .inr (.inl h')
    · rw [h'] at h; cases h
  · exact .inr (.inr h)
theorem Ki.trans {l0 l l' : List Fr} {m0 m : Nat} (a : Ki l0 m0 l) (hm : m0 ≤ m) (b : Ki l m l') : Ki l0 m0 l' := fun t ht => by
  rcases b t ht with h | h
  · exact a t h
  · exact .inr (by omega)
end
end Go.Av
end
section
set_option linter.unusedVariables false
set_option linter.unusedSimpArgs false
namespace Go.Av
section
variable {P : Program} {N : Nat} {s : St} {Q : AExit → St → Prop}
def LoopWp (F : Fence) (n : Nat) (P : Program) (c : Code) (Q : Exit → Act → World → Prop) (a : Act) (w : World) : Prop :=
  ∀ (b : Frame) (k : List Item) (cs : List Frame), b.roundOf = F.round → F.fn b.fn → F.room (cs.length + 1 + n) →
    ∃ e a' w', Q e a' w' ∧ ArrivesIn (Machine.fenced P F) P (lone (b.atR a (.code c :: .inLoop c :: k)) cs w) b k cs e a' w'
theorem LoopWp.start {F : Fence} {n : Nat} {c : Code} {Q : Exit → Act → World → Prop} {a : Act} {w : World} (h : LoopWp F n P c Q a w) : (Code.loop c).wpIn F n P Q a w := by
  intro b k cs hro hb hr
  obtain ⟨e, a₁, w₁, hq, harr⟩ := h b k cs hro hb hr
  exact ⟨e, a₁, w₁, hq, .of_steps (.one (fenced_calm hb hr rfl) stepR_loop) harr⟩
theorem LoopWp.step {F : Fence} {n : Nat} {c : Code} {Q : Exit → Act → World → Prop} {a : Act} {w : World} (h : c.wpIn F n P (Exit.then (LoopWp F n P c Q) Q) a w) : LoopWp F n P c Q a w := by
  intro b k cs hro hb hr
  obtain ⟨e, a₁, w₁, hq, harr⟩ := h b (.inLoop c :: k) cs hro hb hr
  cases e with
  | normal =>
    obtain ⟨e₂, a₂, w₂, hq₂, harr₂⟩ := hq b k cs hro hb hr
    exact ⟨e₂, a₂, w₂, hq₂, .of_steps (StepsIn.trans harr (.one (fenced_calm hb hr rfl) stepR_inLoop)) harr₂⟩
  | exit id => exact ⟨_, a₁, w₁, hq, .pass (x := .inLoop c) rfl (fun _ _ => .inl (by simp)) harr⟩
  | goto l => exact ⟨_, a₁, w₁, hq, .pass (x := .inLoop c) rfl (fun _ _ => .inl (by simp)) harr⟩
  | ret => exact ⟨_, a₁, w₁, hq, .pass (x := .inLoop c) rfl (fun _ _ => .inl (by simp)) harr⟩
  | panic ch => exact ⟨_, a₁, w₁, hq, .pass (x := .inLoop c) rfl (fun _ _ => .inl (by simp)) harr⟩
  | outgrown => exact ⟨_, a₁, w₁, hq, .pass (x := .inLoop c) rfl (fun _ _ => .inl (by simp)) harr⟩
def RunL (P : Program) (N : Nat) (c : Code) (s : St) (e : AExit) (s' : St) : Prop :=
  (s.h.n ≤ s'.h.n ∧ s.h.m ≤ s'.h.m) ∧ ∀ ro, okR c ro → ∀ G w a, Rel N s G w a → Fresh G s.h s'.h → LoopWp (rd ro) 0 P c (fun e' a' w' => e.says e' ∧ NewM w a.defers a'.defers ∧ ∃ G', Trans G w s.h G' w' s'.h ∧ Rel N s' G' w' a') a w
def WpL (P : Program) (N : Nat) (c : AC) (s : St) (Q : AExit → St → Prop) : Prop :=
  ∀ code, cCode P N code = some c → ∃ e s', RunL P N code s e s' ∧ Q e s'
theorem WpL.next {c : AC} (h : Wp P N c s (AExit.andThen (fun s' => WpL P N c s' Q) Q)) : WpL P N c s Q := by
  intro x hx
  obtain ⟨e, s1, r1, q1⟩ := h x hx
  cases e with
  | normal =>
    obtain ⟨e2, s2, r2, q2⟩ := q1 x hx
    obtain ⟨⟨l1, l2⟩, r1⟩ := r1
    obtain ⟨⟨l3, l4⟩, r2⟩ := r2
    refine ⟨e2, s2, ⟨⟨by omega, by omega⟩, fun ro okc G w ac r F => .step (wpIn_mono (r1 ro okc G w ac r (F.sub (Nat.le_refl _) l3 (Nat.le_refl _) l4)) ?_)⟩, q2⟩
    rintro e' a' w' ⟨h1, h2, G', T1, r'⟩
    cases e' <;> simp only [AExit.says] at h1
    intro b k cs hro hb hr
    obtain ⟨e'', a'', w'', ⟨k1, k2, G'', T2, r''⟩, harr⟩ := r2 ro okc G' w' a' r' (F.step T1) b k cs hro hb hr
    exact ⟨e'', a'', w'', ⟨k1, h2.trans T1.size_le k2, G'', T1.trans r.h r'.h T2, r''⟩, harr⟩
  | exit id =>
    refine ⟨.exit id, s1, ⟨r1.1, fun ro okc G w ac r F => .step (wpIn_mono (r1.2 ro okc G w ac r F) ?_)⟩, q1⟩
    rintro e' a' w' ⟨h1, h2⟩
    cases e' <;> simp only [AExit.says] at h1
    exact ⟨h1, h2⟩
  | goto l =>
    refine ⟨.goto l, s1, ⟨r1.1, fun ro okc G w ac r F => .step (wpIn_mono (r1.2 ro okc G w ac r F) ?_)⟩, q1⟩
    rintro e' a' w' ⟨h1, h2⟩
    cases e' <;> simp only [AExit.says] at h1
    exact ⟨h1, h2⟩
  | ret =>
    refine ⟨.ret, s1, ⟨r1.1, fun ro okc G w ac r F => .step (wpIn_mono (r1.2 ro okc G w ac r F) ?_)⟩, q1⟩
    rintro e' a' w' ⟨h1, h2⟩
    cases e' <;> simp only [AExit.says] at h1
    exact ⟨trivial, h2⟩
  | panic v =>
    refine ⟨.panic v, s1, ⟨r1.1, fun ro okc G w ac r F => .step (wpIn_mono (r1.2 ro okc G w ac r F) ?_)⟩, q1⟩
    rintro e' a' w' ⟨h1, h2⟩
    cases e' <;> simp only [AExit.says] at h1
    exact ⟨h1, h2⟩
def evalR : List AItem → Tm → H → List Ent → Option (List AItem × Tm × H × List Ent)
  | [], t, h, l => some ([], t, h, l)
  | it :: its, t, h, l => match guardOf t it.guard with
    | some true => (match aop (ev t) h it.op with
      | some (x, h', en) => evalR its (putT t it.dst x) h' (en :: l)
      | none => some (it :: its, t, h, l))
    | some false => evalR its (putT t it.dst (.sc undef)) h (ent0 :: l)
    | none => some (it :: its, t, h, l)
theorem evalR_ok : ∀ {items : List AItem} {t : Tm} {h : H} {l : List Ent} {r : List AItem × Tm × H × List Ent}, evalR items t h l = some r → evalOps items t h l = r
  | [], t, h, l, r, he => by simpa [evalR, evalOps] using he
  | it :: its, t, h, l, r, he => by
    simp only [evalR] at he
    simp only [evalOps]
    cases hg : guardOf t it.guard with
    | none => rw [hg] at he; simpa using he
    | some g =>
      rw [hg] at he
      cases g with
      | false => exact evalR_ok he
      | true =>
        simp only at he ⊢
        cases hx : aop (ev t) h it.op with
        | none => rw [hx] at he; simpa using he
        | some p =>
          obtain ⟨x, h', en⟩ := p
          rw [hx] at he
          exact evalR_ok he
theorem WpItems.evR {items its : List AItem} {t t' : Tm} {h h' : H} {log log' : List Ent} {K : Tm → H → List Ent → Prop} (he : evalR items t h log = some (its, t', h', log')) (hw : WpItems P N its t' h' log' K) : WpItems P N items t h log K := WpItems.eval (evalR_ok he) hw
theorem Wp.seqItemsR {items its : List AItem} {p : Option (List (Nat × Nat))} {y : AC} {t' : Tm} {h' : H} {log : List Ent} (he : evalR items s.t s.h [] = some (its, t', h', log)) (h : WpItems P N its t' h' log fun t h l => pairsQ p l ∧ Wp P N y ⟨t, h⟩ Q) : Wp P N (.seq (.reg items p) y) s Q := Wp.seqItems (evalR_ok he) h
theorem Wp.itemsR {items its : List AItem} {p : Option (List (Nat × Nat))} {t' : Tm} {h' : H} {log : List Ent} (he : evalR items s.t s.h [] = some (its, t', h', log)) (h : WpItems P N its t' h' log fun t h l => pairsQ p l ∧ Q .normal ⟨t, h⟩) : Wp P N (.reg items p) s Q := Wp.items (evalR_ok he) h
def evalU : List AItem → Tm → H → List Ent → List AItem × Tm × H × List Ent
  | [], t, h, l => ([], t, h, l)
  | it :: its, t, h, l => match it.guard with
    | some _ => (it :: its, t, h, l)
    | none => (match aop (ev t) h it.op with
      | some (x, h', en) => evalU its (putT t it.dst x) h' (en :: l)
      | none => (it :: its, t, h, l))
end
attribute [go_sem] evalU evalR
def VSubL : List AV → List AV → Prop
  | [], [] => True
  | x :: xs, y :: ys => VSub x y ∧ VSubL xs ys
  | _, _ => False
theorem VSubL.refl : ∀ l, VSubL l l
  | [] => trivial
  | x :: l => ⟨VSub.refl x, VSubL.refl l⟩
theorem VSubL.len : ∀ {xs ys : List AV}, VSubL xs ys → xs.length = ys.length
  | [], [], _ => rfl
  | _ :: _, _ :: _, h => by simp [VSubL.len h.2]
  | [], _ :: _, h => h.elim
  | _ :: _, [], h => h.elim
theorem VSubL.els {G : Ghost} {w : World} {sz : Nat} : ∀ {xs ys : List AV} {vs : List Value}, VSubL xs ys → VElems G w sz xs vs → VElems G w sz ys vs
  | [], [], _, _, h => h
  | x :: xs, y :: ys, vs, h, hv => by
    simp only [VElems] at hv ⊢
    obtain ⟨v, us, e, h1, h2, h3⟩ := hv
    exact ⟨v, us, e, h1, h.1 G w v h2, VSubL.els h.2 h3⟩
  | [], _ :: _, _, h, _ => h.elim
  | _ :: _, [], _, h, _ => h.elim
theorem VSub.sl {sz : Nat} {xs ys : List AV} {c : Cap} (h : VSubL xs ys) : VSub (.sl sz xs c) (.sl sz ys .any) := by
  intro G w v hv
  have hl := h.len
  simp only [VRel] at hv ⊢
  rcases hv with ⟨rfl, a, _⟩ | ⟨B, off, C, vs, h1, h2, h3, h4, h5, h6⟩
  · cases ys with
    | nil => exact .inl ⟨rfl, a, by simp [CapNil]⟩
    | cons y ys => simp at hl
  · exact .inr ⟨B, off, C, vs, by rw [← hl]; exact h1, by rw [← hl]; exact h2, by rw [← hl]; exact h3, h.els h4, h5, by simp [CapOk]⟩
theorem VSub.slc {sz : Nat} {xs ys : List AV} {c : Cap} (h : VSubL xs ys) : VSub (.sl sz xs c) (.sl sz ys c) := by
  intro G w v hv
  have hl := h.len
  simp only [VRel] at hv ⊢
  rcases hv with ⟨rfl, a, b⟩ | ⟨B, off, C, vs, h1, h2, h3, h4, h5, h6⟩
  · cases ys with
    | nil => exact .inl ⟨rfl, a, b⟩
    | cons y ys => simp at hl
  · exact .inr ⟨B, off, C, vs, by rw [← hl]; exact h1, by rw [← hl]; exact h2, by rw [← hl]; exact h3, h.els h4, h5, by rw [← hl]; exact h6⟩
theorem getD_el {α : Type} {l : List α} {i : Nat} {d : α} (h : i < l.length) : l.getD i d = l[i] := by
  rw [List.getD_eq_getElem?_getD, List.getElem?_eq_getElem h]; rfl
theorem take_snoc {α : Type} {l : List α} {j : Nat} (d : α) (h : j < l.length) : l.take (j + 1) = l.take j ++ [l.getD j d] := by
  rw [List.take_succ_eq_append_getElem h, getD_el h]
end Go.Av
end
section
set_option linter.unusedSimpArgs false
set_option linter.unusedVariables false
set_option maxRecDepth 100000
namespace Go.Proofs.Ytpehfflehebmbaa.Reads
open Go Go.Av Go.Proofs Go.Proofs.Ytpehfflehebmbaa.C Go.Proofs.Ytpehfflehebmbaa.Batch
def coversB (k : List Bs) (l : List Sp) (key : Bs) : Bool := checkB k l && (there k key || spanned l key)
def fewB (k : List Bs) (l : List Sp) : Bool := decide (k.length ≤ 100) && decide (l.length ≤ 100)
theorem covers_p (k : List Bs) (l : List Sp) (key : Bs) (h : checkB k l = true) : PCalls Try.prog 93 [encR k l, .str key] (.bool (there k key || spanned l key)) := by
  refine f93.pcalls0 (by simp) (by simp [allPure, encR_pure, isPure]) rfl ?_
  unfold c93
  obtain ⟨b1, b2, b3, b4⟩ := check_ok h
  cases ht : there k key with
  | true =>
    have hse := search_p b4 b1 key
    rw [ht] at hse
    repeat (first
      | ((first | apply Wp.seqItems | apply Wp.items | ((first
          | (refine WpItems.pcall ?_ ?_ (hse) ?_; (· simp only [go_sem, reduceIte, Nat.reduceEqDiff, Nat.reduceAdd, bx]); (· simp only [go_sem, reduceIte, Nat.reduceEqDiff, Nat.reduceAdd, bx, List.map]; first | exact VSubs.refl _ | (repeat (first | exact VSubs.nil | refine VSubs.cons (by first | exact VSub.refl _ | assumption | exact VSub.cap | exact VSub.any _) ?_))))); apply WpItems.eval)); (· simp only [go_sem, reduceIte, Nat.reduceEqDiff, Nat.reduceAdd, bx, ax, if_true, if_false, Nat.reduceMul, Nat.reduceLeDiff, encR]; exact rfl))
      | (refine WpItems.nil ⟨?_, ?_⟩; (· first | trivial | simp [pairsQ, pairsOk, apart, ent0]))
      | (apply Wp.cond_lit; (· simp only [go_sem, reduceIte, Nat.reduceEqDiff, Nat.reduceAdd, bx, ax, if_true, if_false, Nat.reduceMul, Nat.reduceLeDiff, encR]; exact rfl); (· rfl))
      | refine Wp.skip ?_
      | refine Wp.label ?_
      | refine Wp.block ?_
      | refine Wp.exit ?_
      | refine Wp.seq ?_)
    refine Wp.ret ⟨trivial, _, rfl, ?_⟩
    simp only [go_sem, reduceIte, Nat.reduceEqDiff, Nat.reduceAdd, bx]
    exact VSub.refl _
  | false =>
    have hse := search_p b4 b1 key
    rw [ht] at hse
    repeat (first
      | ((first | apply Wp.seqItems | apply Wp.items | ((first
          | (refine WpItems.pcall ?_ ?_ (hse) ?_; (· simp only [go_sem, reduceIte, Nat.reduceEqDiff, Nat.reduceAdd, bx]); (· simp only [go_sem, reduceIte, Nat.reduceEqDiff, Nat.reduceAdd, bx, List.map]; first | exact VSubs.refl _ | (repeat (first | exact VSubs.nil | refine VSubs.cons (by first | exact VSub.refl _ | assumption | exact VSub.cap | exact VSub.any _) ?_))))
          | (refine WpItems.pcall ?_ ?_ (spanned_p l (by omega) key) ?_; (· simp only [go_sem, reduceIte, Nat.reduceEqDiff, Nat.reduceAdd, bx]); (· simp only [go_sem, reduceIte, Nat.reduceEqDiff, Nat.reduceAdd, bx, List.map]; first | exact VSubs.refl _ | (repeat (first | exact VSubs.nil | refine VSubs.cons (by first | exact VSub.refl _ | assumption | exact VSub.cap | exact VSub.any _) ?_))))); apply WpItems.eval)); (· simp only [go_sem, reduceIte, Nat.reduceEqDiff, Nat.reduceAdd, bx, ax, if_true, if_false, Nat.reduceMul, Nat.reduceLeDiff, encR]; exact rfl))
      | (refine WpItems.nil ⟨?_, ?_⟩; (· first | trivial | simp [pairsQ, pairsOk, apart, ent0]))
      | (apply Wp.cond_lit; (· simp only [go_sem, reduceIte, Nat.reduceEqDiff, Nat.reduceAdd, bx, ax, if_true, if_false, Nat.reduceMul, Nat.reduceLeDiff, encR]; exact rfl); (· rfl))
      | refine Wp.skip ?_
      | refine Wp.label ?_
      | refine Wp.block ?_
      | refine Wp.exit ?_
      | refine Wp.seq ?_)
    refine Wp.ret ⟨trivial, _, rfl, ?_⟩
    simp only [go_sem, reduceIte, Nat.reduceEqDiff, Nat.reduceAdd, bx]
    exact VSub.refl _
theorem Covers_p (k : List Bs) (l : List Sp) (key : Bs) : PCalls Try.prog 46 [encR k l, .str key] (.bool (coversB k l key)) := by
  refine f46.pcalls0 (by simp) (by simp [allPure, encR_pure, isPure]) rfl ?_
  unfold c46
  have hck := check_p k l
  cases hc : checkB k l with
  | false =>
    rw [hc] at hck
    simp only [Bool.false_eq_true, if_false] at hck
    have d1 : decide ((4 : Int) = 0) = false := rfl
    repeat (first
      | ((first | apply Wp.seqItems | apply Wp.items | ((first
          | (refine WpItems.pcall ?_ ?_ (hck) ?_; (· simp only [go_sem, reduceIte, Nat.reduceEqDiff, Nat.reduceAdd, bx]); (· simp only [go_sem, reduceIte, Nat.reduceEqDiff, Nat.reduceAdd, bx, List.map]; first | exact VSubs.refl _ | (repeat (first | exact VSubs.nil | refine VSubs.cons (by first | exact VSub.refl _ | assumption | exact VSub.cap | exact VSub.any _) ?_))))); apply WpItems.eval)); (· simp only [go_sem, reduceIte, Nat.reduceEqDiff, Nat.reduceAdd, bx, ax, if_true, if_false, Nat.reduceMul, Nat.reduceLeDiff, encR, d1]; exact rfl))
      | (refine WpItems.nil ⟨?_, ?_⟩; (· first | trivial | simp [pairsQ, pairsOk, apart, ent0]))
      | (apply Wp.cond_lit; (· simp only [go_sem, reduceIte, Nat.reduceEqDiff, Nat.reduceAdd, bx, ax, if_true, if_false, Nat.reduceMul, Nat.reduceLeDiff, encR, d1]; exact rfl); (· rfl))
      | refine Wp.skip ?_
      | refine Wp.label ?_
      | refine Wp.block ?_
      | refine Wp.exit ?_
      | refine Wp.seq ?_)
    refine Wp.ret ⟨trivial, _, rfl, ?_⟩
    simp only [go_sem, reduceIte, Nat.reduceEqDiff, Nat.reduceAdd, bx]
    simp only [coversB, hc, Bool.false_and]
    exact VSub.refl _
  | true =>
    rw [hc] at hck
    simp only [if_true] at hck
    have d1 : decide ((0 : Int) = 0) = true := rfl
    repeat (first
      | ((first | apply Wp.seqItems | apply Wp.items | ((first
          | (refine WpItems.pcall ?_ ?_ (hck) ?_; (· simp only [go_sem, reduceIte, Nat.reduceEqDiff, Nat.reduceAdd, bx]); (· simp only [go_sem, reduceIte, Nat.reduceEqDiff, Nat.reduceAdd, bx, List.map]; first | exact VSubs.refl _ | (repeat (first | exact VSubs.nil | refine VSubs.cons (by first | exact VSub.refl _ | assumption | exact VSub.cap | exact VSub.any _) ?_))))
          | (refine WpItems.pcall ?_ ?_ (covers_p k l key hc) ?_; (· simp only [go_sem, reduceIte, Nat.reduceEqDiff, Nat.reduceAdd, bx]); (· simp only [go_sem, reduceIte, Nat.reduceEqDiff, Nat.reduceAdd, bx, List.map]; first | exact VSubs.refl _ | (repeat (first | exact VSubs.nil | refine VSubs.cons (by first | exact VSub.refl _ | assumption | exact VSub.cap | exact VSub.any _) ?_))))); apply WpItems.eval)); (· simp only [go_sem, reduceIte, Nat.reduceEqDiff, Nat.reduceAdd, bx, ax, if_true, if_false, Nat.reduceMul, Nat.reduceLeDiff, encR, d1]; exact rfl))
      | (refine WpItems.nil ⟨?_, ?_⟩; (· first | trivial | simp [pairsQ, pairsOk, apart, ent0]))
      | (apply Wp.cond_lit; (· simp only [go_sem, reduceIte, Nat.reduceEqDiff, Nat.reduceAdd, bx, ax, if_true, if_false, Nat.reduceMul, Nat.reduceLeDiff, encR, d1]; exact rfl); (· rfl))
      | refine Wp.skip ?_
      | refine Wp.label ?_
      | refine Wp.block ?_
      | refine Wp.exit ?_
      | refine Wp.seq ?_)
    refine Wp.ret ⟨trivial, _, rfl, ?_⟩
    simp only [go_sem, reduceIte, Nat.reduceEqDiff, Nat.reduceAdd, bx]
    simp only [coversB, hc, Bool.true_and]
    exact VSub.refl _
theorem few_p (k : List Bs) (l : List Sp) : PCalls Try.prog 36 [encR k l] (.bool (fewB k l)) := by
  refine f36.pcalls0 (by simp) (by simp [allPure, encR_pure, isPure]) rfl ?_
  unfold c36
  by_cases h1 : k.length ≤ 100
  · have d1 : decide ((k.length : Int) ≤ 100) = true := decide_eq_true (by omega)
    by_cases h2 : l.length ≤ 100
    · have d2 : decide ((l.length : Int) ≤ 100) = true := decide_eq_true (by omega)
      repeat (first
        | ((first | apply Wp.seqItems | apply Wp.items); (· simp only [go_sem, reduceIte, Nat.reduceEqDiff, Nat.reduceAdd, bx, ax, if_true, if_false, Nat.reduceMul, Nat.reduceLeDiff, encR, d1, d2, strs_length, sps_length]; exact rfl))
        | (refine WpItems.nil ⟨?_, ?_⟩; (· first | trivial | simp [pairsQ, pairsOk, apart, ent0]))
        | (apply Wp.cond_lit; (· simp only [go_sem, reduceIte, Nat.reduceEqDiff, Nat.reduceAdd, bx, ax, if_true, if_false, Nat.reduceMul, Nat.reduceLeDiff, encR, d1, d2, strs_length, sps_length]; exact rfl); (· rfl))
        | refine Wp.skip ?_
        | refine Wp.label ?_
        | refine Wp.block ?_
        | refine Wp.exit ?_
        | refine Wp.seq ?_)
      refine Wp.ret ⟨trivial, _, rfl, ?_⟩
      simp only [go_sem, reduceIte, Nat.reduceEqDiff, Nat.reduceAdd, bx]
      simp only [fewB, h1, h2, decide_true, Bool.and_self]
      exact VSub.refl _
    · have d2 : decide ((l.length : Int) ≤ 100) = false := decide_eq_false (by omega)
      repeat (first
        | ((first | apply Wp.seqItems | apply Wp.items); (· simp only [go_sem, reduceIte, Nat.reduceEqDiff, Nat.reduceAdd, bx, ax, if_true, if_false, Nat.reduceMul, Nat.reduceLeDiff, encR, d1, d2, strs_length, sps_length]; exact rfl))
        | (refine WpItems.nil ⟨?_, ?_⟩; (· first | trivial | simp [pairsQ, pairsOk, apart, ent0]))
        | (apply Wp.cond_lit; (· simp only [go_sem, reduceIte, Nat.reduceEqDiff, Nat.reduceAdd, bx, ax, if_true, if_false, Nat.reduceMul, Nat.reduceLeDiff, encR, d1, d2, strs_length, sps_length]; exact rfl); (· rfl))
        | refine Wp.skip ?_
        | refine Wp.label ?_
        | refine Wp.block ?_
        | refine Wp.exit ?_
        | refine Wp.seq ?_)
      refine Wp.ret ⟨trivial, _, rfl, ?_⟩
      simp only [go_sem, reduceIte, Nat.reduceEqDiff, Nat.reduceAdd, bx]
      simp only [fewB, decide_eq_false h2, Bool.and_false]
      exact VSub.refl _
  · have d1 : decide ((k.length : Int) ≤ 100) = false := decide_eq_false (by omega)
    repeat (first
      | ((first | apply Wp.seqItems | apply Wp.items); (· simp only [go_sem, reduceIte, Nat.reduceEqDiff, Nat.reduceAdd, bx, ax, if_true, if_false, Nat.reduceMul, Nat.reduceLeDiff, encR, d1, strs_length, sps_length]; exact rfl))
      | (refine WpItems.nil ⟨?_, ?_⟩; (· first | trivial | simp [pairsQ, pairsOk, apart, ent0]))
      | (apply Wp.cond_lit; (· simp only [go_sem, reduceIte, Nat.reduceEqDiff, Nat.reduceAdd, bx, ax, if_true, if_false, Nat.reduceMul, Nat.reduceLeDiff, encR, d1, strs_length, sps_length]; exact rfl); (· rfl))
      | refine Wp.skip ?_
      | refine Wp.label ?_
      | refine Wp.block ?_
      | refine Wp.exit ?_
      | refine Wp.seq ?_)
    refine Wp.ret ⟨trivial, _, rfl, ?_⟩
    simp only [go_sem, reduceIte, Nat.reduceEqDiff, Nat.reduceAdd, bx]
    simp only [fewB, decide_eq_false h1, Bool.false_and]
    exact VSub.refl _
theorem same_p (k : List Bs) (l : List Sp) (hk : k.length ≤ 1000000) (hl : l.length ≤ 1000000) : PCalls Try.prog 45 [encR k l, encR k l] (.bool true) := by
  refine f45.pcalls0 (by simp) (by simp [allPure, encR_pure, isPure]) rfl ?_
  unfold c45
  refine Wp.seqReg (by simp only [go_sem, reduceIte, Nat.reduceEqDiff, Nat.reduceAdd, bx, encR]; exact rfl) (by trivial) ?_
  refine Wp.frz (fun j => true) [(2, .ref [.sl 1 (strs k) .any, .sl 2 (sps l) .any]), (3, .ref [.sl 1 (strs k) .any, .sl 2 (sps l) .any])] ⟨none', 2, [], 0⟩ ?_ (OLe.none _) (by simp) (by simp [go_sem]) (Nat.le_refl _) ?_
  · simp only [AllSub, go_sem, reduceIte, Nat.reduceEqDiff, unT, and_true, beq_self_eq_true, Nat.reduceBEq, Bool.false_eq_true]
    and_intros <;> exact VSub.refl _
  have z1 : decide ((k.length : Int) = (k.length : Int)) = true := decide_eq_true rfl
  have z2 : decide ((l.length : Int) = (l.length : Int)) = true := decide_eq_true rfl
  repeat (first
    | ((first | apply Wp.seqItems | apply Wp.items); (· simp only [go_sem, reduceIte, Nat.reduceEqDiff, Nat.reduceAdd, bx, ax, if_true, if_false, Nat.reduceMul, Nat.reduceLeDiff, strs_length, sps_length, z1, z2]; exact rfl))
    | (refine WpItems.nil ⟨?_, ?_⟩; (· first | trivial | simp [pairsQ, pairsOk, apart, ent0]))
    | (apply Wp.cond_lit; (· simp only [go_sem, reduceIte, Nat.reduceEqDiff, Nat.reduceAdd, bx, ax, if_true, if_false, Nat.reduceMul, Nat.reduceLeDiff, strs_length, sps_length, z1, z2]; exact rfl); (· rfl))
    | refine Wp.skip ?_
    | refine Wp.label ?_
    | refine Wp.block ?_
    | refine Wp.exit ?_
    | refine Wp.seq ?_)
  refine Wp.loopK [2, 3] (by simp only [go_sem, reduceIte, Nat.reduceEqDiff, Nat.reduceAdd, bx, List.map]; exact rfl) (fun j : Nat => [(5, .int .i64 j)]) (fun j => j ≤ k.length) (fun j => k.length - j) 0 (Nat.zero_le _) ?_ ?_
  · simp only [AllSub, go_sem, reduceIte, Nat.reduceEqDiff, Nat.reduceAdd, bx]; and_intros <;> first | exact trivial | exact VSub.refl _ | exact VSub.any _ | (refine VSub.int ?_; omega)
  · intro j hj
    by_cases hc : j < k.length
    · have g1 : decide ((j : Int) < (k.length : Int)) = true := decide_eq_true (by omega)
      have q1 : (0 : Int) ≤ (j : Int) := by omega
      have q2 : (j : Int) < (k.length : Int) := by omega
      have e1 : IntKind.i64.wrap ((j : Int) + 1) = ((j + 1 : Nat) : Int) := by rw [IntWalk.i64_in _ (by omega)]; omega
      have z3 : decide (k.getD j [] = k.getD j []) = true := decide_eq_true rfl
      repeat (first
        | ((first | apply Wp.seqItems | apply Wp.items); (· simp only [go_sem, reduceIte, Nat.reduceEqDiff, Nat.reduceAdd, bx, ax, if_true, if_false, Nat.reduceMul, Nat.reduceLeDiff, g1, q1, q2, e1, z3, strs_length, Int.toNat_natCast, strs_getD _ _ _ hc]; exact rfl))
        | (refine WpItems.nil ⟨?_, ?_⟩; (· first | trivial | simp [pairsQ, pairsOk, apart, ent0]))
        | (apply Wp.cond_lit; (· simp only [go_sem, reduceIte, Nat.reduceEqDiff, Nat.reduceAdd, bx, ax, if_true, if_false, Nat.reduceMul, Nat.reduceLeDiff, g1, q1, q2, e1, z3, strs_length, Int.toNat_natCast, strs_getD _ _ _ hc]; exact rfl); (· rfl))
        | refine Wp.skip ?_
        | refine Wp.label ?_
        | refine Wp.block ?_
        | refine Wp.exit ?_
        | refine Wp.seq ?_)
      refine ⟨j + 1, by omega, by omega, ?_⟩
      refine StLe.tm (by simp only [AllSub, go_sem, reduceIte, Nat.reduceEqDiff, Nat.reduceAdd, bx]; and_intros <;> first | exact trivial | exact VSub.refl _ | exact VSub.any _ | (refine VSub.int ?_; omega))
    · obtain rfl : j = k.length := by omega
      have g1 : decide ((k.length : Int) < (k.length : Int)) = false := decide_eq_false (by omega)
      repeat (first
        | ((first | apply Wp.seqItems | apply Wp.items); (· simp only [go_sem, reduceIte, Nat.reduceEqDiff, Nat.reduceAdd, bx, ax, if_true, if_false, Nat.reduceMul, Nat.reduceLeDiff, g1, strs_length]; exact rfl))
        | (refine WpItems.nil ⟨?_, ?_⟩; (· first | trivial | simp [pairsQ, pairsOk, apart, ent0]))
        | (apply Wp.cond_lit; (· simp only [go_sem, reduceIte, Nat.reduceEqDiff, Nat.reduceAdd, bx, ax, if_true, if_false, Nat.reduceMul, Nat.reduceLeDiff, g1, strs_length]; exact rfl); (· rfl))
        | refine Wp.skip ?_
        | refine Wp.label ?_
        | refine Wp.block ?_
        | refine Wp.exit ?_
        | refine Wp.seq ?_)
      refine Wp.loopK [2, 3] (by simp only [go_sem, reduceIte, Nat.reduceEqDiff, Nat.reduceAdd, bx, List.map]; exact rfl) (fun j : Nat => [(6, .int .i64 j)]) (fun j => j ≤ l.length) (fun j => l.length - j) 0 (Nat.zero_le _) ?_ ?_
      · simp only [AllSub, go_sem, reduceIte, Nat.reduceEqDiff, Nat.reduceAdd, bx]; and_intros <;> first | exact trivial | exact VSub.refl _ | exact VSub.any _ | (refine VSub.int ?_; omega)
      · intro j hj
        by_cases hc : j < l.length
        · have g1 : decide ((j : Int) < (l.length : Int)) = true := decide_eq_true (by omega)
          have q1 : (0 : Int) ≤ (j : Int) := by omega
          have q2 : (j : Int) < (l.length : Int) := by omega
          have e1 : IntKind.i64.wrap ((j : Int) + 1) = ((j + 1 : Nat) : Int) := by rw [IntWalk.i64_in _ (by omega)]; omega
          repeat (first
            | ((first | apply Wp.seqItems | apply Wp.items); (· simp only [go_sem, reduceIte, Nat.reduceEqDiff, Nat.reduceAdd, bx, ax, if_true, if_false, Nat.reduceMul, Nat.reduceLeDiff, g1, q1, q2, e1, sps_length, Int.toNat_natCast, sps_getD _ _ _ hc, encSp, beq_self_eq_true, Bool.and_self]; exact rfl))
            | (refine WpItems.nil ⟨?_, ?_⟩; (· first | trivial | simp [pairsQ, pairsOk, apart, ent0]))
            | (apply Wp.cond_lit; (· simp only [go_sem, reduceIte, Nat.reduceEqDiff, Nat.reduceAdd, bx, ax, if_true, if_false, Nat.reduceMul, Nat.reduceLeDiff, g1, q1, q2, e1, sps_length, Int.toNat_natCast, sps_getD _ _ _ hc, encSp, beq_self_eq_true, Bool.and_self]; exact rfl); (· rfl))
            | refine Wp.skip ?_
            | refine Wp.label ?_
            | refine Wp.block ?_
            | refine Wp.exit ?_
            | refine Wp.seq ?_)
          refine ⟨j + 1, by omega, by omega, ?_⟩
          refine StLe.tm (by simp only [AllSub, go_sem, reduceIte, Nat.reduceEqDiff, Nat.reduceAdd, bx]; and_intros <;> first | exact trivial | exact VSub.refl _ | exact VSub.any _ | (refine VSub.int ?_; omega))
        · obtain rfl : j = l.length := by omega
          have g1 : decide ((l.length : Int) < (l.length : Int)) = false := decide_eq_false (by omega)
          repeat (first
            | ((first | apply Wp.seqItems | apply Wp.items); (· simp only [go_sem, reduceIte, Nat.reduceEqDiff, Nat.reduceAdd, bx, ax, if_true, if_false, Nat.reduceMul, Nat.reduceLeDiff, g1, sps_length]; exact rfl))
            | (refine WpItems.nil ⟨?_, ?_⟩; (· first | trivial | simp [pairsQ, pairsOk, apart, ent0]))
            | (apply Wp.cond_lit; (· simp only [go_sem, reduceIte, Nat.reduceEqDiff, Nat.reduceAdd, bx, ax, if_true, if_false, Nat.reduceMul, Nat.reduceLeDiff, g1, sps_length]; exact rfl); (· rfl))
            | refine Wp.skip ?_
            | refine Wp.label ?_
            | refine Wp.block ?_
            | refine Wp.exit ?_
            | refine Wp.seq ?_)
          refine Wp.ret ⟨trivial, _, rfl, ?_⟩
          simp only [go_sem, reduceIte, Nat.reduceEqDiff, Nat.reduceAdd, bx]
          exact VSub.refl _
theorem hit1_p (k : List Bs) (l : List Sp) (h : checkB k l = true) (c : Ch) : PCalls Try.prog 96 [encCh c, .ref [.sl 1 (strs k) .any, .sl 2 (sps l) .any]] (.bool (there k c.k || spanned l c.k)) := by
  refine f96.pcalls0 (by simp) (by simp [allPure, isPure, capPure, strs_pure, sps_pure, encCh]) rfl ?_
  unfold c96
  have hc := covers_p k l c.k h
  unfold encR at hc
  repeat (first
    | ((first | apply Wp.seqItemsR | apply Wp.itemsR | ((first
        | (refine WpItems.pcall ?_ ?_ (hc) ?_; (· simp only [go_sem, reduceIte, Nat.reduceEqDiff, Nat.reduceAdd, bx]); (· simp only [go_sem, reduceIte, Nat.reduceEqDiff, Nat.reduceAdd, bx, List.map]; first | exact VSubs.refl _ | (repeat (first | exact VSubs.nil | refine VSubs.cons (by first | exact VSub.refl _ | assumption | exact VSub.cap | exact VSub.any _) ?_))))); apply WpItems.evR)); (· simp only [go_sem, reduceIte, Nat.reduceEqDiff, Nat.reduceAdd, bx, ax, if_true, if_false, Nat.reduceMul, Nat.reduceLeDiff, encCh]; exact rfl))
    | (refine WpItems.nil ⟨?_, ?_⟩; (· first | trivial | simp [pairsQ, pairsOk, apart, ent0]))
    | (apply Wp.cond_lit; (· simp only [go_sem, reduceIte, Nat.reduceEqDiff, Nat.reduceAdd, bx, ax, if_true, if_false, Nat.reduceMul, Nat.reduceLeDiff, encCh]; exact rfl); (· rfl))
    | refine Wp.skip ?_
    | refine Wp.label ?_
    | refine Wp.block ?_
    | refine Wp.exit ?_
    | refine Wp.seq ?_)
  refine Wp.ret ⟨trivial, _, rfl, ?_⟩
  simp only [go_sem, reduceIte, Nat.reduceEqDiff, Nat.reduceAdd, bx]
  exact VSub.refl _
theorem indexCh_p (l : List Ch) (hl : l.length ≤ 4611686018427387904) (p : Ch → Bool) {g : FuncId} {fn : Func} (hf : Try.prog.funcs[g]? = some fn) (hb : fn.body.isSome = true) (hn : fn.name ≠ "runtime.NumGoroutine") (caps : List AV) (hc : allPure caps = true)
    (hp : ∀ c ∈ l, PCalls Try.prog g (encCh c :: caps) (.bool (p c))) :
    PCalls Try.prog 134 [.sl 3 (chs l) .any, .clo (.func g) [] caps] (.int .i64 (ix p l)) := by
  refine f134.pcalls0 (by simp) (by simp [allPure, isPure, capPure, chs_pure, hc]) rfl ?_
  unfold c134
  refine Wp.seqReg (by simp only [go_sem, reduceIte, Nat.reduceEqDiff, Nat.reduceAdd, bx]; exact rfl) (by trivial) ?_
  refine Wp.seq ?_
  refine Wp.seqReg (by simp only [go_sem, reduceIte, Nat.reduceEqDiff, Nat.reduceAdd, bx, chs_length]; exact rfl) (by trivial) ?_
  refine Wp.block ?_
  refine Wp.loopK [0, 1, 7] (by simp only [go_sem, reduceIte, Nat.reduceEqDiff, Nat.reduceAdd, bx, List.map]; exact rfl) (fun j : Nat => [(8, .int .i64 j)]) (fun j => j ≤ l.length ∧ ∀ i (hi : i < l.length), i < j → p l[i] = false) (fun j => l.length - j) 0 ⟨Nat.zero_le _, fun i hi h => absurd h (by omega)⟩ ?_ ?_
  · simp only [AllSub, go_sem, reduceIte, Nat.reduceEqDiff, Nat.reduceAdd, bx]; and_intros <;> first | exact trivial | exact VSub.refl _ | exact VSub.any _ | (refine VSub.int ?_; omega)
  · rintro j ⟨hj, hs⟩
    refine Wp.seqReg (by simp only [go_sem, reduceIte, Nat.reduceEqDiff, Nat.reduceAdd, bx]; exact rfl) (by trivial) ?_
    refine Wp.seq ?_
    refine Wp.cond_split (b := decide ((j : Int) < (l.length : Int))) (by simp only [go_sem, reduceIte, Nat.reduceEqDiff, Nat.reduceAdd, bx]) (fun hc => ?_) (fun hc => ?_)
    · have h1 : (0 : Int) ≤ (j : Int) := by omega
      have h2 : (j : Int) < (l.length : Int) := by simpa using hc
      have h3 : j < l.length := by omega
      have hq := hp _ (List.getElem_mem h3)
      rw [← getD_el (d := default) h3] at hq
      refine Wp.skip ?_
      refine Wp.seq ?_
      refine Wp.block ?_
      refine Wp.seqReg (by simp only [go_sem, reduceIte, Nat.reduceEqDiff, Nat.reduceAdd, bx]; exact rfl) (by trivial) ?_
      refine Wp.seqItems (by simp only [go_sem, reduceIte, Nat.reduceEqDiff, Nat.reduceAdd, bx, chs_length, h1, h2, and_self, if_true, Int.toNat_natCast, chs_getD _ _ _ h3, encCh]; exact rfl) ?_
      refine WpItems.pcallv (by simp only [go_sem]) (by simp only [go_sem, reduceIte, Nat.reduceEqDiff]; exact rfl) hf hb hn (by simp only [go_sem, reduceIte, Nat.reduceEqDiff, List.map]; exact VSubs.refl _) hq ?_
      refine WpItems.eval (by simp only [go_sem, reduceIte, Nat.reduceEqDiff, Nat.reduceAdd, bx]; exact rfl) ?_
      refine WpItems.nil ⟨by trivial, ?_⟩
      rw [getD_el h3]
      refine Wp.cond_split (b := p l[j]) (by simp only [go_sem, reduceIte, Nat.reduceEqDiff, Nat.reduceAdd, bx]) (fun hd => ?_) (fun hd => ?_)
      · refine Wp.seqReg (by simp only [go_sem, reduceIte, Nat.reduceEqDiff, Nat.reduceAdd, bx]; exact rfl) (by trivial) ?_
        refine Wp.ret ⟨trivial, _, rfl, ?_⟩
        simp only [go_sem, reduceIte, Nat.reduceEqDiff, Nat.reduceAdd, bx]
        rw [ix_found h3 hd hs]
        exact VSub.refl _
      · refine Wp.skip ?_
        refine Wp.reg1 (by simp only [go_sem, reduceIte, Nat.reduceEqDiff, Nat.reduceAdd, bx]; simp (disch := omega) only [IntWalk.i64_in]; exact rfl) (by trivial) ?_
        refine ⟨j + 1, ⟨by omega, fun i hi h => ?_⟩, by omega, ?_⟩
        · by_cases he : i = j
          · subst he; exact hd
          · exact hs i hi (by omega)
        · refine StLe.tm (by simp only [AllSub, go_sem, reduceIte, Nat.reduceEqDiff, Nat.reduceAdd, bx]; and_intros <;> first | exact trivial | exact VSub.refl _ | exact VSub.any _ | (refine VSub.int ?_; omega))
    · have : ¬ (j : Int) < (l.length : Int) := by simpa using hc
      refine Wp.exit ?_
      refine Wp.seqReg (by simp only [go_sem, reduceIte, Nat.reduceEqDiff, Nat.reduceAdd, bx]; exact rfl) (by trivial) ?_
      refine Wp.ret ⟨trivial, _, rfl, ?_⟩
      simp only [go_sem, reduceIte, Nat.reduceEqDiff, Nat.reduceAdd, bx]
      rw [ix_none fun i hi => hs i hi (by omega)]
      exact VSub.refl _
theorem containsCh_p (l : List Ch) (hl : l.length ≤ 4611686018427387904) (p : Ch → Bool) {g : FuncId} {fn : Func} (hf : Try.prog.funcs[g]? = some fn) (hb : fn.body.isSome = true) (hn : fn.name ≠ "runtime.NumGoroutine") (caps : List AV) (hc : allPure caps = true)
    (hp : ∀ c ∈ l, PCalls Try.prog g (encCh c :: caps) (.bool (p c))) :
    PCalls Try.prog 95 [.sl 3 (chs l) .any, .clo (.func g) [] caps] (.bool (l.any p)) := by
  refine f95.pcalls0 (by simp) (by simp [allPure, isPure, capPure, chs_pure, hc]) rfl ?_
  unfold c95
  repeat (first
    | ((first | apply Wp.seqItems | apply Wp.items | ((first
        | (refine WpItems.pcall ?_ ?_ (indexCh_p l hl p hf hb hn caps hc hp) ?_; (· simp only [go_sem, reduceIte, Nat.reduceEqDiff, Nat.reduceAdd, bx]); (· simp only [go_sem, reduceIte, Nat.reduceEqDiff, Nat.reduceAdd, bx, List.map]; first | exact VSubs.refl _ | (repeat (first | exact VSubs.nil | refine VSubs.cons (by first | exact VSub.refl _ | assumption | exact VSub.cap | exact VSub.any _) ?_))))); apply WpItems.eval)); (· simp only [go_sem, reduceIte, Nat.reduceEqDiff, Nat.reduceAdd, bx, ax, if_true, if_false, Nat.reduceMul, Nat.reduceLeDiff, ix_nonneg]; exact rfl))
    | (refine WpItems.nil ⟨?_, ?_⟩; (· first | trivial | simp [pairsQ, pairsOk, apart, ent0]))
    | (apply Wp.cond_lit; (· simp only [go_sem, reduceIte, Nat.reduceEqDiff, Nat.reduceAdd, bx, ax, if_true, if_false, Nat.reduceMul, Nat.reduceLeDiff, ix_nonneg]; exact rfl); (· rfl))
    | refine Wp.skip ?_
    | refine Wp.label ?_
    | refine Wp.block ?_
    | refine Wp.exit ?_
    | refine Wp.seq ?_)
  refine Wp.ret ⟨trivial, _, rfl, ?_⟩
  simp only [go_sem, reduceIte, Nat.reduceEqDiff, Nat.reduceAdd, bx]
  exact VSub.refl _
def hitB (k : List Bs) (l : List Sp) (cs : List Ch) : Bool := checkB k l && cs.any fun c => there k c.k || spanned l c.k
theorem Hit_p (k : List Bs) (l : List Sp) (cs : List Ch) (hc : cs.length ≤ 4611686018427387904) : PCalls Try.prog 48 [encR k l, .sl 3 (chs cs) .any] (.bool (hitB k l cs)) := by
  refine f48.pcalls0 (by simp) (by simp [allPure, isPure, capPure, encR_pure, chs_pure]) rfl ?_
  unfold c48
  refine Wp.seqReg (by simp only [go_sem, reduceIte, Nat.reduceEqDiff, Nat.reduceAdd, bx, encR]; exact rfl) (by trivial) ?_
  refine Wp.frz (fun j => true) [(1, .sl 3 (chs cs) .any), (2, .ref [.sl 1 (strs k) .any, .sl 2 (sps l) .any])] ⟨none', 1, [], 0⟩ ?_ (OLe.none _) (by simp) (by simp [go_sem]) (Nat.le_refl _) ?_
  · simp only [AllSub, go_sem, reduceIte, Nat.reduceEqDiff, unT, and_true, beq_self_eq_true, Nat.reduceBEq, Bool.false_eq_true]
    and_intros <;> exact VSub.refl _
  have hck := check_p k l
  unfold encR at hck
  cases h : checkB k l with
  | false =>
    rw [h] at hck
    simp only [Bool.false_eq_true, if_false] at hck
    have d1 : decide ((4 : Int) = 0) = false := rfl
    repeat (first
      | ((first | apply Wp.seqItemsR | apply Wp.itemsR | ((first
          | (refine WpItems.pcall ?_ ?_ (hck) ?_; (· simp only [go_sem, reduceIte, Nat.reduceEqDiff, Nat.reduceAdd, bx]); (· simp only [go_sem, reduceIte, Nat.reduceEqDiff, Nat.reduceAdd, bx, List.map]; first | exact VSubs.refl _ | (repeat (first | exact VSubs.nil | refine VSubs.cons (by first | exact VSub.refl _ | assumption | exact VSub.cap | exact VSub.any _) ?_))))); apply WpItems.evR)); (· simp only [go_sem, reduceIte, Nat.reduceEqDiff, Nat.reduceAdd, bx, ax, if_true, if_false, Nat.reduceMul, Nat.reduceLeDiff, d1]; exact rfl))
      | (refine WpItems.nil ⟨?_, ?_⟩; (· first | trivial | simp [pairsQ, pairsOk, apart, ent0]))
      | (apply Wp.cond_lit; (· simp only [go_sem, reduceIte, Nat.reduceEqDiff, Nat.reduceAdd, bx, ax, if_true, if_false, Nat.reduceMul, Nat.reduceLeDiff, d1]; exact rfl); (· rfl))
      | refine Wp.skip ?_
      | refine Wp.label ?_
      | refine Wp.block ?_
      | refine Wp.exit ?_
      | refine Wp.seq ?_)
    refine Wp.ret ⟨trivial, _, rfl, ?_⟩
    simp only [go_sem, reduceIte, Nat.reduceEqDiff, Nat.reduceAdd, bx]
    rw [hitB, h]; exact VSub.refl _
  | true =>
    rw [h] at hck
    simp only [if_true] at hck
    have d1 : decide ((0 : Int) = 0) = true := rfl
    have hcn := containsCh_p cs hc (fun c => there k c.k || spanned l c.k) Try.func96 rfl (of_decide_eq_true (by kernel_rfl)) [.ref [.sl 1 (strs k) .any, .sl 2 (sps l) .any]] (by simp [allPure, isPure, capPure, strs_pure, sps_pure]) (fun c _ => hit1_p k l h c)
    repeat (first
      | ((first | apply Wp.seqItemsR | apply Wp.itemsR | ((first
          | (refine WpItems.pcall ?_ ?_ (hck) ?_; (· simp only [go_sem, reduceIte, Nat.reduceEqDiff, Nat.reduceAdd, bx]); (· simp only [go_sem, reduceIte, Nat.reduceEqDiff, Nat.reduceAdd, bx, List.map]; first | exact VSubs.refl _ | (repeat (first | exact VSubs.nil | refine VSubs.cons (by first | exact VSub.refl _ | assumption | exact VSub.cap | exact VSub.any _) ?_))))
          | (refine WpItems.pcall ?_ ?_ (hcn) ?_; (· simp only [go_sem, reduceIte, Nat.reduceEqDiff, Nat.reduceAdd, bx]); (· simp only [go_sem, reduceIte, Nat.reduceEqDiff, Nat.reduceAdd, bx, List.map]; first | exact VSubs.refl _ | (repeat (first | exact VSubs.nil | refine VSubs.cons (by first | exact VSub.refl _ | assumption | exact VSub.cap | exact VSub.any _) ?_))))); apply WpItems.evR)); (· simp only [go_sem, reduceIte, Nat.reduceEqDiff, Nat.reduceAdd, bx, ax, if_true, if_false, Nat.reduceMul, Nat.reduceLeDiff, d1]; exact rfl))
      | (refine WpItems.nil ⟨?_, ?_⟩; (· first | trivial | simp [pairsQ, pairsOk, apart, ent0]))
      | (apply Wp.cond_lit; (· simp only [go_sem, reduceIte, Nat.reduceEqDiff, Nat.reduceAdd, bx, ax, if_true, if_false, Nat.reduceMul, Nat.reduceLeDiff, d1]; exact rfl); (· rfl))
      | refine Wp.skip ?_
      | refine Wp.label ?_
      | refine Wp.block ?_
      | refine Wp.exit ?_
      | refine Wp.seq ?_)
    refine Wp.ret ⟨trivial, _, rfl, ?_⟩
    simp only [go_sem, reduceIte, Nat.reduceEqDiff, Nat.reduceAdd, bx]
    rw [hitB, h]; exact VSub.refl _
theorem nilR : VSub (.agg [.sl 1 [] (.exact 0), .sl 2 [] (.exact 0)]) (encR [] []) := VSub.agg (VSubs.cons VSub.cap (VSubs.cons VSub.cap VSubs.nil))
theorem lives_p : PCalls Try.prog 37 [] (.bool true) := by
  refine f37.pcalls0 (by simp) rfl rfl ?_
  unfold c37
  have k1 := key_p [] [] [99]
  rw [show keyB [] [] [99] = ([[99]], [], 0) by kernel_rfl] at k1
  have s1 := span_p [[99]] [] ⟨[97], [98]⟩
  rw [show spanB [[99]] [] ⟨[97], [98]⟩ = ([[99]], [⟨[97], [98]⟩], 0) by kernel_rfl] at s1
  have s2 := span_p [[99]] [⟨[97], [98]⟩] ⟨[98], [100]⟩
  rw [show spanB [[99]] [⟨[97], [98]⟩] ⟨[98], [100]⟩ = ([], [⟨[97], [100]⟩], 0) by kernel_rfl] at s2
  have s3 := span_p [] [⟨[97], [100]⟩] ⟨[122], []⟩
  rw [show spanB [] [⟨[97], [100]⟩] ⟨[122], []⟩ = ([], [⟨[97], [100]⟩, ⟨[122], []⟩], 0) by kernel_rfl] at s3
  have c1 : PCalls Try.prog 46 [encR [] [⟨[97], [100]⟩, ⟨[122], []⟩], .str [100]] (.bool false) := by
    have := Covers_p [] [⟨[97], [100]⟩, ⟨[122], []⟩] [100]
    rwa [show coversB [] [⟨[97], [100]⟩, ⟨[122], []⟩] [100] = false by kernel_rfl] at this
  have h1 : PCalls Try.prog 48 [encR [] [⟨[97], [100]⟩, ⟨[122], []⟩], .sl 3 [.agg [.str [122, 122], .str [], .bool true]] .any] (.bool true) := by
    have := Hit_p [] [⟨[97], [100]⟩, ⟨[122], []⟩] [⟨[122, 122], [], true⟩] (by simp)
    rwa [show hitB [] [⟨[97], [100]⟩, ⟨[122], []⟩] [⟨[122, 122], [], true⟩] = true by kernel_rfl] at this
  have m1 := same_p [[99]] [⟨[97], [98]⟩] (by simp) (by simp)
  have m2 := same_p [] [⟨[97], [100]⟩] (by simp) (by simp)
  simp only [encO, encR, strs, sps, encSp, List.map_cons, List.map_nil] at k1 s1 s2 s3 c1 h1 m1 m2
  have d0 : decide ((0 : Int) = 0) = true := rfl
  have d2 : decide ((2 : Int) = 2) = true := rfl
  have d2' : decide (((2 : Nat) : Int) = 2) = true := rfl
  have d2'' : decide (((1 + 1 : Nat) : Int) = 2) = true := rfl
  repeat (first
    | ((first | apply Wp.seqItems | apply Wp.items | ((first
        | (refine WpItems.pcall ?_ ?_ (k1) ?_; (· simp only [go_sem, reduceIte, Nat.reduceEqDiff, Nat.reduceAdd, bx]); (· simp only [go_sem, reduceIte, Nat.reduceEqDiff, Nat.reduceAdd, bx, List.map]; exact VSubs.cons nilR (VSubs.refl _)))
        | (refine WpItems.pcall ?_ ?_ (s1) ?_; (· simp only [go_sem, reduceIte, Nat.reduceEqDiff, Nat.reduceAdd, bx]); (· simp only [go_sem, reduceIte, Nat.reduceEqDiff, Nat.reduceAdd, bx, List.map]; first | exact VSubs.refl _ | (repeat (first | exact VSubs.nil | refine VSubs.cons (by first | exact VSub.refl _ | assumption | exact VSub.cap | exact VSub.any _) ?_))))
        | (refine WpItems.pcall ?_ ?_ (s2) ?_; (· simp only [go_sem, reduceIte, Nat.reduceEqDiff, Nat.reduceAdd, bx]); (· simp only [go_sem, reduceIte, Nat.reduceEqDiff, Nat.reduceAdd, bx, List.map]; first | exact VSubs.refl _ | (repeat (first | exact VSubs.nil | refine VSubs.cons (by first | exact VSub.refl _ | assumption | exact VSub.cap | exact VSub.any _) ?_))))
        | (refine WpItems.pcall ?_ ?_ (s3) ?_; (· simp only [go_sem, reduceIte, Nat.reduceEqDiff, Nat.reduceAdd, bx]); (· simp only [go_sem, reduceIte, Nat.reduceEqDiff, Nat.reduceAdd, bx, List.map]; first | exact VSubs.refl _ | (repeat (first | exact VSubs.nil | refine VSubs.cons (by first | exact VSub.refl _ | assumption | exact VSub.cap | exact VSub.any _) ?_))))
        | (refine WpItems.pcall ?_ ?_ (m1) ?_; (· simp only [go_sem, reduceIte, Nat.reduceEqDiff, Nat.reduceAdd, bx]); (· simp only [go_sem, reduceIte, Nat.reduceEqDiff, Nat.reduceAdd, bx, List.map]; exact VSubs.cons (VSub.refl _) (VSubs.cons (VSub.agg (VSubs.cons VSub.cap (VSubs.cons VSub.cap VSubs.nil))) VSubs.nil)))
        | (refine WpItems.pcall ?_ ?_ (m2) ?_; (· simp only [go_sem, reduceIte, Nat.reduceEqDiff, Nat.reduceAdd, bx]); (· simp only [go_sem, reduceIte, Nat.reduceEqDiff, Nat.reduceAdd, bx, List.map]; exact VSubs.cons (VSub.refl _) (VSubs.cons (VSub.agg (VSubs.cons VSub.cap (VSubs.cons VSub.cap VSubs.nil))) VSubs.nil)))
        | (refine WpItems.pcall ?_ ?_ (c1) ?_; (· simp only [go_sem, reduceIte, Nat.reduceEqDiff, Nat.reduceAdd, bx]); (· simp only [go_sem, reduceIte, Nat.reduceEqDiff, Nat.reduceAdd, bx, List.map]; first | exact VSubs.refl _ | (repeat (first | exact VSubs.nil | refine VSubs.cons (by first | exact VSub.refl _ | assumption | exact VSub.cap | exact VSub.any _) ?_))))
        | (refine WpItems.pcall ?_ ?_ (h1) ?_; (· simp only [go_sem, reduceIte, Nat.reduceEqDiff, Nat.reduceAdd, bx]); (· simp only [go_sem, reduceIte, Nat.reduceEqDiff, Nat.reduceAdd, bx, List.map]; exact VSubs.cons (VSub.refl _) (VSubs.cons VSub.cap VSubs.nil)))); apply WpItems.eval)); (· simp only [go_sem, reduceIte, Nat.reduceEqDiff, Nat.reduceAdd, bx, ax, if_true, if_false, Nat.reduceMul, Nat.reduceLeDiff, d0, d2, d2', d2'']; exact rfl))
    | (refine WpItems.nil ⟨?_, ?_⟩; (· first | trivial | simp [pairsQ, pairsOk, apart, ent0]))
    | (apply Wp.cond_lit; (· simp only [go_sem, reduceIte, Nat.reduceEqDiff, Nat.reduceAdd, bx, ax, if_true, if_false, Nat.reduceMul, Nat.reduceLeDiff, d0, d2, d2', d2'']; exact rfl); (· rfl))
    | refine Wp.skip ?_
    | refine Wp.label ?_
    | refine Wp.block ?_
    | refine Wp.exit ?_
    | refine Wp.seq ?_)
  refine Wp.ret ⟨trivial, _, rfl, ?_⟩
  simp only [go_sem, reduceIte, Nat.reduceEqDiff, Nat.reduceAdd, bx]
  exact VSub.refl _
end Go.Proofs.Ytpehfflehebmbaa.Reads
end
section
set_option linter.unusedSimpArgs false
set_option linter.unusedVariables false
set_option maxRecDepth 10000
namespace Go.Proofs.Ytpehfflehebmbaa.Reads
open Go Go.Av Go.Proofs Go.Proofs.Ytpehfflehebmbaa.C Go.Proofs.Ytpehfflehebmbaa.Batch
def Rise (k : List Bs) : Prop := k.Pairwise fun a b => Op.bytesLess a b = true
theorem ks_of {k : List Bs} {l : List Sp} (h : ksOk k l = true) : Rise k ∧ ∀ x ∈ k, spanned l x = false := by
  refine ⟨?_, fun x hx => ?_⟩
  · unfold Rise
    rw [List.pairwise_iff_getElem]
    intro i j hi hj hij
    have := rising h hij hj
    rwa [getD_el hi, getD_el hj] at this
  · obtain ⟨i, hi, rfl⟩ := List.mem_iff_getElem.1 hx
    have := List.all_eq_true.1 h i (List.mem_range.2 hi)
    simp only [kOk, Bool.and_eq_true, Bool.not_eq_true'] at this
    rw [← getD_el (d := []) hi]; exact this.2
theorem ks_ok {k : List Bs} {l : List Sp} (h : Rise k) (h2 : ∀ x ∈ k, spanned l x = false) : ksOk k l = true := by
  refine all_yes fun i hi => ?_
  simp only [kOk, Bool.and_eq_true, Bool.or_eq_true, decide_eq_true_eq, Bool.not_eq_true']
  refine ⟨?_, by rw [getD_el hi]; exact h2 _ (List.getElem_mem hi)⟩
  by_cases h0 : i = 0
  · exact .inl h0
  · right
    rw [getD_el hi, getD_el (by omega)]
    exact List.pairwise_iff_getElem.1 h _ _ _ _ (by omega)
theorem there_iff {k : List Bs} (h : Rise k) (q : Bs) : there k q = decide (q ∈ k) := by
  have hk := ks_ok (l := []) h (fun _ _ => rfl)
  have hp := place_le k q
  refine Bool.eq_iff_iff.2 ?_
  simp only [there, Bool.and_eq_true, decide_eq_true_eq]
  constructor
  · rintro ⟨h1, h2⟩
    rw [getD_el h1] at h2
    rw [← h2]; exact List.getElem_mem h1
  · intro hm
    obtain ⟨i, hi, e⟩ := List.mem_iff_getElem.1 hm
    have he : k.getD i [] = q := by rw [getD_el hi]; exact e
    have h1 : ¬ i < place k q := by
      intro hlt
      have := place_lt hlt
      rw [he, less_irrefl] at this; cases this
    have h2 : ¬ place k q < i := by
      intro hlt
      have a1 := rising hk hlt hi
      rw [he] at a1
      have a2 := place_ge (key := q) hk (Nat.le_refl _) (Nat.lt_trans hlt hi)
      rw [a1] at a2; cases a2
    have : place k q = i := by omega
    rw [this]
    exact ⟨hi, he⟩
theorem ins_mem {k : List Bs} (h : Rise k) (key q : Bs) : q ∈ insK k key ↔ q ∈ k ∨ q = key := by
  unfold insK
  rw [there_iff h]
  by_cases hm : key ∈ k
  · rw [if_pos (by simpa using hm)]
    constructor
    · exact .inl
    · rintro (h | rfl)
      · exact h
      · exact hm
  · rw [if_neg (by simpa using hm)]
    have e : k = k.take (place k key) ++ k.drop (place k key) := by simp
    constructor
    · intro hq
      rcases List.mem_append.1 hq with hq | hq
      · exact .inl (List.mem_of_mem_take hq)
      · rcases List.mem_cons.1 hq with hq | hq
        · exact .inr hq
        · exact .inl (List.mem_of_mem_drop hq)
    · rintro (hq | rfl)
      · rw [e] at hq
        rcases List.mem_append.1 hq with hq | hq
        · exact List.mem_append.2 (.inl hq)
        · exact List.mem_append.2 (.inr (List.mem_cons_of_mem _ hq))
      · simp
end Go.Proofs.Ytpehfflehebmbaa.Reads
end
section
set_option linter.unusedVariables false
set_option linter.unusedSimpArgs false
namespace Go.Av
open Go.ChangeShapes Go.WideShapes Go.ChangeAt Go.RowKit
section
variable {H : Type} {enc : TypeId × Value → H} {P : Program} {w : World}
def G0 : Ghost := ⟨fun _ => False, fun _ => 0, fun _ => False, fun _ => none, fun _ => False, fun _ => none⟩
def wrapE (P : Program) (e : TypeId) (cs : List AV) : AV := if isAggT P e then .agg cs else cs.headD .any
/- how many values and letters stand in a value -/
mutual
def bulkA : AV → Nat
  | .int _ _ => 1
  | .bool _ => 1
  | .str l => l.length + 1
  | .sl _ xs _ => bulkAs xs + 1
  | .agg cs => bulkAs cs
  | _ => 0
def bulkAs : List AV → Nat
  | [] => 0
  | x :: xs => bulkA x + bulkAs xs
end
theorem bulkAs_append : ∀ l m : List AV, bulkAs (l ++ m) = bulkAs l + bulkAs m
  | [], m => by simp [bulkAs]
  | x :: l, m => by simp [bulkAs, bulkAs_append l m]; omega
theorem bulk_wrap (P : Program) (e : TypeId) (cs : List AV) : bulkA (wrapE P e cs) ≤ bulkAs cs := by
  unfold wrapE
  split
  · simp [bulkA]
  · cases cs with
    | nil => simp [bulkA, bulkAs]
    | cons x cs => simp [bulkAs]
structure Bulk (B : DataW H → Nat) (BL : List (DataW H) → Nat) : Prop where
  str : ∀ l, B (.lit (.string l)) = l.length + 1
  int : ∀ k n, B (.lit (.int k n)) = 1
  bool : ∀ b, B (.lit (.bool b)) = 1
  nil : B .nil = 1
  slice : ∀ a b, B (.slice a b) = BL a + BL b + 1
  agg : ∀ a, B (.agg a) = BL a + 1
  nils : BL [] = 0
  cons : ∀ d l, BL (d :: l) = B d + BL l
theorem Bulk.snoc {B : DataW H → Nat} {BL : List (DataW H) → Nat} (hB : Bulk B BL) : ∀ (l : List (DataW H)) (d : DataW H), BL (l ++ [d]) = BL l + B d
  | [], d => by simp [hB.cons, hB.nils]
  | x :: l, d => by simp [hB.cons, Bulk.snoc hB l d]; omega
theorem Bulk.take {B : DataW H → Nat} {BL : List (DataW H) → Nat} (hB : Bulk B BL) : ∀ (l : List (DataW H)) (m : Nat), BL (l.take m) ≤ BL l
  | [], m => by simp
  | x :: l, 0 => by simp [hB.nils]
  | x :: l, m + 1 => by simp [hB.cons, Bulk.take hB l m]
theorem weights_mem_all {P : Program} {e : TypeId} {n : Nat} : ∀ {l : List (DataW H)} {d : DataW H}, d ∈ l → n ∈ d.weights P e → n ∈ DataW.weightsAll P e l
  | x :: l, d, h, hn => by
    simp only [DataW.weightsAll, List.mem_append]
    rcases List.mem_cons.1 h with rfl | h
    · exact .inl hn
    · exact .inr (weights_mem_all h hn)
inductive All2 {α β : Type} (R : α → β → Prop) : List α → List β → Prop
  | nil : All2 R [] []
  | cons {a b l m} : R a b → All2 R l m → All2 R (a :: l) (b :: m)
def Fits (P : Program) : Nat → TypeId → List AV → Prop
  | 0, _, _ => False
  | k + 1, t, xs => match P.underlying t with
    | some .bool => ∃ b, xs = [.bool b]
    | some (.int q) => ∃ n, xs = [.int q n] ∧ (Lit.int q n).wf = true
    | some .string => ∃ l, xs = [.str l] ∧ l.length ≤ reachBytes
    | some (.slice e) => ∃ ys, xs = [.sl (P.cellsOf e) ys .any] ∧ ys.length * P.bytesOf e ≤ reachBytes ∧ ∀ y ∈ ys, ∃ cs, Fits P k e cs ∧ y = wrapE P e cs
    | some (.struct fs) => ∃ xss, xs = xss.flatten ∧ All2 (fun (f : Field) cs => Fits P k f.type cs) fs.toList xss
    | _ => False
def plainT (P : Program) : Nat → TypeId → Bool
  | 0, _ => false
  | k + 1, t => match P.underlying t with
    | some .bool | some (.int _) | some .string => true
    | some (.slice e) => decide (e < P.types.size) && decide (0 < P.cellsOf e) && (isAggT P e || decide (P.cellsOf e = 1)) && plainT P k e
    | some (.struct fs) => decide (t < P.types.size) && fs.all fun f => plainT P k f.type
    | _ => false
theorem cell_spot {a : Addr} {v : Value} (h : w.cell? a = some v) : a.spot = none := by
  unfold World.cell? at h
  split at h
  · split at h
    · cases h
    · rename_i hs; cases hh : a.spot with
      | none => rfl
      | some x => simp [hh] at hs
  · cases h
theorem one_of_bool (b : Bool) : One (.bool b) := ⟨fun _ => by simp, fun _ => by simp⟩
theorem one_of_int (k : IntKind) (n : Int) : One (.int k n) := ⟨fun _ => by simp, fun _ => by simp⟩
theorem one_of_str (s : ByteArray) : One (.string s) := ⟨fun _ => by simp, fun _ => by simp⟩
theorem one_of_sl (a : Option Addr) (l c : Nat) : One (.slice a l c) := ⟨fun _ => by simp, fun _ => by simp⟩
theorem fields_split {R : Field → List AV → Prop} {G : Ghost} {B : DataW H → Nat} {BL : List (DataW H) → Nat} (hB : Bulk B BL) (full : List Value) (rd : Field → List Value → DataW H → Prop)
    (hrd : ∀ f cs d, rd f cs d → ∃ xs, R f xs ∧ VRels G w xs cs ∧ (∀ v ∈ cs, One v) ∧ bulkAs xs ≤ B d) : ∀ (fs : List Field) (ds : List (DataW H)) (off : Nat), ds.length = fs.length →
    (∀ (j : Nat) f, fs[j]? = some f → f.offset = off + ((fs.take j).map fun f => P.cellsOf f.type).sum) → full.length = off + (fs.map fun f => P.cellsOf f.type).sum →
    (∀ (j : Nat) f d, fs[j]? = some f → ds[j]? = some d → rd f ((full.drop f.offset).take (P.cellsOf f.type)) d) → ∃ xss, All2 R fs xss ∧ VRels G w xss.flatten (full.drop off) ∧ (∀ v ∈ full.drop off, One v) ∧ bulkAs xss.flatten ≤ BL ds
  | [], ds, off, hl, h1, h2, h3 => by
    have e : full.drop off = [] := List.drop_eq_nil_of_le (by simp at h2; omega)
    exact ⟨[], .nil, by rw [e]; exact .nil, by rw [e]; simp, by simp [bulkAs]⟩
  | f :: fs, [], off, hl, h1, h2, h3 => by cases hl
  | f :: fs, d :: ds, off, hl, h1, h2, h3 => by
    have o0 : f.offset = off := by simpa using h1 0 f rfl
    have hf := h3 0 f d rfl rfl
    rw [o0] at hf
    obtain ⟨xs, r1, r2, r3, r4⟩ := hrd f _ d hf
    obtain ⟨xss, q1, q2, q3, q4⟩ := fields_split hB full rd hrd fs ds (off + P.cellsOf f.type) (by simpa using hl) (fun j g hj => by
      have := h1 (j + 1) g (by simpa using hj)
      simp only [List.take_succ_cons, List.map_cons, List.sum_cons] at this; omega) (by simp only [List.map_cons, List.sum_cons] at h2; omega) (fun j g d' hg hd => h3 (j + 1) g d' (by simpa using hg) (by simpa using hd))
    have e : full.drop off = (full.drop off).take (P.cellsOf f.type) ++ full.drop (off + P.cellsOf f.type) := by
      rw [← List.drop_drop, List.take_append_drop]
    refine ⟨xs :: xss, .cons r1 q1, ?_, ?_, ?_⟩
    · rw [e, List.flatten_cons]; exact r2.append q2
    · rw [e]; intro v hv
      rcases List.mem_append.1 hv with hv | hv
      · exact r3 v hv
      · exact q3 v hv
    · rw [List.flatten_cons, bulkAs_append, hB.cons]; omega
theorem wrapE_rel {e : TypeId} {cs : List AV} {vs : List Value} (hs : vs.length = P.cellsOf e) (hr : VRels G0 w cs vs) (ho : ∀ v ∈ vs, One v) (hc : isAggT P e = false → P.cellsOf e = 1) :
    ∃ v : Value, v.cells.toList = vs ∧ VRel G0 w (wrapE P e cs) v := by
  unfold wrapE
  cases ha : isAggT P e with
  | true => exact ⟨.agg vs.toArray, by simp [Value.cells], by simp only [if_true, VRel]; exact ⟨vs, rfl, hr⟩⟩
  | false =>
    rw [hc ha] at hs
    obtain ⟨v, rfl⟩ := List.length_eq_one_iff.1 hs
    have hl := hr.length
    obtain ⟨x, rfl⟩ := List.length_eq_one_iff.1 (show cs.length = 1 by simpa using hl.symm)
    simp only [VRels] at hr
    obtain ⟨v', us, e1, hv, e2⟩ := hr
    cases e1
    refine ⟨v, ?_, by simpa using hv⟩
    have := ho v (by simp)
    cases v <;> first | rfl | exact absurd rfl (this.1 _) | exact absurd rfl (this.2 _)
theorem Fits.slice {k : Nat} {t e : TypeId} {ys : List AV} (ht : P.underlying t = some (.slice e)) (h1 : ys.length * P.bytesOf e ≤ reachBytes) (h2 : ∀ y ∈ ys, ∃ cs, Fits P k e cs ∧ y = wrapE P e cs) : Fits P (k + 1) t [.sl (P.cellsOf e) ys .any] := by
  unfold Fits; rw [ht]; exact ⟨ys, rfl, h1, h2⟩
theorem trod_fits (hl : laidOutB P = true) {B : DataW H → Nat} {BL : List (DataW H) → Nat} (hB : Bulk B BL) : ∀ (k : Nat) (t : TypeId), plainT P k t = true → ∀ (fuel : Nat) (cs : List Value) (x : DataW H × List MemPlace),
    DataW.trod enc P w 0 (fun _ => true) true fuel t cs = some x → (∀ n ∈ x.1.weights P t, n ≤ reachBytes) → ∃ xs, Fits P k t xs ∧ VRels G0 w xs cs ∧ (∀ v ∈ cs, One v) ∧ bulkAs xs ≤ B x.1 := by
  intro k
  induction k with
  | zero => intro t h; cases h
  | succ k ih =>
    intro t hp fuel cs x hx hwt
    simp only [plainT] at hp
    split at hp
    · rename_i ht
      obtain ⟨b, rfl, rfl⟩ := DataW.trod_bool ht hx
      exact ⟨[.bool b], by simp only [Fits, ht]; exact ⟨b, rfl⟩, .cons (by simp [VRel]) .nil, by simp [one_of_bool], by simp [hB.bool, bulkAs, bulkA]⟩
    · rename_i q ht
      obtain ⟨n, rfl, rfl, hw⟩ := DataW.trod_int ht hx
      exact ⟨[.int q n], by simp only [Fits, ht]; exact ⟨n, rfl, hw⟩, .cons (by simp [VRel]) .nil, by simp [one_of_int], by simp [hB.int, bulkAs, bulkA]⟩
    · rename_i ht
      obtain ⟨s, rfl, rfl, -⟩ := DataW.trod_string ht hx
      refine ⟨[.str s.data.toList], by simp only [Fits, ht]; exact ⟨_, rfl, hwt _ (by simp [DataW.weights])⟩, .cons (by simp [VRel]) .nil, by simp [one_of_str], by simp [hB.str, bulkAs, bulkA]⟩
    · rename_i e ht
      simp only [Bool.and_eq_true, decide_eq_true_eq] at hp
      obtain ⟨⟨⟨-, hsz⟩, hag⟩, hpe⟩ := hp
      rcases DataW.trod_slice ht hx with ⟨rfl, rfl⟩ | ⟨a, len, cap, elems, rest, n, rfl, rfl, rfl, hb, hlc, hcm, hel, hread, hrest, -⟩
      · refine ⟨[.sl (P.cellsOf e) [] .any], Fits.slice ht (by simp) (fun y hy => by cases hy), .cons ?_ .nil, by simp [one_of_sl], by simp [hB.nil, bulkAs, bulkA]⟩
        unfold VRel; exact .inl ⟨rfl, ⟨none, rfl⟩, trivial⟩
      · have hone : isAggT P e = false → P.cellsOf e = 1 := by
          intro ha
          simpa [ha] using hag
        -- the cells of each element
        have each : ∀ i, i < len → ∃ vs xs, w.cells? 0 (a.add (i * P.cellsOf e)) (P.cellsOf e) = some vs ∧ Fits P k e xs ∧ VRels G0 w xs vs ∧ (∀ v ∈ vs, One v) ∧ ∀ y, elems[i]? = some y → bulkAs xs ≤ B y.1 := by
          intro i hi
          have h := hread i hi
          rw [List.getElem?_eq_getElem (by omega)] at h
          obtain ⟨vs, h1, h2⟩ := Option.bind_eq_some_iff.1 h
          obtain ⟨xs, h3, h4, h5, h6⟩ := ih e hpe n vs _ h2 (fun m hm => hwt m (by
            simp only [DataW.weights, ht, List.mem_cons, List.mem_append]
            exact .inr (.inl (weights_mem_all (List.mem_map.2 ⟨_, List.getElem_mem (by omega), rfl⟩) hm))))
          exact ⟨vs, xs, h1, h3, h4, h5, fun y hy => by rw [List.getElem?_eq_getElem (by omega)] at hy; cases hy; exact h6⟩
        have build : ∀ m, m ≤ len → ∃ ys vs, ys.length = m ∧ vs.length = m * P.cellsOf e ∧ (∀ y ∈ ys, ∃ cs, Fits P k e cs ∧ y = wrapE P e cs) ∧ VElems G0 w (P.cellsOf e) ys vs ∧ (∀ (i : Nat) v, vs[i]? = some v → w.cell? (a.add i) = some v ∧ One v) ∧ bulkAs ys ≤ BL ((elems.map (·.1)).take m) := by
          intro m
          induction m with
          | zero => intro _; exact ⟨[], [], rfl, by simp, by simp, by simp [VElems], by simp, by simp [bulkAs]⟩
          | succ m ihm =>
            intro hm
            obtain ⟨ys, vs, k1, k2, k3, k4, k5, k6⟩ := ihm (by omega)
            obtain ⟨us, xs, e1, e2, e3, e4, eb⟩ := each m (by omega)
            obtain ⟨-, e5, e6⟩ := World.cells?_some e1
            obtain ⟨v, hv1, hv2⟩ := wrapE_rel e5 e3 e4 hone
            refine ⟨ys ++ [wrapE P e xs], vs ++ us, by simp [k1], by simp [k2, e5, Nat.add_mul], ?_, ?_, ?_, ?_⟩
            · intro y hy
              rcases List.mem_append.1 hy with hy | hy
              · exact k3 y hy
              · simp at hy; exact ⟨xs, e2, hy⟩
            · refine k4.append ?_
              simp only [VElems]
              exact ⟨v, [], by simp [hv1], by rw [← Array.length_toList, hv1, e5], hv2, rfl⟩
            · intro i z hz
              rcases Nat.lt_or_ge i vs.length with hi | hi
              · rw [List.getElem?_append_left hi] at hz; exact k5 i z hz
              · rw [List.getElem?_append_right hi] at hz
                have hlt : i - vs.length < us.length := (List.getElem?_eq_some_iff.1 hz).1
                have := e6 (i - vs.length) (by omega)
                rw [hz] at this
                have ea : (a.add (m * P.cellsOf e)).add (i - vs.length) = a.add i := by
                  rw [← k2]
                  unfold Addr.add
                  by_cases h0 : vs.length = 0
                  · simp [h0]
                  · by_cases h1 : i - vs.length = 0
                    · have : i = vs.length := by omega
                      subst this; simp
                    · have : i ≠ 0 := by omega
                      simp [h0, h1, this]; omega
                rw [ea] at this
                exact ⟨this, e4 z (List.mem_of_getElem? hz)⟩
            · have hlt : m < (elems.map (·.1)).length := by simp; omega
              rw [List.take_succ_eq_append_getElem hlt, hB.snoc, bulkAs_append]
              have h1 := eb _ (List.getElem?_eq_getElem (by omega))
              have h2 := bulk_wrap P e xs
              simp only [List.getElem_map, bulkAs]
              omega
        obtain ⟨ys, vs, k1, k2, k3, k4, k5, k6⟩ := build len (Nat.le_refl _)
        refine ⟨[.sl (P.cellsOf e) ys .any], Fits.slice ht ?_ k3, .cons ?_ .nil, by simp [one_of_sl], ?_⟩
        · have := hwt ((elems.length + rest.length) * P.bytesOf e) (by simp [DataW.weights, ht])
          exact Nat.le_trans (Nat.mul_le_mul_right _ (by omega)) this
        rotate_left
        · have := hB.take (elems.map (·.1)) len
          simp only [hB.slice, bulkAs, bulkA]
          omega
        unfold VRel
        by_cases hcap : cap = 0
        · have : ys = [] := List.length_eq_zero_iff.1 (by omega)
          exact .inl ⟨this, ⟨some a, by simp; omega⟩, by simp [CapNil]⟩
        · have hspot : a.spot = none := by
            by_cases hl0 : len = 0
            · obtain ⟨hr1, hr2⟩ := hrest rfl
              have h := hr2 0 (by omega)
              rw [List.getElem?_eq_getElem (by omega)] at h
              obtain ⟨vs', h1, h2⟩ := Option.bind_eq_some_iff.1 h
              obtain ⟨-, g1, g2⟩ := World.cells?_some h1
              have := g2 0 hsz
              rw [List.getElem?_eq_getElem (by omega)] at this
              have := cell_spot this
              simpa [hl0, Addr.add] using this
            · obtain ⟨us, xs, e1, e2, e3, e4, -⟩ := each 0 (by omega)
              obtain ⟨-, g1, g2⟩ := World.cells?_some e1
              have := g2 0 hsz
              rw [List.getElem?_eq_getElem (by omega)] at this
              have := cell_spot this
              simpa [Addr.add] using this
          obtain ⟨B, off, sp⟩ := a
          simp only at hspot
          subst hspot
          refine .inr ⟨B, off, cap, vs, by simp [k1], by omega, by rw [k2, k1], k4, fun i v hv => ?_, by simp [CapOk]⟩
          obtain ⟨c1, c2⟩ := k5 i v hv
          rw [add_plain] at c1
          exact ⟨c1, c2, by simp [G0], by simp [G0]⟩
    · rename_i fs ht
      simp only [Bool.and_eq_true, decide_eq_true_eq] at hp
      obtain ⟨hlt, hp⟩ := hp
      rw [Array.all_eq_true_iff_forall_mem] at hp
      obtain ⟨xs, n, rfl, rfl, hlen, hxl, hread⟩ := DataW.trod_struct ht hx
      obtain ⟨-, hsum, hoff⟩ := kid_struct hl hlt ht
      obtain ⟨xss, q1, q2, q3, q4⟩ := fields_split (P := P) (R := fun (f : Field) cs => Fits P k f.type cs) (G := G0) (w := w) hB cs
        (fun f us d => plainT P k f.type = true ∧ ∃ y, DataW.trod enc P w 0 (fun _ => true) true n f.type us = some y ∧ y.1 = d ∧ ∀ m ∈ d.weights P f.type, m ≤ reachBytes)
        (fun f us d ⟨h1, y, h2, h3, h4⟩ => by subst h3; exact ih f.type h1 n us y h2 h4) fs.toList (xs.map (·.1)) 0 (by simp [hxl]) (fun j f hj => by rw [hoff j f hj]; omega) (by rw [hlen, hsum]; omega)
        (fun i f d hi hd => by
          refine ⟨hp f (by have := List.mem_of_getElem? hi; simpa using this), ?_⟩
          have h := hread i f (by simpa using hi)
          rw [List.getElem?_map] at hd
          cases hxi : xs[i]? with
          | none => rw [hxi] at hd; cases hd
          | some y =>
            rw [hxi] at h hd
            refine ⟨y, h, by simpa using hd, fun m hm => hwt m ?_⟩
            simp only [DataW.weights, ht]
            exact DataW.weights_mem_each (j := i) (t := f.type) (d := d) (by rw [List.getElem?_map, hi]; rfl) (by rw [List.getElem?_map, hxi]; exact hd) m hm)
      refine ⟨xss.flatten, by simp only [Fits, ht]; exact ⟨xss, rfl, q1⟩, by simpa using q2, by simpa using q3, ?_⟩
      rw [hB.agg]; omega
    · cases hp
def ArgFits (P : Program) (k : Nat) (t : TypeId) (a : AV) : Prop := ∃ cs, Fits P k t cs ∧ a = wrapE P t cs
theorem arg_rel {k : Nat} {t : TypeId} {v : Value} {xs : List AV} {base : Nat} (hp : plainT P k t = true) (hok : Value.okWide P w .any base t v) (hr : VRels G0 w xs v.cells.toList) (ho : ∀ u ∈ v.cells.toList, One u) : VRel G0 w (wrapE P t xs) v := by
  unfold wrapE
  cases ha : isAggT P t with
  | true =>
    have : ∃ cs, v = .agg cs := by
      unfold isAggT at ha
      unfold Value.okWide at hok
      split at ha
      · rename_i h; rw [h] at hok; obtain ⟨cs, h, -⟩ := hok; exact ⟨cs, h⟩
      · rename_i h; rw [h] at hok; obtain ⟨cs, h, -⟩ := hok; exact ⟨cs, h⟩
      · cases ha
    obtain ⟨cs, rfl⟩ := this
    simp only [if_true, VRel]
    exact ⟨cs.toList, by simp, by simpa [Value.cells] using hr⟩
  | false =>
    have hv : v.cells = #[v] := by
      cases v <;> try rfl
      exfalso
      cases k with
      | zero => cases hp
      | succ k =>
        unfold plainT at hp
        unfold isAggT at ha
        unfold Value.okWide Cell.okWide Cell.ok at hok
        split at hp
        all_goals (try (rename_i h; rw [h] at hok ha; simp at hok ha; done))
        all_goals (try (rename_i h; rw [h] at hok ha; simp at hok; done))
        all_goals simp_all
    rw [hv] at hr
    have hl := hr.length
    obtain ⟨x, rfl⟩ := List.length_eq_one_iff.1 (show xs.length = 1 by simpa using hl.symm)
    simp only [VRels] at hr
    obtain ⟨v', us, e1, hx, e2⟩ := hr
    cases e1
    simpa using hx
theorem args_fit (hl : laidOutB P = true) {B : DataW H → Nat} {BL : List (DataW H) → Nat} (hB : Bulk B BL) {k : Nat} {base : Nat} : ∀ {ts us : List TypeId} {vs : List Value} {ds : List (DataW H)} {ps : List MemPlace}, (∀ t ∈ ts, plainT P k t = true) →
    (∀ (j : Nat) t v, ts[j]? = some t → vs[j]? = some v → Value.okWide P w .any base t v) → (∀ n ∈ DataW.weightsEach P (ts ++ us) ds, n ≤ reachBytes) → DataW.TrodAll enc P w 0 (fun _ => true) true ts vs ds ps → ∃ avs, All2 (ArgFits P k) ts avs ∧ VRels G0 w avs vs ∧ bulkAs avs ≤ BL ds
  | [], us, [], [], _, _, _, _, _ => ⟨[], .nil, .nil, by simp [bulkAs]⟩
  | t :: ts, us, v :: vs, d :: ds, _, hp, hok, hwt, ⟨p, q, ⟨fuel, h1⟩, h2, _⟩ => by
    obtain ⟨xs, f1, f2, f3, f4⟩ := trod_fits hl hB k t (hp t (by simp)) fuel _ _ h1 (fun n hn => hwt n (by simp only [List.cons_append, DataW.weightsEach, List.mem_append]; exact .inl hn))
    obtain ⟨avs, g1, g2, g3⟩ := args_fit hl hB (us := us) (fun t ht => hp t (by simp [ht])) (fun j t v a b => hok (j + 1) t v (by simpa using a) (by simpa using b)) (fun n hn => hwt n (by simp only [List.cons_append, DataW.weightsEach, List.mem_append]; exact .inr hn)) h2
    refine ⟨wrapE P t xs :: avs, .cons ⟨xs, f1, rfl⟩ g1, .cons (arg_rel (hp t (by simp)) (hok 0 t v rfl rfl) f2 f3) g2, ?_⟩
    have := bulk_wrap P t xs
    simp only [bulkAs, hB.cons] at f4 ⊢
    omega
theorem trodAll_len {sp : Nat → Bool} : ∀ {ts : List TypeId} {vs : List Value} {ds : List (DataW H)} {ps : List MemPlace}, DataW.TrodAll enc P w 0 sp true ts vs ds ps → ds.length = ts.length
  | [], [], [], _, h => rfl
  | t :: ts, v :: vs, d :: ds, _, ⟨p, q, h1, h2, e⟩ => by simp [trodAll_len h2]
theorem trodAll_carry {w' : World} {sp : Nat → Bool} : ∀ {ts : List TypeId} {vs : List Value} {ds : List (DataW H)} {ps : List MemPlace}, DataW.TrodAll enc P w 0 sp true ts vs ds ps → (∀ p ∈ ps, w.sameAt w' p) → DataW.TrodAll enc P w' 0 sp true ts vs ds ps
  | [], [], [], _, h, _ => h
  | t :: ts, v :: vs, d :: ds, _, ⟨p, q, ⟨fuel, h1⟩, h2, e⟩, hs => by
    subst e
    exact ⟨p, q, ⟨fuel, DataW.trod_carry fuel _ _ _ h1 (fun x hx => hs x (List.mem_append_left _ hx))⟩, trodAll_carry h2 (fun x hx => hs x (List.mem_append_right _ hx)), rfl⟩
theorem calls_row (hl : laidOutB P = true) {B : DataW H → Nat} {BL : List (DataW H) → Nat} (hB : Bulk B BL) (hm : mapsRowed P = true) (hz : ∀ t e, t < P.types.size → P.underlying t = some (.slice e) → 0 < P.cellsOf e) {f : FuncId} {fn : Func} {s : ChangeSpec} {k base : Nat} {W : World} {args : Array Value} {ds gs : List (DataW H)} {before : List MemPlace} {tb : TypeId}
    (hvars : s.vars = []) (hfn : ∀ l : List (DataW H), l.length = fn.params.size → s.fn H l = { results := [.lit (.bool true)], args := l }) (hrt : fn.resultTypes = #[tb]) (htb : P.underlying tb = some .bool)
    (hpl' : fn.params.toList.all (plainT P k) = true) (hlt' : fn.params.toList.all (fun t => decide (t < P.types.size)) = true)
    (hval : ∀ (j : Nat) t v, fn.params[j]? = some t → args[j]? = some v → Value.okWide P W .any base t v) (hW : DataW.Whole enc P fn.params.toList s.vars false W args.toList ds gs before)
    {us : List TypeId} (hwt : (DataW.weightsEach P (fn.params.toList ++ us) (ds ++ gs)).all (· ≤ reachBytes) = true)
    (law : ∀ avs, All2 (ArgFits P k) fn.params.toList avs → bulkAs avs ≤ BL (ds ++ gs) → PCalls P f avs (.bool true)) :
    Calls P f args W fun e W' => ∃ v, e = .returned v ∧ s.post enc P fn false true false false W args v W' := by
  have hpl : ∀ t ∈ fn.params.toList, plainT P k t = true := List.all_eq_true.1 hpl'
  have hlt : ∀ t ∈ fn.params.toList, t < P.types.size := fun t ht => of_decide_eq_true (List.all_eq_true.1 hlt' t ht)
  have hW' := hW
  obtain ⟨p, q, hA, hV, rfl, -, -⟩ := hW
  rw [hvars] at hV
  obtain ⟨rfl, rfl⟩ := trodVars_none hV
  rw [List.append_nil] at hwt law
  obtain ⟨avs, g1, g2, g3⟩ := args_fit hl hB hpl (fun j t v a b => hval j t v (by simpa using a) (by simpa using b)) (fun n hn => of_decide_eq_true (List.all_eq_true.1 hwt n hn)) hA
  have hlaw := law avs g1 g3 0 0 G0 W args.toList g2 only_rep ⟨fun _ _ _ h => h, fun _ _ _ h => h⟩
  rw [show args.toList.toArray = args from Array.toArray_toList] at hlaw
  refine hlaw.mono ?_
  rintro e W' ⟨v, G', he, T, -, hv⟩
  subst he
  simp only [VRel] at hv
  subst hv
  have keep : ∀ B, B < W.heap.size → W'.heap[B]? = W.heap[B]? := fun B hB => T.keep B hB (fun x => only_O B x) (fun ⟨t, ht, _⟩ => by simp [H0, Av.H.only] at ht)
  have hlt' : ∀ x ∈ p, x.block < W.heap.size := DataW.TrodAll.lt hA
  have hlen := trodAll_len hA
  refine ⟨_, rfl, ds, [], p ++ [], [], p, [], hW', ?_, ?_, ?_, ?_, fun h => by cases h⟩
  · rw [hfn _ (by simpa using hlen), hrt]
    exact trodAll_mk1 (shut_bool htb _)
  · rw [hfn _ (by simpa using hlen)]
    have := DataW.TrodAll.respare (kids_rows hl hm) hz (spare' := fun b => decide (b < W.heap.size)) hlt hA (fun x hx => by simpa using hlt' x hx)
    simp only [List.append_nil]
    refine trodAll_carry this fun x hx => ?_
    have hb := hlt' x hx
    cases x with
    | cell b off => unfold World.sameAt World.cell?; simp only; rw [keep b hb]
    | map b => exact keep b hb
  · rw [hvars, hfn _ (by simpa using hlen)]
    rfl
  · refine ⟨T.os, T.output, fun i hi => ?_⟩
    rw [keep i hi]
    generalize W.heap[i]? = o
    cases o with
    | none => rfl
    | some o => cases o <;> simp
end
end Go.Av
end
section
set_option linter.unusedSimpArgs false
set_option linter.unusedVariables false
set_option maxRecDepth 100000
namespace Go.Proofs.Ytpehfflehebmbaa.Reads
open Go Go.Av Go.Proofs Go.Proofs.Ytpehfflehebmbaa.C
theorem laid : laidOutB Try.prog = true := by kernel_rfl
theorem rowed : mapsRowed Try.prog = true := by kernel_rfl
theorem full : ∀ t e, t < Try.prog.types.size → Try.prog.underlying t = some (.slice e) → 0 < Try.prog.cellsOf e := slices_full_of Try.prog (by kernel_rfl)
theorem own : ownKnob Try.prog.godebug = none := by kernel_rfl
theorem bulk {H : Type} : Bulk (H := H) Rows.uptoBulk Rows.uptoBulkAll :=
  ⟨fun l => by simp [Rows.uptoBulk], fun k n => by simp [Rows.uptoBulk], fun b => by simp [Rows.uptoBulk], by simp [Rows.uptoBulk], fun a b => by simp [Rows.uptoBulk], fun a => by simp [Rows.uptoBulk], by simp [Rows.uptoBulkAll], fun d l => by simp [Rows.uptoBulkAll]⟩
theorem all_strs {k : Nat} {t : TypeId} (ht : Try.prog.underlying t = some .string) (ha : isAggT Try.prog t = false) : ∀ {ys : List AV}, (∀ y ∈ ys, ∃ cs, Fits Try.prog (k + 1) t cs ∧ y = wrapE Try.prog t cs) → ∃ l : List (List UInt8), ys = strs l ∧ ∀ s ∈ l, s.length ≤ reachBytes
  | [], _ => ⟨[], rfl, by simp⟩
  | y :: ys, h => by
    obtain ⟨l, rfl, hl⟩ := all_strs ht ha (ys := ys) (fun z hz => h z (by simp [hz]))
    obtain ⟨cs, h1, h2⟩ := h y (by simp)
    unfold Fits at h1
    rw [ht] at h1
    obtain ⟨s, rfl, hs⟩ := h1
    refine ⟨s :: l, by simp [strs, h2, wrapE, ha], fun z hz => ?_⟩
    rcases List.mem_cons.1 hz with rfl | hz
    · exact hs
    · exact hl z hz
theorem open_str {a : AV} (h : ArgFits Try.prog 5 9 a) : ∃ l, a = .str l ∧ l.length ≤ reachBytes := by
  obtain ⟨cs, h, rfl⟩ := h
  unfold Fits at h
  rw [Try.underlying9] at h
  obtain ⟨l, rfl, hl⟩ := h
  refine ⟨l, ?_, hl⟩
  unfold wrapE; rw [if_neg (by rw [show isAggT Try.prog 9 = false by kernel_rfl]; simp)]; rfl
theorem all_of {α : Type} {t : TypeId} {k : Nat} {enc : α → AV} {Q : α → Prop} (h1 : ∀ cs, Fits Try.prog k t cs → ∃ x, wrapE Try.prog t cs = enc x ∧ Q x) : ∀ {ys : List AV}, (∀ y ∈ ys, ∃ cs, Fits Try.prog k t cs ∧ y = wrapE Try.prog t cs) → ∃ l : List α, ys = l.map enc ∧ ∀ x ∈ l, Q x
  | [], _ => ⟨[], rfl, by simp⟩
  | y :: ys, h => by
    obtain ⟨l, rfl, hl⟩ := all_of h1 (ys := ys) (fun z hz => h z (by simp [hz]))
    obtain ⟨cs, g1, g2⟩ := h y (by simp)
    obtain ⟨x, e, q⟩ := h1 cs g1
    refine ⟨x :: l, by simp [g2, e], fun z hz => ?_⟩
    rcases List.mem_cons.1 hz with rfl | hz
    · exact q
    · exact hl z hz
def SpOk (p : Sp) : Prop := p.f.length ≤ reachBytes ∧ p.t.length ≤ reachBytes
theorem span_fits {k : Nat} {cs : List AV} (h : Fits Try.prog (k + 2) 94 cs) : ∃ p : Sp, wrapE Try.prog 94 cs = encSp p ∧ SpOk p := by
  have hw : ∀ cs, wrapE Try.prog 94 cs = .agg cs := fun cs => by
    unfold wrapE; rw [if_pos (by kernel_rfl)]
  rw [hw]
  unfold Fits at h
  rw [Try.underlying94] at h
  obtain ⟨xss, rfl, h⟩ := h
  cases h with | cons h0 h => cases h with | cons h1 h =>
  cases h
  unfold Fits at h0 h1
  simp only at h0 h1
  rw [Try.underlying9] at h0 h1
  obtain ⟨s, rfl, hs⟩ := h0
  obtain ⟨v, rfl, hv⟩ := h1
  exact ⟨⟨s, v⟩, rfl, hs, hv⟩
theorem open_reads {a : AV} (h : ArgFits Try.prog 5 75 a) : ∃ (k : List Bs) (l : List Sp), a = encR k l ∧ (∀ s ∈ k, s.length ≤ reachBytes) ∧ (∀ s ∈ l, SpOk s) := by
  obtain ⟨cs, h, rfl⟩ := h
  have hw : ∀ cs, wrapE Try.prog 75 cs = .agg cs := fun cs => by
    unfold wrapE; rw [if_pos (by kernel_rfl)]
  rw [hw]
  unfold Fits at h
  rw [Try.underlying75] at h
  obtain ⟨xss, rfl, h⟩ := h
  cases h with | cons h0 h => cases h with | cons h1 h =>
  cases h
  unfold Fits at h0 h1
  simp only at h0 h1
  rw [Try.underlying37] at h0
  rw [Try.underlying73] at h1
  obtain ⟨xs, rfl, hlx, hx⟩ := h0
  obtain ⟨ys, rfl, hl, he⟩ := h1
  obtain ⟨k, rfl, hk⟩ := all_strs Try.underlying9 (by kernel_rfl) hx
  obtain ⟨l, rfl, hq⟩ := all_of (fun cs h => span_fits h) he
  have c1 : Try.prog.cellsOf 94 = 2 := by kernel_rfl
  have c2 : Try.prog.cellsOf 9 = 1 := by kernel_rfl
  refine ⟨k, l, ?_, hk, hq⟩
  simp [encR, sps, c1, c2]
end Go.Proofs.Ytpehfflehebmbaa.Reads
end
section
set_option linter.unusedSimpArgs false
set_option linter.unusedVariables false
set_option maxRecDepth 10000
namespace Go.Proofs.Ytpehfflehebmbaa.Reads
open Go Go.Av Go.Proofs Go.Proofs.Ytpehfflehebmbaa.C Go.Proofs.Ytpehfflehebmbaa.Batch
structure Right (k : List Bs) (l : List Sp) (n : Nat) : Prop where
  nf : NF l
  rise : Rise k
  un : ∀ x ∈ k, spanned l x = false
  kn : k.length ≤ n
  ln : l.length ≤ n
end Go.Proofs.Ytpehfflehebmbaa.Reads
end
