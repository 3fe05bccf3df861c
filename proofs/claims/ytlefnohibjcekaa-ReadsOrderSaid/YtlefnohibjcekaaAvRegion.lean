/- A statement whose operations may run in more than one order: where those that are not ordered touch nothing in common, all orders come to what the text's order comes to. -/
import Derived.Test.YtlefnohibjcekaaAvSound
set_option linter.unusedVariables false
set_option linter.unusedSimpArgs false
namespace Go.Av
section
variable {P : Program} {ops : Array Oper}

def names (ops : Array Oper) (o : Oper) : List Nat :=
  o.dst.toList ++ (o.op.operands.toList.filterMap fun | .tmp t => some t | _ => none) ++ (match o.guard with | some (j, _) => ((ops[j]?).bind (·.dst)).toList | none => [])

def TOn (l : List Nat) (G : Ghost) (w : World) (t : Tm) (a : Act) : Prop := ∀ i ∈ l, VRel G w (t i) (a.tmps.getD i undef)

def putT (t : Tm) (d : Option Nat) (x : AV) : Tm :=
  match d with
  | some d => upd t d x
  | none => t

structure Rec where
  t : Tm
  h : H
  h1 : H
  h1' : H
  h' : H
  x : AV
  en : Ent

/-- operation i, run over a heap of its own, whatever stands beside it -/
def ItRun (P : Program) (ops : Array Oper) (i : Nat) (o : Oper) (t : Tm) (h1 : H) (x : AV) (h1' : H) : Prop :=
  ∀ G w a, TOn (names ops o) G w t a → RepH G h1 w → Fresh G h1 h1' → ∀ (K : Act → World → Prop) Q,
    (∀ G' w' v, Trans G w h1 G' w' h1' → RepH G' h1' w' → VRel G' w' x v → K (a.put o.dst v) w') → wpOp P ops Q i K a w

inductive Chain (P : Program) (ops : Array Oper) : Nat → List Rec → Tm → H → Tm → H → Prop where
  | nil {i : Nat} {t : Tm} {h : H} (hi : i = ops.size) : Chain P ops i [] t h t h
  | cons {i : Nat} {o : Oper} {r : Rec} {rs : List Rec} {t t' : Tm} {h h' : H} (ho : ops[i]? = some o) (e1 : r.t = t) (e2 : r.h = h) (tc : Touch h r.h1 r.h1' r.h' r.en) (run : ItRun P ops i o t r.h1 r.x r.h1')
      (rest : Chain P ops (i + 1) rs (putT t o.dst r.x) r.h' t' h') : Chain P ops i (r :: rs) t h t' h'

theorem put_size (a : Act) (d : Option Nat) (v : Value) : (a.put d v).tmps.size = a.tmps.size := by
  cases d <;> simp [Act.put]
theorem put_defers (a : Act) (d : Option Nat) (v : Value) : (a.put d v).defers = a.defers := by
  cases d <;> simp [Act.put]

theorem put_rel {G : Ghost} {w : World} {t : Tm} {a : Act} {d : Option Nat} {x : AV} {v : Value} (ht : TRel G w t a) (hv : VRel G w x v) (hd : ∀ k, d = some k → k < a.tmps.size) : TRel G w (putT t d x) (a.put d v) := by
  intro i
  cases d with
  | none => exact ht i
  | some k =>
    have hk := hd k rfl
    simp only [putT, upd, Act.put]
    by_cases e : i = k
    · subst e
      simp [Array.getElem?_setIfInBounds, hk]
      exact hv
    · have := ht i
      simp only [if_neg e]
      have e2 : (a.tmps.setIfInBounds k v).getD i undef = a.tmps.getD i undef := by
        simp [Array.getElem?_setIfInBounds, Ne.symm e]
      rw [e2]; exact this

theorem TRel.mono {G G' : Ghost} {w w' : World} {h h' : H} {t : Tm} {a : Act} (R : RepH G h w) (T : Trans G w h G' w' h') (ht : TRel G w t a) : TRel G' w' t a := fun i => VRel.mono R T _ _ (ht i)

theorem chain_nm : ∀ {i : Nat} {recs : List Rec} {t t' : Tm} {h h' : H}, Chain P ops i recs t h t' h' → (h.n ≤ h'.n ∧ h.m ≤ h'.m) ∧
    (∀ (k : Nat) (r : Rec), recs[k]? = some r → (h.n ≤ r.h1.n ∧ r.h1'.n ≤ h'.n) ∧ (h.m ≤ r.h1.m ∧ r.h1'.m ≤ h'.m)) ∧
    (∀ (k l : Nat) (r s : Rec), k < l → recs[k]? = some r → recs[l]? = some s → r.h1'.n ≤ s.h1.n ∧ r.h1'.m ≤ s.h1.m) := by
  intro i recs t t' h h' hc
  induction hc with
  | nil hi => exact ⟨⟨Nat.le_refl _, Nat.le_refl _⟩, by simp, by simp⟩
  | @cons i o r rs t t' h h' ho e1 e2 tc run rest ih =>
    obtain ⟨⟨a1, a2⟩, a3, a4⟩ := ih
    have n1 := tc.n
    have m1 := tc.m
    have n2 : r.h'.n = r.h1'.n := by rw [tc.eq]; rfl
    have m2 : r.h'.m = r.h1'.m := by rw [tc.eq]; rfl
    have n3 := tc.le
    have m3 := tc.lem
    refine ⟨⟨by omega, by omega⟩, ?_, ?_⟩
    · intro k q hq
      cases k with
      | zero => simp at hq; subst hq; exact ⟨⟨by omega, by omega⟩, ⟨by omega, by omega⟩⟩
      | succ k =>
        simp at hq
        obtain ⟨⟨b1, b2⟩, b3, b4⟩ := a3 k q hq
        exact ⟨⟨by omega, by omega⟩, ⟨by omega, by omega⟩⟩
    · intro k l q s hkl hq hs
      cases l with
      | zero => omega
      | succ l =>
        simp at hs
        cases k with
        | zero =>
          simp at hq; subst hq
          obtain ⟨⟨b1, b2⟩, b3, b4⟩ := a3 l s hs
          exact ⟨by omega, by omega⟩
        | succ k =>
          simp at hq
          exact a4 k l q s (by omega) hq hs

theorem Fresh.sub {G : Ghost} {h h' k k' : H} (F : Fresh G h h') (a : h.n ≤ k.n) (b : k'.n ≤ h'.n) (c : h.m ≤ k.m) (d : k'.m ≤ h'.m) : Fresh G k k' :=
  ⟨fun id x y => F.1 id (by omega) (by omega), fun t x y => F.2 t (by omega) (by omega)⟩

theorem Fresh.step {G G' : Ghost} {w w' : World} {h h1 h' : H} (F : Fresh G h h') (T : Trans G w h G' w' h1) : Fresh G' h1 h' := by
  constructor
  · intro id x y hd
    rcases T.dom_new id hd with z | ⟨z1, z2⟩
    · exact F.1 id (Nat.le_trans T.n_le x) y z
    · omega
  · intro id x y hd
    rcases T.tdom_new id hd with z | ⟨z1, z2⟩
    · exact F.2 id (Nat.le_trans T.m_le x) y z
    · omega

/-- in the text's order -/
theorem chain_seq {N : Nat} {Q : Exit → Act → World → Prop} (hN : ∀ (i : Nat) o d, ops[i]? = some o → o.dst = some d → d < N) : ∀ {i : Nat} {recs : List Rec} {t t' : Tm} {h h' : H}, Chain P ops i recs t h t' h' →
    ∀ (G : Ghost) (w : World) (a : Act), a.tmps.size = N → TRel G w t a → RepH G h w → Fresh G h h' →
      (∀ G' w' a', Trans G w h G' w' h' → TRel G' w' t' a' → RepH G' h' w' → a'.tmps.size = N → a'.defers = a.defers → Q .normal a' w') → wpOps P ops Q (List.range' i (ops.size - i)) a w := by
  intro i recs t t' h h' hc
  induction hc with
  | nil hi =>
    intro G w a hs ht R U hq
    subst hi
    simp only [Nat.sub_self, List.range'_zero, wpOps]
    exact hq G w a (Trans.refl _ _ _) ht R hs rfl
  | @cons i o r rs t t' h h' ho e1 e2 tc run rest ih =>
    intro G w a hs ht R U hq
    have hi : i < ops.size := (Array.getElem?_eq_some_iff.1 ho).1
    have : ops.size - i = (ops.size - (i + 1)) + 1 := by omega
    rw [this, List.range'_succ, wpOps_cons]
    have nm := (chain_nm rest).1
    have e3 : r.h'.n = r.h1'.n := by rw [tc.eq]; rfl
    have e4 : r.h'.m = r.h1'.m := by rw [tc.eq]; rfl
    have F : Fresh G r.h1 r.h1' := U.sub (by rw [tc.n]; exact Nat.le_refl _) (by omega) (by rw [tc.m]; exact Nat.le_refl _) (by omega)
    refine run G w a (fun k _ => ht k) (R.sub tc.sub) F _ Q fun G' w' v T1 R1 V => ?_
    obtain ⟨R2, T2⟩ := frame R tc.sub tc.n tc.m R1 T1 F
    rw [← tc.eq] at R2 T2
    refine ih G' w' _ (by rw [put_size]; exact hs) (put_rel (ht.mono R T2) V fun k hk => by rw [hs]; exact hN i o k ho hk) R2 (U.step T2) fun G'' w'' a'' T3 h1 h2 h3 h4 => ?_
    exact hq G'' w'' a'' (T2.trans R R2 T3) h1 h2 h3 (h4.trans (put_defers _ _ _))

/-! ## The last word of those that ran -/

def val {β : Type} (u : Nat → Option β) (S : Nat → Bool) : Nat → β → β
  | 0, v => v
  | k + 1, v => if S k then (u k).getD (val u S k v) else val u S k v

theorem val_congr {β : Type} {u : Nat → Option β} {S S' : Nat → Bool} {v : β} : ∀ {n : Nat}, (∀ k, k < n → S k = S' k) → val u S n v = val u S' n v
  | 0, _ => rfl
  | n + 1, h => by simp only [val, h n (by omega), val_congr (n := n) fun k hk => h k (by omega)]

theorem val_insert {β : Type} {u : Nat → Option β} {S S' : Nat → Bool} {v : β} {i : Nat} (hS : S i = false) (hS' : ∀ k, S' k = (S k || k == i)) :
    ∀ {n : Nat}, i < n → (∀ j, i < j → j < n → S j = true → u i ≠ none → u j = none) → val u S' n v = (u i).getD (val u S n v)
  | 0, h, _ => by omega
  | n + 1, h, hu => by
    by_cases e : n = i
    · subst e
      simp only [val, hS, hS']
      simp only [Bool.false_or, BEq.rfl, if_true, Bool.false_eq_true, if_false]
      rw [val_congr (S := S') (S' := S)]
      intro k hk
      rw [hS']
      have : (k == n) = false := by simp; omega
      simp [this]
    · have ih := val_insert (u := u) (v := v) hS hS' (n := n) (by omega) fun j a b => hu j a (by omega)
      have en : (n == i) = false := by simp; exact e
      simp only [val, hS', en, Bool.or_false, ih]
      by_cases hSn : S n = true
      · simp only [hSn, if_true]
        have := hu n (by omega) (by omega) hSn
        cases hui : u i with
        | none => rfl
        | some y => rw [this (by simp [hui])]; rfl
      · simp only [hSn, if_false, Bool.false_eq_true]

theorem val_prefix {β : Type} {u : Nat → Option β} {S : Nat → Bool} {v : β} {j : Nat} (h1 : ∀ k, k < j → S k = false → u k = none) : ∀ {n : Nat}, j ≤ n → (∀ k, j ≤ k → k < n → S k = true → u k = none) → val u S n v = val u (fun _ => true) j v
  | 0, h, _ => by
    have : j = 0 := by omega
    subst this; rfl
  | n + 1, h, h2 => by
    by_cases e : j = n + 1
    · subst e
      have key : ∀ m, m ≤ n + 1 → val u S m v = val u (fun _ => true) m v := by
        intro m
        induction m with
        | zero => intro _; rfl
        | succ m ih =>
          intro hm
          simp only [val, ih (by omega), if_true]
          by_cases hs : S m = true
          · simp [hs]
          · simp only [hs, if_false, Bool.false_eq_true]
            rw [h1 m (by omega) (by simpa using hs)]; rfl
      exact key _ (Nat.le_refl _)
    · have ih := val_prefix (u := u) (v := v) h1 (n := n) (by omega) fun k a b => h2 k a (by omega)
      simp only [val, ih]
      by_cases hs : S n = true
      · simp only [hs, if_true]
        rw [h2 n (by omega) (by omega) hs]; rfl
      · simp only [hs, if_false, Bool.false_eq_true]

def apart (e f : Ent) : Prop := (∀ id, id ∈ e.wr → id ∉ f.rd ∧ id ∉ f.wr) ∧ (∀ id, id ∈ f.wr → id ∉ e.rd ∧ id ∉ e.wr) ∧ (∀ t, t ∈ e.tk → t ∉ f.tk)

theorem apart.symm {e f : Ent} (h : apart e f) : apart f e := ⟨h.2.1, h.1, fun t a b => h.2.2 t b a⟩

def rec0 : Rec := ⟨fun _ => .any, ⟨fun _ => none, 0, [], 0⟩, ⟨fun _ => none, 0, [], 0⟩, ⟨fun _ => none, 0, [], 0⟩, ⟨fun _ => none, 0, [], 0⟩, .any, ent0⟩

def tU (ops : Array Oper) (recs : List Rec) (d : Nat) (i : Nat) : Option AV := if ((ops[i]?).bind (·.dst)) = some d then some (recs.getD i rec0).x else none
def oU (recs : List Rec) (id : Nat) (i : Nat) : Option (Option Obj) :=
  let r := recs.getD i rec0
  if ((r.h1.objs id).isSome ∨ (r.h1.n ≤ id ∧ id < r.h1'.n)) ∧ id ∈ r.en.wr then some (r.h1'.objs id) else none
def kU (recs : List Rec) (t : Nat) (i : Nat) : Option Bool :=
  let r := recs.getD i rec0
  if t ∈ r.h1.toks ∨ t ∈ r.h1'.toks then some (decide (t ∈ r.h1'.toks)) else none

theorem Touch.objs {h h1 h1' h' : H} {en : Ent} (tc : Touch h h1 h1' h' en) (id : Nat) : h'.objs id = if ((h1.objs id).isSome ∨ (h1.n ≤ id ∧ id < h1'.n)) ∧ id ∈ en.wr then h1'.objs id else h.objs id := by
  rw [tc.eq]
  simp only [H.patch]
  by_cases c : ((h1.objs id).isSome ∨ (h1.n ≤ id ∧ id < h1'.n))
  · by_cases hw : id ∈ en.wr
    · simp [c, hw]
    · simp only [c, hw, and_false, if_true, if_false]
      have hs : (h1.objs id).isSome := by
        rcases c with c | c
        · exact c
        · exact absurd (tc.wr id c.1 c.2) hw
      rw [tc.chg id hs hw]
      obtain ⟨o, ho⟩ := Option.isSome_iff_exists.1 hs
      rw [ho, tc.sub.1 id o ho]
  · simp [c]

theorem Touch.toks {h h1 h1' h' : H} {en : Ent} (tc : Touch h h1 h1' h' en) (t : Nat) : t ∈ h'.toks ↔ (t ∈ h1'.toks ∨ (t ∈ h.toks ∧ t ∉ h1.toks)) := by
  rw [tc.eq]
  simp [H.patch, List.mem_append, List.mem_filter]

theorem chain_facts : ∀ {i : Nat} {recs : List Rec} {t t' : Tm} {h h' : H}, Chain P ops i recs t h t' h' → i + recs.length = ops.size ∧ (∀ k r, recs[k]? = some r → ∃ o, ops[i + k]? = some o ∧ Touch r.h r.h1 r.h1' r.h' r.en ∧ ItRun P ops (i + k) o r.t r.h1 r.x r.h1') ∧
    (∀ r, recs[0]? = some r → r.t = t ∧ r.h = h) ∧ (∀ k r r', recs[k]? = some r → recs[k + 1]? = some r' → r'.t = putT r.t ((ops[i + k]?).bind (·.dst)) r.x ∧ r'.h = r.h') ∧
    (∀ r, recs.getLast? = some r → t' = putT r.t ((ops[i + (recs.length - 1)]?).bind (·.dst)) r.x ∧ h' = r.h') ∧ (recs = [] → t' = t ∧ h' = h) := by
  intro i recs t t' h h' hc
  induction hc with
  | nil hi => exact ⟨by simpa using hi, by simp, by simp, by simp, by simp, by simp⟩
  | @cons i o r rs t t' h h' ho e1 e2 tc run rest ih =>
    obtain ⟨a1, a2, a3, a4, a5, a6⟩ := ih
    subst e1 e2
    refine ⟨by simp; omega, ?_, by simp, ?_, ?_, by simp⟩
    · intro k q hq
      cases k with
      | zero => simp at hq; subst hq; exact ⟨o, by simpa using ho, tc, by simpa using run⟩
      | succ k =>
        simp at hq
        have := a2 k q hq
        rwa [show i + 1 + k = i + (k + 1) by omega] at this
    · intro k q q' hq hq'
      cases k with
      | zero =>
        simp at hq hq'; subst hq
        obtain ⟨b1, b2⟩ := a3 q' (by simpa using hq')
        exact ⟨by simp [ho, b1], b2⟩
      | succ k =>
        simp at hq hq'
        have := a4 k q q' hq hq'
        rwa [show i + 1 + k = i + (k + 1) by omega] at this
    · intro q hq
      cases rs with
      | nil =>
        simp at hq; subst hq
        obtain ⟨b1, b2⟩ := a6 rfl
        exact ⟨by simp [ho, b1], b2⟩
      | cons r2 rs2 =>
        rw [List.getLast?_cons_cons] at hq
        have := a5 q hq
        simp only [List.length_cons, Nat.add_sub_cancel] at this ⊢
        rwa [show i + 1 + rs2.length = i + (rs2.length + 1) by omega] at this
end
end Go.Av
