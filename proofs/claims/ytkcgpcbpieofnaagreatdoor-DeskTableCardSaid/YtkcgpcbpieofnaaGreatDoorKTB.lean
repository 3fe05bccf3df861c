/- Parts of a proof: a layer of abstract values over the model, the functions' walks, plain laws. -/
import Derived.Deep.CondSized
import Derived.Deep.DeepHandedRow
import Derived.IntWalk
import Derived.KernelRfl
import Derived.Laws.Append
import Derived.Laws.AppendOwn
import Derived.Laws.BytesArg
import Derived.Laws.ComplexArith
import Derived.Laws.Cover3
import Derived.Laws.Entries
import Derived.Laws.FloatBits
import Derived.Laws.IdiomCopy
import Derived.Laws.IdiomStrings
import Derived.Laws.Pointers
import Derived.Laws.Small
import Derived.Laws.Strings
import Derived.Laws.StructEq
import Derived.Lib.LaidTab
import Derived.MapKept
import Derived.OpenShut
import Derived.Orders
import Derived.OrdersIn
import Derived.ProofKit
import Derived.RangeFuncRecord
import Derived.RangeFuncSeq
import Derived.ReadAgain
import Derived.Scope
import Derived.Shelf.Slices.Cells
import Derived.Shelf.Spec.SlicesInsertGrow
import Derived.SizedLaws
import Derived.Test.YtkcgpcbpieofnaaGreatDoorCards
import Derived.Test.YtkcgpcbpieofnaaGreatDoorProg
import Derived.Test.YtkcgpcbpieofnaaGreatDoorTie
import Derived.Test.YtkcgpcbpieofnaaGreatDoorKTA
section
set_option linter.unusedVariables false
set_option linter.unusedSimpArgs false
namespace Go.Av
section
variable {P : Program} {ops : Array Oper}
def rd (ro : Option Nat) : Fence := { Fence.wide with round := ro }
def names (ops : Array Oper) (o : Oper) : List Nat :=
  o.dst.toList ++ (o.op.operands.toList.filterMap fun | .tmp t => some t | _ => none) ++ (match o.guard with | some (j, _) => ((ops[j]?).bind (·.dst)).toList | none => [])
def TOn (l : List Nat) (G : Ghost) (w : World) (t : Tm) (a : Act) : Prop := ∀ i ∈ l, VRel G w (t i) (a.tmps.getD i undef)
def putT (t : Tm) (d : Option Nat) (x : AV) : Tm :=
  match d with
  | some d => upd t d x
  | none => t
structure Rec where
  t : Tm
  h : H
  h1 : H
  h1' : H
  h' : H
  x : AV
  en : Ent
def ItRun (P : Program) (ops : Array Oper) (i : Nat) (o : Oper) (t : Tm) (h1 : H) (x : AV) (h1' : H) : Prop :=
  ∀ G w a, TOn (names ops o) G w t a → RepH G h1 w → Fresh G h1 h1' → ∀ (K : Act → World → Prop) Q,
    (∀ G' w' v, Trans G w h1 G' w' h1' → RepH G' h1' w' → VRel G' w' x v → K (a.put o.dst v) w') → ∀ ro, wpOpIn (rd ro) 0 P ops Q i K a w
def PanRun (P : Program) (ops : Array Oper) (i : Nat) (o : Oper) (t : Tm) (h1 : H) (v : Value) (h1' : H) : Prop :=
  ∀ G w a, TOn (names ops o) G w t a → RepH G h1 w → Fresh G h1 h1' → ∀ (K : Act → World → Prop) Q,
    (∀ G' w', Trans G w h1 G' w' h1' → RepH G' h1' w' → Q (.panic [{ v := v, recovered := false }]) a w') → ∀ ro, wpOpIn (rd ro) 0 P ops Q i K a w
inductive ChainD (P : Program) (ops : Array Oper) (D : Nat → Bool) : Nat → List Rec → Tm → H → Tm → H → Prop where
  | nil {i : Nat} {t : Tm} {h : H} (hi : i = ops.size) : ChainD P ops D i [] t h t h
  | cons {i : Nat} {o : Oper} {r : Rec} {rs : List Rec} {t t' : Tm} {h h' : H} (ho : ops[i]? = some o) (e1 : r.t = t) (e2 : r.h = h) (tc : Touch h r.h1 r.h1' r.h' r.en) (run : D i = false → ItRun P ops i o t r.h1 r.x r.h1')
      (rest : ChainD P ops D (i + 1) rs (putT t o.dst r.x) r.h' t' h') : ChainD P ops D i (r :: rs) t h t' h'
abbrev Chain (P : Program) (ops : Array Oper) : Nat → List Rec → Tm → H → Tm → H → Prop := ChainD P ops fun _ => false
theorem put_size (a : Act) (d : Option Nat) (v : Value) : (a.put d v).tmps.size = a.tmps.size := by
  cases d <;> simp [Act.put]
theorem put_defers (a : Act) (d : Option Nat) (v : Value) : (a.put d v).defers = a.defers := by
  cases d <;> simp [Act.put]
theorem put_rel {G : Ghost} {w : World} {t : Tm} {a : Act} {d : Option Nat} {x : AV} {v : Value} (ht : TRel G w t a) (hv : VRel G w x v) (hd : ∀ k, d = some k → k < a.tmps.size) : TRel G w (putT t d x) (a.put d v) := by
  intro i
  cases d with
  | none => exact ht i
  | some k =>
    have hk := hd k rfl
    simp only [putT, upd, Act.put]
    by_cases e : i = k
    · subst e
      simp [Array.getElem?_setIfInBounds, hk]
      exact hv
    · have := ht i
      simp only [if_neg e]
      have e2 : (a.tmps.setIfInBounds k v).getD i undef = a.tmps.getD i undef := by
        simp [Array.getElem?_setIfInBounds, Ne.symm e]
      rw [e2]; exact this
theorem TRel.mono {G G' : Ghost} {w w' : World} {h h' : H} {t : Tm} {a : Act} (R : RepH G h w) (T : Trans G w h G' w' h') (ht : TRel G w t a) : TRel G' w' t a := fun i => VRel.mono R T _ _ (ht i)
theorem chain_nm {D : Nat → Bool} : ∀ {i : Nat} {recs : List Rec} {t t' : Tm} {h h' : H}, ChainD P ops D i recs t h t' h' → (h.n ≤ h'.n ∧ h.m ≤ h'.m) ∧
    (∀ (k : Nat) (r : Rec), recs[k]? = some r → (h.n ≤ r.h1.n ∧ r.h1'.n ≤ h'.n) ∧ (h.m ≤ r.h1.m ∧ r.h1'.m ≤ h'.m)) ∧
    (∀ (k l : Nat) (r s : Rec), k < l → recs[k]? = some r → recs[l]? = some s → r.h1'.n ≤ s.h1.n ∧ r.h1'.m ≤ s.h1.m) := by
  intro i recs t t' h h' hc
  induction hc with
  | nil hi => exact ⟨⟨Nat.le_refl _, Nat.le_refl _⟩, by simp, by simp⟩
  | @cons i o r rs t t' h h' ho e1 e2 tc run rest ih =>
    obtain ⟨⟨a1, a2⟩, a3, a4⟩ := ih
    have n1 := tc.n
    have m1 := tc.m
    have n2 : r.h'.n = r.h1'.n := by rw [tc.eq]; rfl
    have m2 : r.h'.m = r.h1'.m := by rw [tc.eq]; rfl
    have n3 := tc.le
    have m3 := tc.lem
    refine ⟨⟨by omega, by omega⟩, ?_, ?_⟩
    · intro k q hq
      cases k with
      | zero => simp at hq; subst hq; exact ⟨⟨by omega, by omega⟩, ⟨by omega, by omega⟩⟩
      | succ k =>
        simp at hq
        obtain ⟨⟨b1, b2⟩, b3, b4⟩ := a3 k q hq
        exact ⟨⟨by omega, by omega⟩, ⟨by omega, by omega⟩⟩
    · intro k l q s hkl hq hs
      cases l with
      | zero => omega
      | succ l =>
        simp at hs
        cases k with
        | zero =>
          simp at hq; subst hq
          obtain ⟨⟨b1, b2⟩, b3, b4⟩ := a3 l s hs
          exact ⟨by omega, by omega⟩
        | succ k =>
          simp at hq
          exact a4 k l q s (by omega) hq hs
theorem Fresh.sub {G : Ghost} {h h' k k' : H} (F : Fresh G h h') (a : h.n ≤ k.n) (b : k'.n ≤ h'.n) (c : h.m ≤ k.m) (d : k'.m ≤ h'.m) : Fresh G k k' :=
  ⟨fun id x y => F.1 id (by omega) (by omega), fun t x y => F.2 t (by omega) (by omega)⟩
theorem Fresh.step {G G' : Ghost} {w w' : World} {h h1 h' : H} (F : Fresh G h h') (T : Trans G w h G' w' h1) : Fresh G' h1 h' := by
  constructor
  · intro id x y hd
    rcases T.dom_new id hd with z | ⟨z1, z2⟩
    · exact F.1 id (Nat.le_trans T.n_le x) y z
    · omega
  · intro id x y hd
    rcases T.tdom_new id hd with z | ⟨z1, z2⟩
    · exact F.2 id (Nat.le_trans T.m_le x) y z
    · omega
theorem chain_seq (ro : Option Nat) {N : Nat} {Q : Exit → Act → World → Prop} (hN : ∀ (i : Nat) o d, ops[i]? = some o → o.dst = some d → d < N) : ∀ {i : Nat} {recs : List Rec} {t t' : Tm} {h h' : H}, Chain P ops i recs t h t' h' →
    ∀ (G : Ghost) (w : World) (a : Act), a.tmps.size = N → TRel G w t a → RepH G h w → Fresh G h h' →
      (∀ G' w' a', Trans G w h G' w' h' → TRel G' w' t' a' → RepH G' h' w' → a'.tmps.size = N → a'.defers = a.defers → Q .normal a' w') → wpOpsIn (rd ro) 0 P ops Q (List.range' i (ops.size - i)) a w := by
  intro i recs t t' h h' hc
  induction hc with
  | nil hi =>
    intro G w a hs ht R U hq
    subst hi
    simp only [Nat.sub_self, List.range'_zero, wpOpsIn]
    exact hq G w a (Trans.refl _ _ _) ht R hs rfl
  | @cons i o r rs t t' h h' ho e1 e2 tc run rest ih =>
    intro G w a hs ht R U hq
    have hi : i < ops.size := (Array.getElem?_eq_some_iff.1 ho).1
    have : ops.size - i = (ops.size - (i + 1)) + 1 := by omega
    rw [this, List.range'_succ, wpOpsIn_cons]
    have nm := (chain_nm rest).1
    have e3 : r.h'.n = r.h1'.n := by rw [tc.eq]; rfl
    have e4 : r.h'.m = r.h1'.m := by rw [tc.eq]; rfl
    have F : Fresh G r.h1 r.h1' := U.sub (by rw [tc.n]; exact Nat.le_refl _) (by omega) (by rw [tc.m]; exact Nat.le_refl _) (by omega)
    refine run rfl G w a (fun k _ => ht k) (R.sub tc.sub) F _ Q (fun G' w' v T1 R1 V => ?_) ro
    obtain ⟨R2, T2⟩ := frame R tc.sub tc.n tc.m R1 T1 F
    rw [← tc.eq] at R2 T2
    refine ih G' w' _ (by rw [put_size]; exact hs) (put_rel (ht.mono R T2) V fun k hk => by rw [hs]; exact hN i o k ho hk) R2 (U.step T2) fun G'' w'' a'' T3 h1 h2 h3 h4 => ?_
    exact hq G'' w'' a'' (T2.trans R R2 T3) h1 h2 h3 (h4.trans (put_defers _ _ _))
def val {β : Type} (u : Nat → Option β) (S : Nat → Bool) : Nat → β → β
  | 0, v => v
  | k + 1, v => if S k then (u k).getD (val u S k v) else val u S k v
theorem val_congr {β : Type} {u : Nat → Option β} {S S' : Nat → Bool} {v : β} : ∀ {n : Nat}, (∀ k, k < n → S k = S' k) → val u S n v = val u S' n v
  | 0, _ => rfl
  | n + 1, h => by simp only [val, h n (by omega), val_congr (n := n) fun k hk => h k (by omega)]
theorem val_insert {β : Type} {u : Nat → Option β} {S S' : Nat → Bool} {v : β} {i : Nat} (hS : S i = false) (hS' : ∀ k, S' k = (S k || k == i)) :
    ∀ {n : Nat}, i < n → (∀ j, i < j → j < n → S j = true → u i ≠ none → u j = none) → val u S' n v = (u i).getD (val u S n v)
  | 0, h, _ => by omega
  | n + 1, h, hu => by
    by_cases e : n = i
    · subst e
      simp only [val, hS, hS']
      simp only [Bool.false_or, BEq.rfl, if_true, Bool.false_eq_true, if_false]
      rw [val_congr (S := S') (S' := S)]
      intro k hk
      rw [hS']
      have : (k == n) = false := by simp; omega
      simp [this]
    · have ih := val_insert (u := u) (v := v) hS hS' (n := n) (by omega) fun j a b => hu j a (by omega)
      have en : (n == i) = false := by simp; exact e
      simp only [val, hS', en, Bool.or_false, ih]
      by_cases hSn : S n = true
      · simp only [hSn, if_true]
        have := hu n (by omega) (by omega) hSn
        cases hui : u i with
        | none => rfl
        | some y => rw [this (by simp [hui])]; rfl
      · simp only [hSn, if_false, Bool.false_eq_true]
theorem val_prefix {β : Type} {u : Nat → Option β} {S : Nat → Bool} {v : β} {j : Nat} (h1 : ∀ k, k < j → S k = false → u k = none) : ∀ {n : Nat}, j ≤ n → (∀ k, j ≤ k → k < n → S k = true → u k = none) → val u S n v = val u (fun _ => true) j v
  | 0, h, _ => by
    have : j = 0 := by omega
    subst this; rfl
  | n + 1, h, h2 => by
    by_cases e : j = n + 1
    · subst e
      have key : ∀ m, m ≤ n + 1 → val u S m v = val u (fun _ => true) m v := by
        intro m
        induction m with
        | zero => intro _; rfl
        | succ m ih =>
          intro hm
          simp only [val, ih (by omega), if_true]
          by_cases hs : S m = true
          · simp [hs]
          · simp only [hs, if_false, Bool.false_eq_true]
            rw [h1 m (by omega) (by simpa using hs)]; rfl
      exact key _ (Nat.le_refl _)
    · have ih := val_prefix (u := u) (v := v) h1 (n := n) (by omega) fun k a b => h2 k a (by omega)
      simp only [val, ih]
      by_cases hs : S n = true
      · simp only [hs, if_true]
        rw [h2 n (by omega) (by omega) hs]; rfl
      · simp only [hs, if_false, Bool.false_eq_true]
def apart (e f : Ent) : Prop := (∀ id, id ∈ e.wr → id ∉ f.rd ∧ id ∉ f.wr) ∧ (∀ id, id ∈ f.wr → id ∉ e.rd ∧ id ∉ e.wr) ∧ (∀ t, t ∈ e.tk → t ∉ f.tk)
theorem apart.symm {e f : Ent} (h : apart e f) : apart f e := ⟨h.2.1, h.1, fun t a b => h.2.2 t b a⟩
def rec0 : Rec := ⟨fun _ => .any, ⟨fun _ => none, 0, [], 0⟩, ⟨fun _ => none, 0, [], 0⟩, ⟨fun _ => none, 0, [], 0⟩, ⟨fun _ => none, 0, [], 0⟩, .any, ent0⟩
def tU (ops : Array Oper) (recs : List Rec) (d : Nat) (i : Nat) : Option AV := if ((ops[i]?).bind (·.dst)) = some d then some (recs.getD i rec0).x else none
def oU (recs : List Rec) (id : Nat) (i : Nat) : Option (Option Obj) :=
  let r := recs.getD i rec0
  if ((r.h1.objs id).isSome ∨ (r.h1.n ≤ id ∧ id < r.h1'.n)) ∧ id ∈ r.en.wr then some (r.h1'.objs id) else none
def kU (recs : List Rec) (t : Nat) (i : Nat) : Option Bool :=
  let r := recs.getD i rec0
  if t ∈ r.h1.toks ∨ t ∈ r.h1'.toks then some (decide (t ∈ r.h1'.toks)) else none
theorem Touch.objs {h h1 h1' h' : H} {en : Ent} (tc : Touch h h1 h1' h' en) (id : Nat) : h'.objs id = if ((h1.objs id).isSome ∨ (h1.n ≤ id ∧ id < h1'.n)) ∧ id ∈ en.wr then h1'.objs id else h.objs id := by
  rw [tc.eq]
  simp only [H.patch]
  by_cases c : ((h1.objs id).isSome ∨ (h1.n ≤ id ∧ id < h1'.n))
  · by_cases hw : id ∈ en.wr
    · simp [c, hw]
    · simp only [c, hw, and_false, if_true, if_false]
      have hs : (h1.objs id).isSome := by
        rcases c with c | c
        · exact c
        · exact absurd (tc.wr id c.1 c.2) hw
      rw [tc.chg id hs hw]
      obtain ⟨o, ho⟩ := Option.isSome_iff_exists.1 hs
      rw [ho, tc.sub.1 id o ho]
  · simp [c]
theorem Touch.toks {h h1 h1' h' : H} {en : Ent} (tc : Touch h h1 h1' h' en) (t : Nat) : t ∈ h'.toks ↔ (t ∈ h1'.toks ∨ (t ∈ h.toks ∧ t ∉ h1.toks)) := by
  rw [tc.eq]
  simp [H.patch, List.mem_append, List.mem_filter]
theorem chain_facts {D : Nat → Bool} : ∀ {i : Nat} {recs : List Rec} {t t' : Tm} {h h' : H}, ChainD P ops D i recs t h t' h' → i + recs.length = ops.size ∧ (∀ k r, recs[k]? = some r → ∃ o, ops[i + k]? = some o ∧ Touch r.h r.h1 r.h1' r.h' r.en ∧ (D (i + k) = false → ItRun P ops (i + k) o r.t r.h1 r.x r.h1')) ∧
    (∀ r, recs[0]? = some r → r.t = t ∧ r.h = h) ∧ (∀ k r r', recs[k]? = some r → recs[k + 1]? = some r' → r'.t = putT r.t ((ops[i + k]?).bind (·.dst)) r.x ∧ r'.h = r.h') ∧
    (∀ r, recs.getLast? = some r → t' = putT r.t ((ops[i + (recs.length - 1)]?).bind (·.dst)) r.x ∧ h' = r.h') ∧ (recs = [] → t' = t ∧ h' = h) := by
  intro i recs t t' h h' hc
  induction hc with
  | nil hi => exact ⟨by simpa using hi, by simp, by simp, by simp, by simp, by simp⟩
  | @cons i o r rs t t' h h' ho e1 e2 tc run rest ih =>
    obtain ⟨a1, a2, a3, a4, a5, a6⟩ := ih
    subst e1 e2
    refine ⟨by simp; omega, ?_, by simp, ?_, ?_, by simp⟩
    · intro k q hq
      cases k with
      | zero => simp at hq; subst hq; exact ⟨o, by simpa using ho, tc, by simpa using run⟩
      | succ k =>
        simp at hq
        have := a2 k q hq
        rwa [show i + 1 + k = i + (k + 1) by omega] at this
    · intro k q q' hq hq'
      cases k with
      | zero =>
        simp at hq hq'; subst hq
        obtain ⟨b1, b2⟩ := a3 q' (by simpa using hq')
        exact ⟨by simp [ho, b1], b2⟩
      | succ k =>
        simp at hq hq'
        have := a4 k q q' hq hq'
        rwa [show i + 1 + k = i + (k + 1) by omega] at this
    · intro q hq
      cases rs with
      | nil =>
        simp at hq; subst hq
        obtain ⟨b1, b2⟩ := a6 rfl
        exact ⟨by simp [ho, b1], b2⟩
      | cons r2 rs2 =>
        rw [List.getLast?_cons_cons] at hq
        have := a5 q hq
        simp only [List.length_cons, Nat.add_sub_cancel] at this ⊢
        rwa [show i + 1 + rs2.length = i + (rs2.length + 1) by omega] at this
end
end Go.Av
end
section
set_option linter.unusedVariables false
set_option linter.unusedSimpArgs false
namespace Go.Av
section
variable {P : Program} {ops : Array Oper}
def isAnc (ops : Array Oper) (i j : Nat) : Bool := ((Region.before ops).getD j 0).testBit i
structure Prefixes (ops : Array Oper) (recs : List Rec) (t0 : Tm) (h0 : H) (i : Nat) (t : Tm) (h : H) : Prop where
  t : ∀ d, t d = val (tU ops recs d) (fun _ => true) i (t0 d)
  o : ∀ id, h.objs id = val (oU recs id) (fun _ => true) i (h0.objs id)
  k : ∀ tk, decide (tk ∈ h.toks) = val (kU recs tk) (fun _ => true) i (decide (tk ∈ h0.toks))
theorem prefix_step {recs : List Rec} {t0 : Tm} {h0 : H} {i : Nat} {r : Rec} (hr : recs[i]? = some r) (tc : Touch r.h r.h1 r.h1' r.h' r.en) (p : Prefixes ops recs t0 h0 i r.t r.h) :
    Prefixes ops recs t0 h0 (i + 1) (putT r.t ((ops[i]?).bind (·.dst)) r.x) r.h' := by
  have hg : recs.getD i rec0 = r := by simp [List.getD, hr]
  constructor
  · intro d
    simp only [val, if_true, tU, hg, ← p.t]
    cases e : (ops[i]?).bind (·.dst) with
    | none => simp [putT]
    | some k =>
      simp only [putT, upd]
      by_cases hd : d = k
      · subst hd; simp
      · rw [if_neg hd, if_neg (by simpa using Ne.symm hd)]; rfl
  · intro id
    simp only [val, if_true, oU, hg, ← p.o, tc.objs id]
    split <;> rfl
  · intro tk
    simp only [val, if_true, kU, hg, ← p.k]
    have := tc.toks tk
    by_cases c : tk ∈ r.h1.toks ∨ tk ∈ r.h1'.toks
    · rw [if_pos c]
      simp only [Option.getD_some, decide_eq_decide, this]
      constructor
      · rintro (h | ⟨h1, h2⟩)
        · exact h
        · exact c.resolve_left h2
      · exact .inl
    · rw [if_neg c]
      simp only [Option.getD_none, decide_eq_decide, this]
      simp only [not_or] at c
      constructor
      · rintro (h | h)
        · exact absurd h c.2
        · exact h.1
      · intro h; exact .inr ⟨h, c.1⟩
theorem prefixes {D : Nat → Bool} {recs : List Rec} {t0 t' : Tm} {h0 h' : H} (hc : ChainD P ops D 0 recs t0 h0 t' h') : (∀ i r, recs[i]? = some r → Prefixes ops recs t0 h0 i r.t r.h) ∧ Prefixes ops recs t0 h0 ops.size t' h' := by
  obtain ⟨a1, a2, a3, a4, a5, a6⟩ := chain_facts hc
  have base : Prefixes ops recs t0 h0 0 t0 h0 := ⟨fun _ => rfl, fun _ => rfl, fun _ => rfl⟩
  have key : ∀ i r, recs[i]? = some r → Prefixes ops recs t0 h0 i r.t r.h := by
    intro i
    induction i with
    | zero => intro r hr; obtain ⟨e1, e2⟩ := a3 r hr; rw [e1, e2]; exact base
    | succ i ih =>
      intro r' hr'
      have hlt : i < recs.length := by
        have : i + 1 < recs.length := by
          rcases Nat.lt_or_ge (i + 1) recs.length with h | h
          · exact h
          · rw [List.getElem?_eq_none h] at hr'; cases hr'
        omega
      obtain ⟨o, _, tc, _⟩ := a2 i recs[i] (List.getElem?_eq_getElem hlt)
      obtain ⟨e1, e2⟩ := a4 i recs[i] r' (List.getElem?_eq_getElem hlt) hr'
      rw [e1, e2]
      simpa using prefix_step (List.getElem?_eq_getElem hlt) tc (ih _ (List.getElem?_eq_getElem hlt))
  refine ⟨key, ?_⟩
  by_cases he : recs = []
  · obtain ⟨e1, e2⟩ := a6 he
    subst he
    simp at a1
    rw [e1, e2, ← a1]; exact base
  · have hpos : 0 < recs.length := List.length_pos_iff.2 he
    have hlt : recs.length - 1 < recs.length := by omega
    have hl : recs.getLast? = some recs[recs.length - 1] := by
      rw [List.getLast?_eq_getElem?]; exact List.getElem?_eq_getElem hlt
    obtain ⟨e1, e2⟩ := a5 _ hl
    obtain ⟨o, _, tc, _⟩ := a2 _ _ (List.getElem?_eq_getElem hlt)
    have := prefix_step (List.getElem?_eq_getElem hlt) tc (key _ _ (List.getElem?_eq_getElem hlt))
    rw [e1, e2]
    simp only [Nat.zero_add] at this a1 ⊢
    have hn : recs.length - 1 + 1 = ops.size := by omega
    rwa [hn] at this
structure Tidy (ops : Array Oper) : Prop where
  back : ∀ (i : Nat) o, ops[i]? = some o → ∀ e ∈ o.after, Region.binds .any e = true → e.on < i
  anc : ∀ (i : Nat) o, ops[i]? = some o → ∀ j, isAnc ops j i = true → ∃ e ∈ o.after, Region.binds .any e = true ∧ (j = e.on ∨ isAnc ops j e.on = true)
  tmp : ∀ (i j : Nat) o o', ops[i]? = some o → ops[j]? = some o' → i ≠ j → ∀ d, o.dst = some d → d ∈ names ops o' → isAnc ops i j = true ∨ isAnc ops j i = true
def Closed (ops : Array Oper) (S : Nat → Bool) : Prop := ∀ (i : Nat) o, ops[i]? = some o → S i = true → ∀ e ∈ o.after, Region.binds .any e = true → S e.on = true
theorem anc_in {S : Nat → Bool} (T : Tidy ops) (hS : Closed ops S) : ∀ (i : Nat) o, ops[i]? = some o → (∀ e ∈ o.after, Region.binds .any e = true → S e.on = true) → ∀ j, isAnc ops j i = true → S j = true := by
  intro i
  induction i using Nat.strongRecOn with
  | _ i ih =>
    intro o ho he j hj
    obtain ⟨e, hm, hbd, h⟩ := T.anc i o ho j hj
    rcases h with rfl | h
    · exact he e hm hbd
    · have hlt := T.back i o ho e hm hbd
      have hsz : e.on < ops.size := Nat.lt_trans hlt (Array.getElem?_eq_some_iff.1 ho).1
      exact ih e.on hlt ops[e.on] (Array.getElem?_eq_getElem hsz) (fun e' he' => hS e.on _ (Array.getElem?_eq_getElem hsz) (he e hm hbd) e' he') j h
def HS (recs : List Rec) (h0 : H) (n : Nat) (ne me : Nat) (S : Nat → Bool) : H where
  objs id := val (oU recs id) S n (h0.objs id)
  n := ne
  toks := (h0.toks ++ recs.flatMap (fun r => r.h1'.toks)).filter fun t => val (kU recs t) S n (decide (t ∈ h0.toks))
  m := me
theorem val_true_some {u : Nat → Option Bool} {S : Nat → Bool} : ∀ {n : Nat}, val u S n false = true → ∃ i, i < n ∧ u i = some true
  | 0, h => by simp [val] at h
  | n + 1, h => by
    simp only [val] at h
    by_cases hs : S n = true
    · simp only [hs, if_true] at h
      cases hu : u n with
      | none => rw [hu] at h; obtain ⟨i, a, b⟩ := val_true_some (n := n) h; exact ⟨i, by omega, b⟩
      | some y => rw [hu] at h; simp at h; subst h; exact ⟨n, by omega, hu⟩
    · simp only [hs, if_false, Bool.false_eq_true] at h
      obtain ⟨i, a, b⟩ := val_true_some (n := n) h; exact ⟨i, by omega, b⟩
theorem mem_HS {recs : List Rec} {h0 : H} {n ne me : Nat} {S : Nat → Bool} (hn : n = recs.length) (t : Nat) : t ∈ (HS recs h0 n ne me S).toks ↔ val (kU recs t) S n (decide (t ∈ h0.toks)) = true := by
  simp only [HS, List.mem_filter, List.mem_append, List.mem_flatMap]
  refine ⟨fun h => h.2, fun h => ⟨?_, h⟩⟩
  by_cases h0t : t ∈ h0.toks
  · exact .inl h0t
  · rw [decide_eq_false h0t] at h
    obtain ⟨i, hi, hu⟩ := val_true_some h
    rw [hn] at hi
    refine .inr ⟨recs[i], List.getElem_mem hi, ?_⟩
    simp only [kU, List.getD, List.getElem?_eq_getElem hi, Option.getD_some] at hu
    split at hu
    · simpa using hu
    · cases hu
def count (n : Nat) (S : Nat → Bool) : Nat := ((List.range n).filter fun k => !S k).length
theorem count_insert {n i : Nat} {S S' : Nat → Bool} (hS : S i = false) (hS' : ∀ k, S' k = (S k || k == i)) (hi : i < n) : count n S' + 1 = count n S := by
  unfold count
  induction n with
  | zero => omega
  | succ n ih =>
    simp only [List.range_succ, List.filter_append, List.length_append]
    by_cases e : n = i
    · subst e
      have : (List.range n).filter (fun k => !S' k) = (List.range n).filter (fun k => !S k) := by
        apply List.filter_congr
        intro k hk
        have : (k == n) = false := by simp at hk ⊢; omega
        simp [hS', this]
      rw [this]
      simp [hS', hS]
    · have := ih (by omega)
      have en : (n == i) = false := by simp; exact e
      have e2 : ([n].filter fun k => !S' k) = [n].filter fun k => !S k := by simp [List.filter_cons, hS', en]
      rw [e2]
      omega
theorem count_zero {n : Nat} {S : Nat → Bool} (h : count n S = 0) : ∀ k, k < n → S k = true := by
  intro k hk
  unfold count at h
  rw [List.length_eq_zero_iff, List.filter_eq_nil_iff] at h
  simpa using h k (by simpa using hk)
theorem ready_iff (ops : Array Oper) (listed : Array Bool) (T : Tidy ops) {i : Nat} {o : Oper} (ho : ops[i]? = some o) : i ∈ Region.ready .any ops listed ↔ listed.getD i true = false ∧ ∀ e ∈ o.after, Region.binds .any e = true → listed.getD e.on false = true := by
  have hi : i < ops.size := (Array.getElem?_eq_some_iff.1 ho).1
  simp only [Region.ready, List.mem_filter, List.mem_range, hi, true_and, ho, Option.map_some, Option.getD_some, Bool.and_eq_true, Bool.not_eq_true']
  refine and_congr_right fun _ => ?_
  rw [Array.all_eq_true_iff_forall_mem]
  constructor
  · intro h e he hb
    have := h e he
    simpa [hb] using this
  · intro h e he
    cases hb : Region.binds .any e with
    | false => rfl
    | true => simp [h e he hb]
theorem anc_lt (T : Tidy ops) {k : Nat} : ∀ (q : Nat) oq, ops[q]? = some oq → isAnc ops k q = true → k < q := by
  intro q
  induction q using Nat.strongRecOn with
  | _ q ihq =>
    intro oq hoq hq'
    obtain ⟨e, hm, hbd, hh⟩ := T.anc q oq hoq k hq'
    have hb := T.back q oq hoq e hm hbd
    rcases hh with rfl | hh
    · exact hb
    · have hsz : e.on < ops.size := Nat.lt_trans hb (Array.getElem?_eq_some_iff.1 hoq).1
      exact Nat.lt_trans (ihq e.on hb _ (Array.getElem?_eq_getElem hsz) hh) hb
theorem chain_any (ro : Option Nat) {D : Nat → Bool} {pj : Nat} {pv : Value} {N : Nat} {Q : Exit → Act → World → Prop} (hN : ∀ (i : Nat) o d, ops[i]? = some o → o.dst = some d → d < N) (T : Tidy ops) {recs : List Rec} {t0 t' : Tm} {h0 h' : H} (hc : ChainD P ops D 0 recs t0 h0 t' h')
    (ap : ∀ i j, i < j → j < ops.size → isAnc ops i j = false → apart (recs.getD i rec0).en (recs.getD j rec0).en)
    {G0 : Ghost} {w0 : World} {a0 : Act} (R0 : RepH G0 h0 w0) (F0 : Fresh G0 h0 h')
    (hq : (∀ i, D i = false) → ∀ G' w' a', Trans G0 w0 h0 G' w' h' → TRel G' w' t' a' → RepH G' h' w' → a'.tmps.size = N → a'.defers = a0.defers → Q .normal a' w')
    (hD : ∀ i, D i = true → (D pj = true ∧ pj < ops.size) ∧ (i = pj ∨ ∃ k, D k = true ∧ isAnc ops k i = true))
    (hP : D pj = true → ∀ o r, ops[pj]? = some o → recs[pj]? = some r → PanRun P ops pj o r.t r.h1 pv r.h1' ∧ (∀ k, k < ops.size → k ≠ pj → isAnc ops k pj = false → isAnc ops pj k = false → (recs.getD k rec0).en.wr = [] ∧ (recs.getD k rec0).en.tk = []) ∧
      ∀ G' w' a', Trans G0 w0 h0 G' w' { r.h' with n := h'.n, m := h'.m } → RepH G' { r.h' with n := h'.n, m := h'.m } w' → a'.tmps.size = N → a'.defers = a0.defers → Q (.panic [{ v := pv, recovered := false }]) a' w') :
    ∀ (fuel : Nat) (listed : Array Bool) (G : Ghost) (w : World) (a : Act), listed.size = ops.size → count ops.size (fun k => listed.getD k false) ≤ fuel → Closed ops (fun k => listed.getD k false) → (∀ k, D k = true → listed.getD k false = false) →
      a.tmps.size = N → a.defers = a0.defers → (∀ d, VRel G w (val (tU ops recs d) (fun k => listed.getD k false) ops.size (t0 d)) (a.tmps.getD d undef)) →
      RepH G (HS recs h0 ops.size h'.n h'.m (fun k => listed.getD k false)) w → Trans G0 w0 h0 G w (HS recs h0 ops.size h'.n h'.m (fun k => listed.getD k false)) →
      (∀ id, G.dom id → G0.dom id ∨ ∃ k, k < ops.size ∧ listed.getD k false = true ∧ (recs.getD k rec0).h1.n ≤ id ∧ id < (recs.getD k rec0).h1'.n) →
      (∀ id, G.tdom id → G0.tdom id ∨ ∃ k, k < ops.size ∧ listed.getD k false = true ∧ (recs.getD k rec0).h1.m ≤ id ∧ id < (recs.getD k rec0).h1'.m) →
      wpAnyIn (rd ro) 0 P .any ops Q fuel listed a w := by
  obtain ⟨a1, a2, a3, a4, a5, a6⟩ := chain_facts hc
  obtain ⟨pre, preEnd⟩ := prefixes hc
  rw [Nat.zero_add] at a1
  -- everything has run
  have full : ∀ (listed : Array Bool) (G : Ghost) (w : World) (a : Act), (∀ k, k < ops.size → listed.getD k false = true) → (∀ k, D k = true → listed.getD k false = false) → a.tmps.size = N → a.defers = a0.defers → (∀ d, VRel G w (val (tU ops recs d) (fun k => listed.getD k false) ops.size (t0 d)) (a.tmps.getD d undef)) →
      RepH G (HS recs h0 ops.size h'.n h'.m (fun k => listed.getD k false)) w → Trans G0 w0 h0 G w (HS recs h0 ops.size h'.n h'.m (fun k => listed.getD k false)) → Q .normal a w := by
    intro listed G w a hall hlj hs hd ht R Tr
    have hDf : ∀ i, D i = false := by
      intro i
      cases hi : D i with
      | false => rfl
      | true =>
        obtain ⟨⟨d1, d2⟩, -⟩ := hD i hi
        have := hlj pj d1
        rw [hall pj d2] at this; cases this
    have ho : (HS recs h0 ops.size h'.n h'.m (fun k => listed.getD k false)).objs = h'.objs := by
      funext id
      simp only [HS]
      rw [val_congr (S' := fun _ => true) hall, ← preEnd.o]
    have hk : ∀ t, t ∈ (HS recs h0 ops.size h'.n h'.m (fun k => listed.getD k false)).toks ↔ t ∈ h'.toks := by
      intro t
      rw [mem_HS a1.symm, val_congr (S' := fun _ => true) hall, ← preEnd.k]
      simp
    refine hq hDf G w a (Tr.same rfl (fun _ => Iff.rfl) ho.symm (fun t => (hk t).symm) (Nat.le_refl _) (Nat.le_refl _) Tr.n_le (Nat.le_refl _) (Nat.le_refl _) Tr.m_le) ?_ (R.same ho.symm fun t x => (hk t).2 x) hs hd
    intro d
    have := ht d
    rwa [val_congr (S' := fun _ => true) hall, ← preEnd.t] at this
  have noready : ∀ (listed : Array Bool), listed.size = ops.size → Region.ready .any ops listed = [] → ∀ k, k < ops.size → listed.getD k false = true := by
    intro listed hls hr k
    induction k using Nat.strongRecOn with
    | _ k ih =>
      intro hk
      cases hl : listed.getD k false with
      | true => rfl
      | false =>
        exfalso
        have ho := Array.getElem?_eq_getElem hk
        have : k ∈ Region.ready .any ops listed := by
          rw [ready_iff ops listed T ho]
          refine ⟨?_, fun e he hbd => ?_⟩
          · have hk' : k < listed.size := by omega
            simp [hk'] at hl ⊢; exact hl
          · have := T.back k _ ho e he hbd
            exact ih e.on this (by omega)
        rw [hr] at this; cases this
  intro fuel
  induction fuel with
  | zero =>
    intro listed G w a hls hcnt hcl hlj hs hd ht R Tr _ _
    have hall := count_zero (Nat.le_zero.1 hcnt)
    refine ⟨?_, full listed G w a hall hlj hs hd ht R Tr⟩
    rw [List.eq_nil_iff_forall_not_mem]
    intro i hi
    have hlt : i < ops.size := by simp [Region.ready] at hi; exact hi.1
    rw [ready_iff ops listed T (Array.getElem?_eq_getElem hlt)] at hi
    have h1 := hall i hlt
    have h2 := hi.1
    have hk' : i < listed.size := by omega
    simp [hk'] at h1 h2
    rw [h1] at h2; cases h2
  | succ fuel ih =>
    intro listed G w a hls hcnt hcl hlj hs hd ht R Tr hdom htdom
    refine ⟨fun hr => full listed G w a (noready listed hls hr) hlj hs hd ht R Tr, fun i hi => ?_⟩
    have hlt : i < ops.size := by simp [Region.ready] at hi; exact hi.1
    have ho := Array.getElem?_eq_getElem hlt
    have hltr : i < recs.length := by omega
    have hr := List.getElem?_eq_getElem hltr
    obtain ⟨o', ho', tc, run⟩ := a2 i _ hr
    rw [Nat.zero_add] at ho' run
    obtain rfl : ops[i] = o' := Option.some.inj (ho.symm.trans ho')
    rw [ready_iff ops listed T ho] at hi
    obtain ⟨hli, hedges⟩ := hi
    have hil : i < listed.size := by omega
    have hSi : listed.getD i false = false := by simp [hil] at hli ⊢; exact hli
    have hgr : recs.getD i rec0 = recs[i] := by simp [List.getD, hr]
    generalize hrr : recs[i] = r at *
    have p := pre i r hr
    -- who runs before though the text has it behind, or has not run though the text has it ahead, is not ordered
    have ancS := anc_in T hcl i _ ho hedges
    have late : ∀ k, i < k → k < ops.size → listed.getD k false = true → isAnc ops i k = false := by
      intro k h1 h2 h3
      cases hb : isAnc ops i k with
      | false => rfl
      | true =>
        have := anc_in T hcl k _ (Array.getElem?_eq_getElem h2) (hcl k _ (Array.getElem?_eq_getElem h2) h3) i hb
        rw [hSi] at this; cases this
    have early : ∀ k, k < i → listed.getD k false = false → isAnc ops k i = false := by
      intro k h1 h3
      cases hb : isAnc ops k i with
      | false => rfl
      | true => rw [ancS k hb] at h3; cases h3
    have apI : ∀ k, k < ops.size → ((k < i ∧ listed.getD k false = false) ∨ (i < k ∧ listed.getD k false = true)) → apart (recs.getD k rec0).en r.en := by
      intro k hk h
      rcases h with ⟨h1, h2⟩ | ⟨h1, h2⟩
      · have := ap k i h1 hlt (early k h1 h2); rwa [hgr] at this
      · have := (ap i k h1 hk (late k h1 hk h2)).symm; rwa [hgr] at this
    -- objects
    have hobj : ∀ id, id ∈ r.en.rd ∨ id ∈ r.en.wr → (HS recs h0 ops.size h'.n h'.m (fun k => listed.getD k false)).objs id = r.h.objs id := by
      intro id hid
      simp only [HS]
      rw [p.o]
      have none_of : ∀ k, k < ops.size → ((k < i ∧ listed.getD k false = false) ∨ (i < k ∧ listed.getD k false = true)) → oU recs id k = none := by
        intro k hk h
        have hap := apI k hk h
        simp only [oU]
        rw [if_neg]
        rintro ⟨_, hw⟩
        have := hap.1 id hw
        rcases hid with h | h
        · exact this.1 h
        · exact this.2 h
      refine val_prefix (fun k h1 h2 => none_of k (by omega) (.inl ⟨h1, h2⟩)) (Nat.le_of_lt hlt) fun k h1 h2 h3 => ?_
      rcases Nat.lt_or_ge i k with h | h
      · exact none_of k h2 (.inr ⟨h, h3⟩)
      · have : k = i := by omega
        subst this
        rw [hSi] at h3; cases h3
    have htok : ∀ t, t ∈ r.en.tk → (t ∈ (HS recs h0 ops.size h'.n h'.m (fun k => listed.getD k false)).toks ↔ t ∈ r.h.toks) := by
      intro t hid
      rw [mem_HS a1.symm]
      have none_of : ∀ k, k < ops.size → ((k < i ∧ listed.getD k false = false) ∨ (i < k ∧ listed.getD k false = true)) → kU recs t k = none := by
        intro k hk h
        have hap := apI k hk h
        have hkr : k < recs.length := by omega
        obtain ⟨ok, _, tck, _⟩ := a2 k _ (List.getElem?_eq_getElem hkr)
        have hgk : recs.getD k rec0 = recs[k] := by simp [List.getD, List.getElem?_eq_getElem hkr]
        rw [hgk] at hap
        simp only [kU, hgk]
        rw [if_neg]
        rintro (hw | hw)
        · exact hap.2.2 t (tck.tk t hw) hid
        · exact hap.2.2 t (tck.tn t hw) hid
      have := val_prefix (u := kU recs t) (S := fun k => listed.getD k false) (v := decide (t ∈ h0.toks)) (fun k h1 h2 => none_of k (by omega) (.inl ⟨h1, h2⟩)) (Nat.le_of_lt hlt) fun k h1 h2 h3 => by
        rcases Nat.lt_or_ge i k with h | h
        · exact none_of k h2 (.inr ⟨h, h3⟩)
        · have : k = i := by omega
          subst this
          rw [hSi] at h3; cases h3
      rw [this, ← p.k]; simp
    have htmp : ∀ d, d ∈ names ops ops[i] → val (tU ops recs d) (fun k => listed.getD k false) ops.size (t0 d) = r.t d := by
      intro d hdn
      rw [p.t]
      have none_of : ∀ k, k < ops.size → ((k < i ∧ listed.getD k false = false) ∨ (i < k ∧ listed.getD k false = true)) → tU ops recs d k = none := by
        intro k hk h
        simp only [tU]
        rw [if_neg]
        intro hdst
        rw [Array.getElem?_eq_getElem hk] at hdst
        have hne : k ≠ i := by omega
        rcases T.tmp k i _ _ (Array.getElem?_eq_getElem hk) ho hne d hdst hdn with hx | hx
        · rcases h with ⟨h1, h2⟩ | ⟨h1, h2⟩
          · rw [early k h1 h2] at hx; cases hx
          · -- k stands before i through the edges, and yet behind it in the text
            have := ancS k hx
            have := anc_lt T i _ ho hx
            omega
        · rcases h with ⟨h1, h2⟩ | ⟨h1, h2⟩
          · have := anc_lt T k _ (Array.getElem?_eq_getElem hk) hx
            omega
          · rw [late k h1 hk h2] at hx; cases hx
      refine val_prefix (fun k h1 h2 => none_of k (by omega) (.inl ⟨h1, h2⟩)) (Nat.le_of_lt hlt) fun k h1 h2 h3 => ?_
      rcases Nat.lt_or_ge i k with h | h
      · exact none_of k h2 (.inr ⟨h, h3⟩)
      · have : k = i := by omega
        subst this
        rw [hSi] at h3; cases h3
    obtain ⟨-, nm2, nm3⟩ := chain_nm hc
    have F : Fresh G r.h1 r.h1' := by
      obtain ⟨⟨b1, b2⟩, b3, b4⟩ := nm2 i r hr
      constructor
      · intro id c1 c2 hd'
        rcases hdom id hd' with hd' | ⟨k, hk, hSk, d1, d2⟩
        · exact F0.1 id (by omega) (by omega) hd'
        · have hkr : k < recs.length := by omega
          have hgk : recs.getD k rec0 = recs[k] := by simp [List.getD, List.getElem?_eq_getElem hkr]
          rw [hgk] at d1 d2
          rcases Nat.lt_trichotomy k i with h | h | h
          · have := (nm3 k i _ _ h (List.getElem?_eq_getElem hkr) hr).1; omega
          · subst h; rw [hSi] at hSk; cases hSk
          · have := (nm3 i k _ _ h hr (List.getElem?_eq_getElem hkr)).1; omega
      · intro id c1 c2 hd'
        rcases htdom id hd' with hd' | ⟨k, hk, hSk, d1, d2⟩
        · exact F0.2 id (by omega) (by omega) hd'
        · have hkr : k < recs.length := by omega
          have hgk : recs.getD k rec0 = recs[k] := by simp [List.getD, List.getElem?_eq_getElem hkr]
          rw [hgk] at d1 d2
          rcases Nat.lt_trichotomy k i with h | h | h
          · have := (nm3 k i _ _ h (List.getElem?_eq_getElem hkr) hr).2; omega
          · subst h; rw [hSi] at hSk; cases hSk
          · have := (nm3 i k _ _ h hr (List.getElem?_eq_getElem hkr)).2; omega
    generalize hSdef : (fun k => listed.getD k false) = S at *
    have hSk : ∀ k, listed.getD k false = S k := fun k => by rw [← hSdef]
    let HSi : H := { HS recs h0 ops.size h'.n h'.m S with n := r.h.n, m := r.h.m }
    have Ri : RepH G HSi w := R.same rfl fun _ x => x
    have hsub : r.h1.sub HSi := by
      refine ⟨fun j o hj => ?_, fun t ht' => ?_⟩
      · show (HS recs h0 ops.size h'.n h'.m S).objs j = some o
        rw [hobj j (tc.rd j (by rw [hj]; rfl))]
        exact tc.sub.1 j o hj
      · show t ∈ (HS recs h0 ops.size h'.n h'.m S).toks
        rw [htok t (tc.tk t ht')]
        exact tc.sub.2 t ht'
    -- the set, with i
    have hS' : ∀ k, (listed.setIfInBounds i true).getD k false = (S k || k == i) := by
      intro k
      rw [← hSk]
      by_cases e : k = i
      · subst e; simp [hil]
      · simp [Array.getElem?_setIfInBounds, Ne.symm e, e]
    generalize hSdef' : (fun k => (listed.setIfInBounds i true).getD k false) = S'
    have hS2 : ∀ k, S' k = (S k || k == i) := fun k => by rw [← hSdef']; exact hS' k
    have hSi' : S i = false := by rw [← hSk]; exact hSi
    have apJ : ∀ j, i < j → j < ops.size → S j = true → apart (recs.getD j rec0).en r.en := fun j h1 h2 h3 => apI j h2 (.inr ⟨h1, (hSk j).trans h3⟩)
    have eobj : ∀ id, (HS recs h0 ops.size h'.n h'.m S').objs id = (HSi.patch r.h1 r.h1').objs id := by
      intro id
      have hv := val_insert (u := oU recs id) (v := h0.objs id) hSi' hS2 hlt (fun j h1 h2 h3 hne => by
        have hap := apJ j h1 h2 h3
        simp only [oU]
        rw [if_neg]
        rintro ⟨_, hw⟩
        apply hne
        simp only [oU, hgr]
        rw [if_neg]
        rintro ⟨_, hw'⟩
        exact (hap.1 id hw).2 hw')
      show val (oU recs id) S' ops.size (h0.objs id) = _
      rw [hv]
      simp only [oU, hgr, H.patch]
      by_cases c : ((r.h1.objs id).isSome ∨ (r.h1.n ≤ id ∧ id < r.h1'.n))
      · by_cases hw : id ∈ r.en.wr
        · simp [c, hw]
        · simp only [c, hw, and_false, if_false, if_true, Option.getD_none]
          have hs : (r.h1.objs id).isSome := by
            rcases c with c | c
            · exact c
            · exact absurd (tc.wr id c.1 c.2) hw
          rw [tc.chg id hs hw]
          show (HS recs h0 ops.size h'.n h'.m S).objs id = _
          rw [hobj id (tc.rd id hs)]
          obtain ⟨o, hoo⟩ := Option.isSome_iff_exists.1 hs
          rw [hoo]; exact tc.sub.1 id o hoo
      · simp only [c, false_and, if_false, Option.getD_none]
        rfl
    have etok : ∀ tk, tk ∈ (HS recs h0 ops.size h'.n h'.m S').toks ↔ tk ∈ (HSi.patch r.h1 r.h1').toks := by
      intro tk
      have hv := val_insert (u := kU recs tk) (v := decide (tk ∈ h0.toks)) hSi' hS2 hlt (fun j h1 h2 h3 hne => by
        have hap := apJ j h1 h2 h3
        have hjr : j < recs.length := by omega
        obtain ⟨ok, _, tck, _⟩ := a2 j _ (List.getElem?_eq_getElem hjr)
        have hgk : recs.getD j rec0 = recs[j] := by simp [List.getD, List.getElem?_eq_getElem hjr]
        rw [hgk] at hap
        simp only [kU, hgk]
        rw [if_neg]
        intro hw
        apply hne
        simp only [kU, hgr]
        rw [if_neg]
        intro hw'
        have h1 : tk ∈ recs[j].en.tk := hw.elim (tck.tk tk) (tck.tn tk)
        have h2 : tk ∈ r.en.tk := hw'.elim (tc.tk tk) (tc.tn tk)
        exact hap.2.2 tk h1 h2)
      rw [mem_HS a1.symm, hv]
      have hm := mem_HS (recs := recs) (h0 := h0) (ne := h'.n) (me := h'.m) (S := S) a1.symm tk
      simp only [H.patch, List.mem_append, List.mem_filter]
      simp only [kU, hgr]
      by_cases c : tk ∈ r.h1.toks ∨ tk ∈ r.h1'.toks
      · rw [if_pos c]
        simp only [Option.getD_some, decide_eq_true_eq]
        constructor
        · exact .inl
        · rintro (h | ⟨h1, h2⟩)
          · exact h
          · exact c.resolve_left (by simpa using h2)
      · rw [if_neg c]
        simp only [Option.getD_none]
        rw [← hm]
        simp only [not_or] at c
        constructor
        · intro h; exact .inr ⟨h, by simpa using c.1⟩
        · rintro (h | h)
          · exact absurd h c.2
          · exact h.1
    have nmi := nm2 i r hr
    have n0 := tc.n
    have m0 := tc.m
    have le0 := tc.le
    have lem0 := tc.lem
    have hle := Tr.n_le
    have hlem := Tr.m_le
    simp only [HS] at hle hlem
    have after : ∀ G' w', Trans G w r.h1 G' w' r.h1' → RepH G' r.h1' w' → Trans G w HSi G' w' (HSi.patch r.h1 r.h1') ∧ RepH G' (HS recs h0 ops.size h'.n h'.m S') w' ∧ Trans G0 w0 h0 G' w' (HS recs h0 ops.size h'.n h'.m S') := by
      intro G' w' T1 R1
      obtain ⟨R2, T2⟩ := frame Ri hsub tc.n tc.m R1 T1 F
      have T3 : Trans G w { HS recs h0 ops.size h'.n h'.m S with n := h0.n, m := h0.m } G' w' (HS recs h0 ops.size h'.n h'.m S') :=
        T2.same rfl (fun _ => Iff.rfl) (funext eobj) etok (by show h0.n ≤ r.h.n; omega) (by show r.h1'.n ≤ h'.n; omega) hle (by show h0.m ≤ r.h.m; omega) (by show r.h1'.m ≤ h'.m; omega) hlem
      have T4 := Tr.trans' (h'' := HS recs h0 ops.size h'.n h'.m S') (h2 := { HS recs h0 ops.size h'.n h'.m S with n := h0.n, m := h0.m }) R0 rfl (fun _ => Iff.rfl) (Nat.le_refl _) (Nat.le_refl _) hle (Nat.le_refl _) (Nat.le_refl _) hlem R T3
      exact ⟨T2, R2.same (funext eobj) fun t x => (etok t).1 x, T4⟩
    have tset : ∀ d, val (tU ops recs d) S' ops.size (t0 d) = putT (fun d => val (tU ops recs d) S ops.size (t0 d)) ops[i].dst r.x d := by
      intro d
      have hv := val_insert (u := tU ops recs d) (v := t0 d) hSi' hS2 hlt (fun j h1 h2 h3 hne => by
        simp only [tU]
        rw [if_neg]
        intro hdj
        apply hne
        simp only [tU]
        rw [if_neg]
        intro hdi
        rw [ho] at hdi
        rw [Array.getElem?_eq_getElem h2] at hdj
        rcases T.tmp i j _ _ ho (Array.getElem?_eq_getElem h2) (by omega) d hdi (by simp only [names, List.mem_append]; left; left; rw [show ops[j].dst = some d from hdj]; simp) with hx | hx
        · rw [late j h1 h2 ((hSk j).trans h3)] at hx; cases hx
        · have := anc_lt T i _ ho hx; omega)
      rw [hv]
      simp only [tU, ho, Option.bind_some, hgr]
      cases hd' : ops[i].dst with
      | none => simp [putT]
      | some k =>
        simp only [putT, upd]
        by_cases e : d = k
        · subst e; simp
        · rw [if_neg e, if_neg (by simpa using Ne.symm e)]; rfl
    cases hDi : D i with
    | true =>
      obtain ⟨⟨d1, d2⟩, d3⟩ := hD i hDi
      have eij : i = pj := by
        rcases d3 with e | ⟨k, dk, e⟩
        · exact e
        · exfalso
          have h1 : listed.getD k false = true := ancS k e
          have h2 := hlj k dk
          rw [h1] at h2; cases h2
      subst eij
      obtain ⟨pr, un, hqp⟩ := hP d1 _ r ho hr
      refine pr G w a (fun d hd' => by rw [← htmp d hd']; exact ht d) (Ri.sub hsub) F _ Q (fun G' w' T1 R1 => ?_) ro
      obtain ⟨-, R3, T3⟩ := after G' w' T1 R1
      have px := prefix_step hr tc p
      have unS : ∀ k, k < ops.size → ((k < i + 1 ∧ S' k = false) ∨ (i + 1 ≤ k ∧ S' k = true)) → (recs.getD k rec0).en.wr = [] ∧ (recs.getD k rec0).en.tk = [] := by
        intro k hk h
        rw [hS2] at h
        have hne : k ≠ i := by
          rintro rfl
          rcases h with ⟨h1, h2⟩ | ⟨h1, h2⟩
          · simp at h2
          · omega
        have hbe : (k == i) = false := by simpa using hne
        rw [hbe, Bool.or_false] at h
        rcases h with ⟨h1, h2⟩ | ⟨h1, h2⟩
        · refine un k hk hne (early k (by omega) ((hSk k).trans h2)) ?_
          cases hb : isAnc ops i k with
          | false => rfl
          | true => have := anc_lt T k _ (Array.getElem?_eq_getElem hk) hb; omega
        · refine un k hk hne ?_ (late k (by omega) hk ((hSk k).trans h2))
          cases hb : isAnc ops k i with
          | false => rfl
          | true => have := anc_lt T i _ ho hb; omega
      have eo : (HS recs h0 ops.size h'.n h'.m S').objs = r.h'.objs := by
        funext id
        rw [px.o]
        have none_of : ∀ k, k < ops.size → ((k < i + 1 ∧ S' k = false) ∨ (i + 1 ≤ k ∧ S' k = true)) → oU recs id k = none := by
          intro k hk h
          simp only [oU]
          rw [if_neg]
          rintro ⟨_, hw⟩
          rw [(unS k hk h).1] at hw; cases hw
        exact val_prefix (fun k h1 h2 => none_of k (by omega) (.inl ⟨h1, h2⟩)) (by omega) fun k h1 h2 h3 => none_of k h2 (.inr ⟨h1, h3⟩)
      have et : ∀ tk, tk ∈ (HS recs h0 ops.size h'.n h'.m S').toks ↔ tk ∈ r.h'.toks := by
        intro tk
        rw [mem_HS a1.symm]
        have none_of : ∀ k, k < ops.size → ((k < i + 1 ∧ S' k = false) ∨ (i + 1 ≤ k ∧ S' k = true)) → kU recs tk k = none := by
          intro k hk h
          have hkr : k < recs.length := by omega
          obtain ⟨ok, _, tck, _⟩ := a2 k _ (List.getElem?_eq_getElem hkr)
          have hgk : recs.getD k rec0 = recs[k] := by simp [List.getD, List.getElem?_eq_getElem hkr]
          have hz := (unS k hk h).2
          rw [hgk] at hz
          simp only [kU, hgk]
          rw [if_neg]
          rintro (hw | hw)
          · have := tck.tk tk hw; rw [hz] at this; cases this
          · have := tck.tn tk hw; rw [hz] at this; cases this
        have e := val_prefix (v := decide (tk ∈ h0.toks)) (fun k h1 h2 => none_of k (by omega) (.inl ⟨h1, h2⟩)) (by omega) fun k h1 h2 h3 => none_of k h2 (.inr ⟨h1, h3⟩)
        rw [e, ← px.k]; simp
      refine hqp G' w' a ?_ ?_ hs hd
      · exact T3.same rfl (fun _ => Iff.rfl) eo.symm (fun t => (et t).symm) (Nat.le_refl _) (Nat.le_refl _) T3.n_le (Nat.le_refl _) (Nat.le_refl _) T3.m_le
      · exact R3.same eo.symm fun t x => (et t).2 x
    | false =>
    refine run hDi G w a (fun d hd' => by rw [← htmp d hd']; exact ht d) (Ri.sub hsub) F _ Q (fun G' w' v T1 R1 V => ?_) ro
    obtain ⟨T2, R2, T4⟩ := after G' w' T1 R1
    have hput : TRel G' w' (putT (fun d => val (tU ops recs d) S ops.size (t0 d)) ops[i].dst r.x) (a.put ops[i].dst v) :=
      put_rel (TRel.mono Ri T2 ht) V fun k hk => by rw [hs]; exact hN i _ k ho hk
    refine ih (listed.setIfInBounds i true) G' w' _ (by simpa using hls) ?_ ?_ ?_ (by rw [put_size]; exact hs) (by rw [put_defers]; exact hd) ?_ ?_ ?_ ?_ ?_
    · rw [hSdef']
      have := count_insert hSi' hS2 hlt
      omega
    · rw [hSdef']
      intro j oj hoj hj e he hbd
      rw [hS2] at hj ⊢
      by_cases ej : j = i
      · subst ej
        obtain rfl : ops[j] = oj := Option.some.inj (ho.symm.trans hoj)
        rw [← hSk, hedges e he hbd]; rfl
      · have : S j = true := by simpa [ej] using hj
        rw [hcl j oj hoj this e he hbd]; rfl
    · intro k d1
      rw [show (listed.setIfInBounds i true).getD k false = S' k from congrFun hSdef' k, hS2, ← hSk, hlj k d1]
      have : k ≠ i := by rintro rfl; rw [d1] at hDi; cases hDi
      simpa using this
    · rw [hSdef']
      intro d
      rw [tset d]; exact hput d
    · rw [hSdef']
      exact R2
    · rw [hSdef']; exact T4
    · intro id hd'
      rcases T1.dom_new id hd' with h | h
      · rcases hdom id h with h | ⟨k, h1, h2, h3⟩
        · exact .inl h
        · exact .inr ⟨k, h1, by rw [hS', ← hSk, h2]; rfl, h3⟩
      · exact .inr ⟨i, hlt, by rw [hS']; simp, by rw [hgr]; exact h⟩
    · intro id hd'
      rcases T1.tdom_new id hd' with h | h
      · rcases htdom id h with h | ⟨k, h1, h2, h3⟩
        · exact .inl h
        · exact .inr ⟨k, h1, by rw [hS', ← hSk, h2]; rfl, h3⟩
      · exact .inr ⟨i, hlt, by rw [hS']; simp, by rw [hgr]; exact h⟩
end
end Go.Av
end
section
set_option linter.unusedVariables false
set_option linter.unusedSimpArgs false
namespace Go.Av
open Go
theorem bget (s : List UInt8) (i : Nat) : (ByteArray.mk s.toArray)[i]! = s.getD i 0 := by
  by_cases h : i < s.length
  · have h2 : i < (ByteArray.mk s.toArray).size := by simpa [ByteArray.size] using h
    rw [getElem!_pos _ i h2]
    simp [ByteArray.getElem_eq_getElem_data, h]
  · have h2 : ¬ i < (ByteArray.mk s.toArray).size := by simpa [ByteArray.size] using h
    rw [getElem!_neg _ i h2]
    simp [h]
    rfl
theorem ib_run (P : Program) (w : World) (s : List UInt8) (n : Int) : (Extern.BytealgIndexByte.indexByte #[.string ⟨s.toArray⟩, .int .u8 n]).run P w = .ok (.int .i64 (match (List.range s.length).find? fun i => s.getD i 0 == UInt8.ofNat n.toNat with | some i => (i : Int) | none => -1)) w := by
  have hs : (ByteArray.mk s.toArray).size = s.length := by simp [ByteArray.size]
  have hf : (fun i => (ByteArray.mk s.toArray)[i]! == n.toNat.toUInt8) = fun i => s.getD i 0 == UInt8.ofNat n.toNat := by
    funext i; rw [bget]
  change Sem.run P (match (List.range (ByteArray.mk s.toArray).size).find? fun i => (ByteArray.mk s.toArray)[i]! == n.toNat.toUInt8 with | some i => pure (goInt i) | none => pure (goInt (-1))) w = _
  rw [hs, hf]
  cases (List.range s.length).find? fun i => s.getD i 0 == UInt8.ofNat n.toNat <;> rfl
open Classical in
section
variable {P : Program} {G : Ghost} {w : World} {t : Tm} {a : Act} {o : Oper} {h : H} {x : AV}
theorem cOpB_raw {op : AOp} (h : cOpB P o = some op) : ∃ k xs, op = .raw k xs := by
  unfold cOpB at h
  repeat' split at h
  all_goals first
    | (cases h; done)
    | (cases h; exact ⟨_, _, rfl⟩)
    | (simp only [Option.map_eq_some_iff] at h; obtain ⟨_, _, rfl⟩ := h; exact ⟨_, _, rfl⟩)
theorem cOp_noraw (k : RK) (xs : List Opd) : cOp P o ≠ some (.raw k xs) := by
  intro h
  unfold cOp at h
  repeat' split at h
  all_goals first
    | (cases h; done)
    | (simp at h; done)
    | skip
theorem cOpB_plain {op : AOp} (h : cOpB P o = some op) : ∀ c, o.op ≠ .defer c := by
  intro c e
  unfold cOpB at h
  rw [e] at h
  cases h
theorem fill_arr (ht : TRel G w t a) {e : TypeId} : ∀ {l : List (Nat × Operand)} {ps : List (Nat × Nat)} {xs : List Opd} {cs cs' : List AV} {vs : List Value}, partsArr P e l = some (ps, xs) → putVals ps (xs.map (ev t)) cs = some cs' → VRels G w cs vs →
      ∃ vs', Instr.fill (fun i => some (i * P.cellsOf e, P.cellsOf e)) vs.toArray (l.map fun p => (p.1, a.eval p.2)) = some vs'.toArray ∧ VRels G w cs' vs'
  | [], ps, xs, cs, cs', vs, h1, h2, h3 => by
    simp only [partsArr, Option.some.injEq, Prod.mk.injEq] at h1
    obtain ⟨rfl, rfl⟩ := h1
    simp [putVals] at h2; subst h2
    exact ⟨vs, by simp [Instr.fill], h3⟩
  | (i, x) :: l, ps, xs, cs, cs', vs, h1, h2, h3 => by
    simp only [partsArr] at h1
    split at h1
    · rename_i b r hb hr
      simp only [Option.some.injEq, Prod.mk.injEq] at h1
      obtain ⟨rfl, rfl⟩ := h1
      simp only [List.map_cons, putVals] at h2
      split at h2
      · rename_i hc
        obtain ⟨c1, c2, c3⟩ := hc
        have rx := opd_rel hb ht
        obtain ⟨s1, s2⟩ := shaped_cells rx c3
        have hsz : (a.eval x).cells.size = P.cellsOf e := by have := s1.length; simpa [c1] using this
        have hl := h3.length
        have hnew : VRels G w (setAt cs (i * P.cellsOf e) (cellsOf (ev t b))) (vs.take (i * P.cellsOf e) ++ (a.eval x).cells.toList ++ vs.drop (i * P.cellsOf e + P.cellsOf e)) := by
          unfold setAt
          rw [c1]
          exact ((h3.take _).append s1).append (h3.drop _)
        obtain ⟨vs', e1, e2⟩ := fill_arr ht (ps := r.1) (xs := r.2) hr h2 hnew
        refine ⟨vs', ?_, e2⟩
        rw [List.map_cons, fill_one (place := fun i => some (i * P.cellsOf e, P.cellsOf e)) (off := i * P.cellsOf e) rfl hsz (by simp; omega)]
        exact e1
      · cases h2
    · cases h1
theorem extern_find {name : String} {g : Array Value → Sem Value} (hg : Extern.allGenericRows.lookup name = none) (ht : Extern.allTypedRows.lookup name = none) (ha : Extern.allRows.lookup name = some g) (hn : Extern.allNextRows.lookup name = none)
    {fn : Func} (h : fn.name = name) (ho : Extern.allNextRows.lookup fn.origin = none) : Extern.find fn = some g ∧ Extern.findNext fn = none := by
  unfold Extern.find Extern.findNext
  simp [h, hg, ht, ha, hn, ho]
theorem inv_i2f {k : FloatKind} {xs : List Opd} (hc : cOpB P o = some (.raw (.i2f k) xs)) : ∃ src dst z b q, o.op = .convert src dst z ∧ opd P src z = some b ∧ P.underlying src = some (.int q) ∧ P.underlying dst = some (.float k) ∧ xs = [b] := by
  unfold cOpB at hc
  repeat' split at hc
  all_goals first
    | (cases hc; done)
    | (simp at hc; done)
    | (cases hc; exact ⟨_, _, _, _, _, ‹_›, ‹_›, ‹_›, ‹_›, rfl⟩)
theorem inv_f2i {k : IntKind} {xs : List Opd} (hc : cOpB P o = some (.raw (.f2i k) xs)) : ∃ src dst z b q, o.op = .convert src dst z ∧ opd P src z = some b ∧ P.underlying src = some (.float q) ∧ P.underlying dst = some (.int k) ∧ xs = [b] := by
  unfold cOpB at hc
  repeat' split at hc
  all_goals first
    | (cases hc; done)
    | (simp at hc; done)
    | (cases hc; exact ⟨_, _, _, _, _, ‹_›, ‹_›, ‹_›, ‹_›, rfl⟩)
theorem inv_aidx {sz len : Nat} {n : Option Nat} {xs : List Opd} (hc : cOpB P o = some (.raw (.aidx sz n len) xs)) : ∃ ty z i b c e, o.op = .index ty z i ∧ opd P ty z = some b ∧ opd P 0 i = some c ∧ P.underlying ty = some (.array len e) ∧ (P.info? e).isSome = true ∧ (P.underlying e).isSome = true ∧ sz = P.cellsOf e ∧ n = (if isAggT P e then some (P.cellsOf e) else none) ∧ xs = [b, c] := by
  unfold cOpB at hc
  repeat' split at hc
  all_goals first
    | (cases hc; done)
    | (simp at hc; done)
    | (rename_i hq hg; cases hc; exact ⟨_, _, _, _, _, _, ‹_›, ‹_›, ‹_›, ‹_›, hq.1, hq.2, rfl, by simp [hg], rfl⟩)
theorem inv_paddr {sz len : Nat} {xs : List Opd} (hc : cOpB P o = some (.raw (.paddr sz len) xs)) : ∃ ty z i b c e, o.op = .indexAddr ty z i ∧ opd P 0 z = some b ∧ opd P 0 i = some c ∧ P.underlying ty = some (.array len e) ∧ (P.info? e).isSome = true ∧ sz = P.cellsOf e ∧ xs = [b, c] := by
  unfold cOpB at hc
  repeat' split at hc
  all_goals first
    | (cases hc; done)
    | (simp at hc; done)
    | (rename_i hq; cases hc; exact ⟨_, _, _, _, _, _, ‹_›, ‹_›, ‹_›, ‹_›, hq, rfl, rfl⟩)
theorem inv_abuild {zero : List AV} {ps : List (Nat × Nat)} {xs : List Opd} (hc : cOpB P o = some (.raw (.abuild zero ps) xs)) : ∃ ty parts n e z, o.op = .build ty parts ∧ P.underlying ty = some (.array n e) ∧ (P.info? ty).bind (·.zero) = some z ∧ constAV P ty z = some (.agg zero) ∧ partsArr P e parts.toList = some (ps, xs) ∧ (P.info? e).isSome = true := by
  unfold cOpB at hc
  repeat' split at hc
  all_goals first
    | (cases hc; done)
    | (simp at hc; done)
    | (rename_i hq; cases hc; exact ⟨_, _, _, _, _, ‹_›, ‹_›, ‹_›, ‹_›, ‹_›, hq⟩)
theorem inv_cplx {xs : List Opd} (hc : cOpB P o = some (.raw .cplx xs)) : ∃ c z1 z2 b1 b2, o.op = .call c ∧ c.callee = .builtin .complex ∧ c.args.toList = [z1, z2] ∧ opd P 0 z1 = some b1 ∧ opd P 0 z2 = some b2 ∧ xs = [b1, b2] := by
  unfold cOpB at hc
  repeat' split at hc
  all_goals first
    | (cases hc; done)
    | (simp at hc; done)
    | (cases hc; exact ⟨_, _, _, _, _, ‹_›, ‹_›, ‹_›, ‹_›, ‹_›, rfl⟩)
theorem inv_cpart {re : Bool} {xs : List Opd} (hc : cOpB P o = some (.raw (.cpart re) xs)) : ∃ c z b, o.op = .call c ∧ c.callee = .builtin (if re then .real else .imag) ∧ c.args.toList = [z] ∧ opd P 0 z = some b ∧ xs = [b] := by
  unfold cOpB at hc
  repeat' split at hc
  all_goals first
    | (cases hc; done)
    | (simp at hc; done)
    | (simp only [Option.map_eq_some_iff, Option.some.injEq, AOp.raw.injEq, RK.cpart.injEq] at hc; obtain ⟨b, hb, rfl, rfl⟩ := hc; exact ⟨_, _, _, ‹_›, by simpa using ‹_›, ‹_›, hb, rfl⟩)
theorem inv_bits {k : RK} {xs : List Opd} (hk : k = .fbits ∨ k = .fofbits) (hc : cOpB P o = some (.raw k xs)) : ∃ c z b f fn, o.op = .call c ∧ c.callee = .value (.func f) ∧ c.args.toList = [z] ∧ opd P 0 z = some b ∧ xs = [b] ∧ P.funcs[f]? = some fn ∧ fn.body.isNone = true ∧ fn.origin = "" ∧ fn.name = (match k with | .fbits => "math.Float64bits" | _ => "math.Float64frombits") := by
  rcases hk with rfl | rfl
  all_goals
    unfold cOpB at hc
    repeat' split at hc
    all_goals first
      | (cases hc; done)
      | (simp at hc; done)
      | (rename_i hq; simp only [Option.map_eq_some_iff, Option.some.injEq, AOp.raw.injEq, true_and] at hc; obtain ⟨b, hb, rfl⟩ := hc; exact ⟨_, _, _, _, _, ‹_›, ‹_›, ‹_›, hb, rfl, ‹_›, hq.1, hq.2.2, hq.2.1⟩)
theorem inv_ibyte {xs : List Opd} (hc : cOpB P o = some (.raw .ibyte xs)) : ∃ c z1 z2 b1 b2 f fn, o.op = .call c ∧ c.callee = .value (.func f) ∧ c.args.toList = [z1, z2] ∧ opd P 0 z1 = some b1 ∧ opd P 0 z2 = some b2 ∧ xs = [b1, b2] ∧ P.funcs[f]? = some fn ∧ fn.body.isNone = true ∧ fn.origin = "" ∧ fn.name = "internal/bytealg.IndexByteString" := by
  unfold cOpB at hc
  repeat' split at hc
  all_goals first
    | (cases hc; done)
    | (simp at hc; done)
    | (cases hc; rename_i hq _ _ _ _ _ _; exact ⟨_, _, _, _, _, _, _, ‹_›, ‹_›, ‹_›, ‹_›, ‹_›, rfl, ‹_›, hq.1, hq.2.2, hq.2.1⟩)
    | (cases hc; rename_i hq _ _ _ _; exact ⟨_, _, _, _, _, _, _, ‹_›, ‹_›, ‹_›, ‹_›, ‹_›, rfl, ‹_›, hq.1, hq.2.2, hq.2.1⟩)
theorem look_i : Extern.allGenericRows.lookup "internal/bytealg.IndexByteString" = none ∧ Extern.allTypedRows.lookup "internal/bytealg.IndexByteString" = none ∧ Extern.allNextRows.lookup "internal/bytealg.IndexByteString" = none := ⟨by kernel_rfl, by kernel_rfl, by kernel_rfl⟩
theorem row_i : Extern.allRows.lookup "internal/bytealg.IndexByteString" = some Extern.BytealgIndexByte.indexByte := by kernel_rfl
theorem call_run {c : Call} {z1 z2 : Operand} {f : FuncId} {fn : Func} {g : Array Value → Sem Value} {v : Value} {ty : TypeId} (hcal : c.callee = .value (.func f)) (ha : c.args = #[z1, z2]) (hf : P.funcs[f]? = some fn) (hb : fn.body.isNone = true) (hn : fn.name ≠ "runtime.NumGoroutine")
    (h1 : Extern.find fn = some g) (h2 : Extern.findNext fn = none) (hg : (g #[a.eval z1, a.eval z2]).run P w = .ok v w) : (do let d ← resolve a.eval c ty; invoke d.target d.args : Sem Next).run P w = .ok (.value v) w := by
  have hb' : fn.body = none := by simpa using hb
  have he : a.eval (.func f) = .func (.func f) #[] #[] := rfl
  simp [resolve, hcal, ha, he, Deferred.ofValue, invoke, callFunc, hf, hn, hb', h1, h2, hg]
theorem int_rel {k : IntKind} {n : Int} {v : Value} (h : VRel G w (.int k n) v) : v = .int k n := by simpa [VRel] using h
theorem sc_rel {u v : Value} (h : VRel G w (.sc u) v) : v = u := by simpa [VRel] using h
theorem look_e : Extern.allNextRows.lookup "" = none := by kernel_rfl
theorem look_b : Extern.allGenericRows.lookup "math.Float64bits" = none ∧ Extern.allTypedRows.lookup "math.Float64bits" = none ∧ Extern.allNextRows.lookup "math.Float64bits" = none := ⟨by kernel_rfl, by kernel_rfl, by kernel_rfl⟩
theorem look_f : Extern.allGenericRows.lookup "math.Float64frombits" = none ∧ Extern.allTypedRows.lookup "math.Float64frombits" = none ∧ Extern.allNextRows.lookup "math.Float64frombits" = none := ⟨by kernel_rfl, by kernel_rfl, by kernel_rfl⟩
theorem row_b : Extern.allRows.lookup "math.Float64bits" = some Extern.MathFloatBits.float64bits := by kernel_rfl
theorem row_f : Extern.allRows.lookup "math.Float64frombits" = some Extern.MathFloatBits.float64frombits := by kernel_rfl
theorem bits_run {c : Call} {z : Operand} {f : FuncId} {fn : Func} {g : Array Value → Sem Value} {v : Value} {ty : TypeId} (hcal : c.callee = .value (.func f)) (ha : c.args = #[z]) (hf : P.funcs[f]? = some fn) (hb : fn.body.isNone = true) (hn : fn.name ≠ "runtime.NumGoroutine")
    (h1 : Extern.find fn = some g) (h2 : Extern.findNext fn = none) (hg : (g #[a.eval z]).run P w = .ok v w) : (do let d ← resolve a.eval c ty; invoke d.target d.args : Sem Next).run P w = .ok (.value v) w := by
  have hb' : fn.body = none := by simpa using hb
  have he : a.eval (.func f) = .func (.func f) #[] #[] := rfl
  simp [resolve, hcal, ha, he, Deferred.ofValue, invoke, callFunc, hf, hn, hb', h1, h2, hg]
theorem int_of {k : IntKind} {n : Int} : VRel G w (.int k n) (.int k n) := by simp [VRel]
theorem sc_of {u : Value} : VRel G w (.sc u) u := by simp [VRel]
theorem raw_plain {k : RK} {xs : List Opd} (hc : cOpB P o = some (.raw k xs)) (hx : rawAV k (xs.map (ev t)) = some x) (ht : TRel G w t a) : Plain P G w a o x := by
  cases k with
  | i2f k =>
    obtain ⟨src, dst, z, b, q, hop, h1, h2, h3, rfl⟩ := inv_i2f hc
    have r1 := opd_rel h1 ht
    simp only [List.map_cons, List.map_nil, rawAV] at hx
    split at hx <;> try (cases hx; done)
    rename_i e
    simp only [List.cons.injEq, and_true] at e
    rw [e] at r1
    cases hx
    refine ⟨_, ?_, sc_of⟩
    simp only [execOp, hop, int_rel r1]
    simp [run_convert_int_float w src dst _ _ _ (by rw [h2]; rfl) h3]
  | f2i k =>
    obtain ⟨src, dst, z, b, q, hop, h1, h2, h3, rfl⟩ := inv_f2i hc
    have r1 := opd_rel h1 ht
    simp only [List.map_cons, List.map_nil, rawAV] at hx
    split at hx <;> try (cases hx; done)
    rename_i e
    simp only [List.cons.injEq, and_true] at e
    rw [e] at r1
    simp only [Option.map_eq_some_iff] at hx
    obtain ⟨n, hn, rfl⟩ := hx
    refine ⟨_, ?_, int_of⟩
    simp only [execOp, hop, sc_rel r1]
    simp [run_convert_float_int w src dst _ _ _ _ (by rw [h2]; rfl) h3 hn]
  | cplx =>
    obtain ⟨c, z1, z2, b1, b2, hop, hcal, ha, h1, h2, rfl⟩ := inv_cplx hc
    have r1 := opd_rel h1 ht
    have r2 := opd_rel h2 ht
    have ha' : c.args = #[z1, z2] := by rw [← Array.toArray_toList (xs := c.args), ha]
    simp only [List.map_cons, List.map_nil, rawAV] at hx
    split at hx <;> try (cases hx; done)
    rename_i e
    simp only [List.cons.injEq, and_true] at e
    rw [e.1] at r1
    rw [e.2] at r2
    split at hx <;> cases hx
    rename_i ek
    subst ek
    refine ⟨_, ?_, sc_of⟩
    simp [execOp, hop, resolve, hcal, ha', sc_rel r1, sc_rel r2, invoke, builtin, run_complex]
  | cpart re =>
    obtain ⟨c, z, b, hop, hcal, ha, h1, rfl⟩ := inv_cpart hc
    have r1 := opd_rel h1 ht
    have ha' : c.args = #[z] := by rw [← Array.toArray_toList (xs := c.args), ha]
    simp only [List.map_cons, List.map_nil, rawAV] at hx
    split at hx <;> try (cases hx; done)
    rename_i e
    simp only [List.cons.injEq, and_true] at e
    rw [e] at r1
    cases hx
    cases re
    · refine ⟨_, ?_, sc_of⟩
      simp at hcal
      simp [execOp, hop, resolve, hcal, ha', sc_rel r1, invoke, builtin, run_imag]
    · refine ⟨_, ?_, sc_of⟩
      simp at hcal
      simp [execOp, hop, resolve, hcal, ha', sc_rel r1, invoke, builtin, run_real]
  | fbits =>
    obtain ⟨c, z, b, f, fn, hop, hcal, ha, h1, rfl, hf, hb, ho, hn⟩ := inv_bits (.inl rfl) hc
    obtain ⟨e1, e2⟩ := extern_find look_b.1 look_b.2.1 row_b look_b.2.2 hn (by rw [ho]; exact look_e)
    have r1 := opd_rel h1 ht
    have ha' : c.args = #[z] := by rw [← Array.toArray_toList (xs := c.args), ha]
    simp only [List.map_cons, List.map_nil, rawAV] at hx
    split at hx <;> try (cases hx; done)
    rename_i e
    simp only [List.cons.injEq, and_true] at e
    rw [e] at r1
    cases hx
    refine ⟨_, ?_, int_of⟩
    simp only [execOp, hop]
    exact bits_run hcal ha' hf hb (by rw [hn]; simp) e1 e2 (by rw [sc_rel r1]; rfl)
  | fofbits =>
    obtain ⟨c, z, b, f, fn, hop, hcal, ha, h1, rfl, hf, hb, ho, hn⟩ := inv_bits (.inr rfl) hc
    obtain ⟨e1, e2⟩ := extern_find look_f.1 look_f.2.1 row_f look_f.2.2 hn (by rw [ho]; exact look_e)
    have r1 := opd_rel h1 ht
    have ha' : c.args = #[z] := by rw [← Array.toArray_toList (xs := c.args), ha]
    simp only [List.map_cons, List.map_nil, rawAV] at hx
    split at hx <;> try (cases hx; done)
    rename_i e
    simp only [List.cons.injEq, and_true] at e
    rw [e] at r1
    cases hx
    refine ⟨_, ?_, sc_of⟩
    simp only [execOp, hop]
    exact bits_run hcal ha' hf hb (by rw [hn]; simp) e1 e2 (by rw [int_rel r1]; rfl)
  | ibyte =>
    obtain ⟨c, z1, z2, b1, b2, f, fn, hop, hcal, ha, h1, h2, rfl, hf, hb, ho, hn⟩ := inv_ibyte hc
    obtain ⟨e1, e2⟩ := extern_find look_i.1 look_i.2.1 row_i look_i.2.2 hn (by rw [ho]; exact look_e)
    have r1 := opd_rel h1 ht
    have r2 := opd_rel h2 ht
    have ha' : c.args = #[z1, z2] := by rw [← Array.toArray_toList (xs := c.args), ha]
    simp only [List.map_cons, List.map_nil, rawAV] at hx
    split at hx <;> try (cases hx; done)
    rename_i s n q
    simp only [List.cons.injEq, and_true] at q
    rw [q.1] at r1
    rw [q.2] at r2
    split at hx <;> cases hx
    rename_i hq
    refine ⟨_, ?_, int_of⟩
    simp only [execOp, hop]
    refine call_run hcal ha' hf hb (by rw [hn]; simp) e1 e2 ?_
    have r1' : a.eval z1 = .string ⟨s.toArray⟩ := by simpa [VRel] using r1
    rw [r1', int_rel r2]
    exact ib_run P w s n
  | aidx sz n len =>
    obtain ⟨ty, z, i, b, c, e, hop, h1, h2, hu, hi, hui, rfl, rfl, rfl⟩ := inv_aidx hc
    have r1 := opd_rel h1 ht
    have r2 := opd_rel h2 ht
    simp only [List.map_cons, List.map_nil, rawAV] at hx
    split at hx <;> try (cases hx; done)
    rename_i q
    simp only [List.cons.injEq, and_true] at q
    rw [q.1] at r1
    rw [q.2] at r2
    split at hx <;> try (cases hx; done)
    rename_i hq
    simp only [VRel] at r1
    obtain ⟨vs, hv, hr⟩ := r1
    obtain ⟨v, e1, e2⟩ := run_part P w e _ _ vs hi hui hr hx
    exact ⟨v, by simp [execOp, hop, Instr.index, run_underlying hu, hv, int_rel r2, asIntOf, hq.1, hq.2, run_size P w e hi, e1], e2⟩
  | paddr sz len =>
    obtain ⟨ty, z, i, b, c, e, hop, h1, h2, hu, hi, rfl, rfl⟩ := inv_paddr hc
    have r1 := opd_rel h1 ht
    have r2 := opd_rel h2 ht
    simp only [List.map_cons, List.map_nil, rawAV] at hx
    split at hx <;> try (cases hx; done)
    · rename_i q
      simp only [List.cons.injEq, and_true] at q
      rw [q.1] at r1
      rw [q.2] at r2
      split at hx <;> cases hx
      rename_i hq
      simp only [VRel] at r1
      obtain ⟨hd, hv⟩ := r1
      refine .mk (v := .pointer (some ⟨G.ι _, _, none⟩)) ?_ (by simp only [VRel]; exact ⟨hd, rfl⟩)
      simp [execOp, hop, Instr.indexAt, run_underlying hu, hv, int_rel r2, asIntOf, Instr.sureAddr, hq.1, hq.2, run_size P w e hi, add_plain]
    · rename_i q
      simp only [List.cons.injEq, and_true] at q
      rw [q.1] at r1
      rw [q.2] at r2
      split at hx <;> cases hx
      rename_i hq
      simp only [VRel] at r1
      obtain ⟨B, off, vs, hv, hr, him⟩ := r1
      refine .mk (v := .pointer (some ⟨B, _, none⟩)) ?_ (by simp only [VRel]; exact ⟨B, _, _, rfl, hr.drop _, him.drop _⟩)
      simp [execOp, hop, Instr.indexAt, run_underlying hu, hv, int_rel r2, asIntOf, Instr.sureAddr, hq.1, hq.2, run_size P w e hi, add_plain]
  | abuild zero ps =>
    obtain ⟨ty, parts, n, e, z, hop, hu, hz, hzc, hps, hi⟩ := inv_abuild hc
    simp only [rawAV, Option.map_eq_some_iff] at hx
    obtain ⟨cs, hcs, rfl⟩ := hx
    have r := const_rel (G := G) (w := w) hzc
    simp only [VRel] at r
    obtain ⟨vs, rfl, hr⟩ := r
    obtain ⟨vs', e1, e2⟩ := fill_arr ht hps hcs hr
    refine ⟨.agg vs'.toArray, ?_, by simp only [VRel]; exact ⟨vs', rfl, e2⟩⟩
    obtain ⟨i, hi1, hi2⟩ := Option.bind_eq_some_iff.1 hz
    have hmap : (parts.map fun (i, x) => (i, a.eval x)).toList = parts.toList.map fun p => (p.1, a.eval p.2) := by simp
    simp only [execOp, hop, Instr.build, Sem.run_bind, zeroValue, typeInfo, run_program, hi1, hi2, Result.andThen_ok, Sem.run_pure, run_underlying hu, run_size P w e hi, Value.cells, hmap, e1]
end
end Go.Av
end
section
set_option linter.unusedVariables false
set_option linter.unusedSimpArgs false
namespace Go.Av
structure AItem where
  dst : Option Nat
  guard : Option (Nat × Bool)
  op : AOp
inductive AC where
  | skip
  | reg (items : List AItem) (pairs : Option (List (Nat × Nat)))
  | seq (a b : AC)
  | cond (c : Opd) (a b : AC)
  | block (id : Nat) (a : AC)
  | loop (a : AC)
  | exit (id : Nat)
  | ret
  | scope (a : AC)
  | label (l : Nat)
  | goto (l : Nat)
  | rfun (g : Opd) (ps : List Nat) (asg body : AC)
def opdsOf : AOp → List Opd
  | .mov x | .box x | .eqN _ x | .un _ x | .conv _ x | .load _ x | .faddr _ x | .fld _ _ x | .ext x _ | .nilck x | .len _ x | .clr _ _ x | .mlen x | .eqM _ x | .cap x | .ifc _ x | .pan x => [x]
  | .pick a b c | .mput a b c => [a, b, c]
  | .alloc _ | .mkmap | .dead => []
  | .build _ parts => parts.map fun p => p.2.2
  | .buildSl _ parts => parts
  | .store _ x y | .bin _ x y | .eqB _ x y | .eqA _ _ x y | .mm _ x y | .mlook _ _ x y | .mdel x y | .eqP _ x y | .eqQ _ x y | .iaddr _ x y | .idx x y | .mksl _ _ _ x y | .app _ _ _ x y | .appz _ _ _ x y => [x, y]
  | .mkfn _ a b => a ++ b
  | .slc _ _ x a b c => x :: (a.toList ++ b.toList ++ c.toList)
  | .call _ l => l
  | .callv x l => x :: l
  | .raw _ l => l
def tmpsOf (l : List Opd) : List Nat := l.filterMap fun | .t i => some i | _ => none
def cGuard (ops : Array Oper) : Option (Nat × Bool) → Option (Option (Nat × Bool))
  | none => some none
  | some (j, w) => match (ops[j]?).bind (·.dst) with
    | some d => some (some (d, w))
    | none => none
def cOpD (P : Program) (o : Oper) : Option AOp := some (match cOp P o with
  | some q => q
  | none => (cOpB P o).getD .dead)
def isRaw : AOp → Bool
  | .raw _ _ => true
  | _ => false
theorem cOpD_raw {P : Program} {o : Oper} {k : RK} {xs : List Opd} (h : cOpD P o = some (.raw k xs)) : cOpB P o = some (.raw k xs) := by
  simp only [cOpD, Option.some.injEq] at h
  split at h
  · rename_i q hc
    subst h
    exact absurd hc (cOp_noraw _ _)
  · cases hb : cOpB P o with
    | none => rw [hb] at h; simp at h
    | some q => rw [hb] at h; simp at h; rw [h]
theorem cOpD_of {P : Program} {o : Oper} {op : AOp} (h : cOpD P o = some op) (hn : op ≠ .dead) (hr : isRaw op = false) : cOp P o = some op := by
  simp only [cOpD, Option.some.injEq] at h
  cases hc : cOp P o with
  | none =>
    rw [hc] at h
    simp only at h
    cases hb : cOpB P o with
    | none => rw [hb] at h; exact absurd h.symm hn
    | some q =>
      rw [hb] at h
      obtain ⟨k, xs, rfl⟩ := cOpB_raw hb
      simp at h
      subst h
      simp [isRaw] at hr
  | some q => rw [hc] at h; simp at h; rw [h]
def cItem (P : Program) (N : Nat) (ops : Array Oper) (o : Oper) : Option AItem :=
  match cOpD P o, cGuard ops o.guard with
  | some op, some g => if o.dst.all (fun d => decide (d < N)) && (tmpsOf (opdsOf op)).all (fun i => (names ops o).contains i) then some ⟨o.dst, g, op⟩ else none
  | _, _ => none
def cItems (P : Program) (N : Nat) (ops : Array Oper) : List Oper → Option (List AItem)
  | [] => some []
  | o :: l => match cItem P N ops o, cItems P N ops l with
    | some a, some r => some (a :: r)
    | _, _ => none
def touchy : AOp → Bool
  | .alloc _ | .box _ | .load _ _ | .store _ _ _ | .conv .s2b _ | .conv .s2s _ | .mksl _ _ _ _ _ | .app _ _ _ _ _ | .appz _ _ _ _ _ | .clr _ _ _ | .mkmap | .mlook _ _ _ _ | .mput _ _ _ | .mdel _ _ | .mlen _ | .eqQ _ _ _ | .buildSl _ _ | .call _ _ | .callv _ _ | .pan _ => true
  | _ => false
def tidy (ops : Array Oper) : Bool :=
  let b := Region.before ops
  let l := ops.toList.zipIdx
  (l.all fun (o, i) => o.after.all fun e => !Region.binds .any e || decide (e.on < i)) &&
  l.all fun (o, i) => match o.dst with
    | none => true
    | some d => l.all fun (o', j) => i == j || !(names ops o').contains d || (b.getD j 0).testBit i || (b.getD i 0).testBit j
def pairsOf (ops : Array Oper) (items : List AItem) : List (Nat × Nat) :=
  let b := Region.before ops
  (List.range ops.size).flatMap fun j => (List.range j).filterMap fun i =>
    if (match items[i]?, items[j]? with | some x, some y => touchy x.op && touchy y.op | _, _ => false) && !(b.getD j 0).testBit i then some (i, j) else none
def noRF : Code → Bool
  | .rangeFunc _ _ _ _ => false
  | .seq a b => noRF a && noRF b
  | .cond _ a b => noRF a && noRF b
  | .block _ a => noRF a
  | .loop a => noRF a
  | .scope a => noRF a
  | _ => true
def okR (c : Code) (ro : Option Nat) : Prop := ro = none ∨ noRF c = true
def cCode (P : Program) (N : Nat) : Code → Option AC
  | .skip => some .skip
  | .region _ ops draw => match cItems P N ops ops.toList with
    | some items => if draw then (if P.follows .mixedOrders && tidy ops then some (.reg items (some (pairsOf ops items))) else none) else some (.reg items none)
    | none => none
  | .seq a b => match cCode P N a, cCode P N b with
    | some x, some y => some (.seq x y)
    | _, _ => none
  | .cond c a b => match opd P 0 c, cCode P N a, cCode P N b with
    | some c, some x, some y => some (.cond c x y)
    | _, _, _ => none
  | .block id a => (cCode P N a).map (.block id)
  | .loop a => (cCode P N a).map .loop
  | .exit id => some (.exit id)
  | .ret => some .ret
  | .scope a => (cCode P N a).map .scope
  | .label l => some (.label l)
  | .goto l => some (.goto l)
  | .rangeFunc g ps asg body => match opd P 0 g, cCode P N asg, cCode P N body with
    | some g, some x, some y => if noRF asg && noRF body then some (.rfun g ps.toList x y) else none
    | _, _, _ => none
  | .refuse _ => none
def VSub (x y : AV) : Prop := ∀ G w v, VRel G w x v → VRel G w y v
theorem VSub.refl (x : AV) : VSub x x := fun _ _ _ h => h
theorem VSub.trans {x y z : AV} (a : VSub x y) (b : VSub y z) : VSub x z := fun G w v h => b G w v (a G w v h)
theorem VSub.any (x : AV) : VSub x .any := fun _ _ _ _ => by simp [VRel]
def VSubs (l m : List AV) : Prop := ∀ G w vs, VRels G w l vs → VRels G w m vs
theorem VSubs.refl (l : List AV) : VSubs l l := fun _ _ _ h => h
theorem VSubs.nil : VSubs [] [] := VSubs.refl _
theorem VSubs.cons {x y : AV} {l m : List AV} (a : VSub x y) (b : VSubs l m) : VSubs (x :: l) (y :: m) := by
  intro G w vs h
  simp only [VRels] at h ⊢
  obtain ⟨v, us, e, h1, h2⟩ := h
  exact ⟨v, us, e, a G w v h1, b G w us h2⟩
theorem VSub.cap {sz : Nat} {xs : List AV} {c : Cap} : VSub (.sl sz xs c) (.sl sz xs .any) := by
  intro G w v h
  simp only [VRel] at h ⊢
  rcases h with ⟨a, b, _⟩ | ⟨B, off, C, vs, h1, h2, h3, h4, h5, h6⟩
  · exact .inl ⟨a, b, by simp [CapNil]⟩
  · exact .inr ⟨B, off, C, vs, h1, h2, h3, h4, h5, by simp [CapOk]⟩
theorem VSub.nil {sz sz' : Nat} {c : Cap} : VSub (.sl sz [] c) (.sl sz' [] .any) := by
  intro G w v h
  simp only [VRel] at h ⊢
  rcases h with ⟨a, b, _⟩ | ⟨B, off, C, vs, h1, h2, h3, h4, h5, h6⟩
  · exact .inl ⟨a, b, by simp [CapNil]⟩
  · have hv : vs = [] := by simpa using h3
    subst hv
    exact .inr ⟨B, off, C, [], h1, h2, by simp, by simp [VElems], Imm.nil, by simp [CapOk]⟩
theorem VSub.agg {l m : List AV} (a : VSubs l m) : VSub (.agg l) (.agg m) := by
  intro G w v h
  simp only [VRel] at h ⊢
  obtain ⟨vs, e, h⟩ := h
  exact ⟨vs, e, a G w vs h⟩
theorem VSub.tup {l m : List AV} (a : VSubs l m) : VSub (.tup l) (.tup m) := by
  intro G w v h
  simp only [VRel] at h ⊢
  obtain ⟨vs, e, h⟩ := h
  exact ⟨vs, e, a G w vs h⟩
section
variable {P : Program}
def ACalls (P : Program) (f : FuncId) (args : List AV) (h : H) (r : AV) (h' : H) : Prop :=
  ∀ G w vs, VRels G w args vs → RepH G h w → Fresh G h h' → Calls P f vs.toArray w fun e w' => ∃ v G', e = .returned v ∧ Trans G w h G' w' h' ∧ RepH G' h' w' ∧ VRel G' w' r v
def H0 (n m : Nat) : H := .only none' [] n m
def PCalls (P : Program) (f : FuncId) (args : List AV) (r : AV) : Prop := ∀ n m, ACalls P f args (H0 n m) r (H0 n m)
structure St where
  t : Tm
  h : H
inductive AExit where
  | normal
  | exit (id : Nat)
  | goto (l : Nat)
  | ret
  | panic (v : Value)
def AExit.says : AExit → Exit → Prop
  | .normal, .normal => True
  | .exit i, .exit j => i = j
  | .goto i, .goto j => i = j
  | .ret, .ret => True
  | .panic v, .panic l => l = [{ v := v, recovered := false }]
  | _, _ => False
def Marks (G : Ghost) (w : World) (h : H) (l : List Deferred) : Prop := l.Nodup ∧ ∀ d ∈ l, ∃ D, d = { target := .collected D, args := #[] } ∧ w.heap[D]? = some (.deferred (some [])) ∧ ¬ h.O G D ∧ ¬ h.T G D
theorem heap_lt {w : World} {B : Nat} {o : Go.Obj} (h : w.heap[B]? = some o) : B < w.heap.size := by
  rcases Nat.lt_or_ge B w.heap.size with hb | hb
  · exact hb
  · have : w.heap[B]? = none := by simp; omega
    rw [this] at h; cases h
theorem Marks.mono {G G' : Ghost} {w w' : World} {h h' : H} {l : List Deferred} (m : Marks G w h l) (T : Trans G w h G' w' h') : Marks G' w' h' l := by
  refine ⟨m.1, fun d hd => ?_⟩
  obtain ⟨D, e, h1, h2, h3⟩ := m.2 d hd
  have hB := heap_lt h1
  exact ⟨D, e, (T.keep D hB h2 h3).trans h1, fun x => h2 (T.O_new D hB x), fun x => h3 (T.T_new D hB x)⟩
structure Rel (N : Nat) (s : St) (G : Ghost) (w : World) (a : Act) : Prop where
  size : a.tmps.size = N
  t : TRel G w s.t a
  h : RepH G s.h w
  df : Marks G w s.h a.defers
def NewM (w : World) (l l' : List Deferred) : Prop := ∀ d ∈ l', d ∈ l ∨ ∃ D, w.heap.size ≤ D ∧ d = { target := .collected D, args := #[] }
theorem NewM.refl {w : World} {l : List Deferred} : NewM w l l := fun d h => .inl h
theorem NewM.trans {w w' : World} {l l' l'' : List Deferred} (a : NewM w l l') (hs : w.heap.size ≤ w'.heap.size) (b : NewM w' l' l'') : NewM w l l'' := by
  intro d h
  rcases b d h with h | ⟨D, h1, h2⟩
  · exact a d h
  · exact .inr ⟨D, by omega, h2⟩
def Run (P : Program) (N : Nat) (c : Code) (s : St) (e : AExit) (s' : St) : Prop :=
  (s.h.n ≤ s'.h.n ∧ s.h.m ≤ s'.h.m) ∧ ∀ ro, okR c ro → ∀ G w a, Rel N s G w a → Fresh G s.h s'.h → c.wpIn (rd ro) 0 P (fun e' a' w' => e.says e' ∧ NewM w a.defers a'.defers ∧ ∃ G', Trans G w s.h G' w' s'.h ∧ Rel N s' G' w' a') a w
def Wp (P : Program) (N : Nat) (c : AC) (s : St) (Q : AExit → St → Prop) : Prop :=
  ∀ code, cCode P N code = some c → ∃ e s', Run P N code s e s' ∧ Q e s'
variable {N : Nat} {s : St} {Q : AExit → St → Prop}
theorem okR.seq {a b : Code} {ro : Option Nat} (h : okR (.seq a b) ro) : okR a ro ∧ okR b ro := by
  rcases h with h | h
  · exact ⟨.inl h, .inl h⟩
  · simp only [noRF, Bool.and_eq_true] at h
    exact ⟨.inr h.1, .inr h.2⟩
theorem okR.cond {z : Operand} {a b : Code} {ro : Option Nat} (h : okR (.cond z a b) ro) (c : Bool) : okR (if c then a else b) ro := by
  rcases h with h | h
  · exact .inl h
  · simp only [noRF, Bool.and_eq_true] at h
    cases c
    · exact .inr h.2
    · exact .inr h.1
theorem okR.block {id : Nat} {a : Code} {ro : Option Nat} (h : okR (.block id a) ro) : okR a ro := h
theorem okR.loop {a : Code} {ro : Option Nat} (h : okR (.loop a) ro) : okR a ro := h
theorem okR.scope {a : Code} {ro : Option Nat} (h : okR (.scope a) ro) : okR a ro := h
theorem okR.find {l : Nat} {ro : Option Nat} : ∀ {c rest : Code}, okR c ro → findLabel c l = some rest → okR rest ro := by
  intro c rest h hf
  rcases h with h | h
  · exact .inl h
  · right
    induction c generalizing rest with
    | seq a b iha ihb =>
      simp only [noRF, Bool.and_eq_true] at h
      simp only [findLabel] at hf
      split at hf
      · rename_i r hr
        cases hf
        simp only [noRF, Bool.and_eq_true]
        exact ⟨iha hr h.1, h.2⟩
      · exact ihb hf h.2
    | label l' =>
      simp only [findLabel] at hf
      split at hf
      · cases hf; rfl
      · cases hf
    | _ => simp [findLabel] at hf
theorem Wp.mono {c : AC} {Q' : AExit → St → Prop} (h : Wp P N c s Q) (hq : ∀ e s', Q e s' → Q' e s') : Wp P N c s Q' :=
  fun code hc => let ⟨e, s', r, q⟩ := h code hc; ⟨e, s', r, hq e s' q⟩
theorem code_skip {code : Code} (h : cCode P N code = some .skip) : code = .skip := by
  unfold cCode at h
  split at h <;> (try rfl) <;> (try cases h)
  all_goals (repeat' split at h) <;> (try cases h) <;> simp at h
theorem Wp.skip (h : Q .normal s) : Wp P N .skip s Q := by
  intro code hc
  obtain rfl := code_skip hc
  exact ⟨.normal, s, ⟨⟨Nat.le_refl _, Nat.le_refl _⟩, fun ro okc G w a r _ => wpIn_skip ⟨trivial, .refl, G, Trans.refl _ _ _, r⟩⟩, h⟩
theorem code_exit {code : Code} {id : Nat} (h : cCode P N code = some (.exit id)) : code = .exit id := by
  unfold cCode at h
  split at h <;> (try rfl) <;> (try cases h)
  all_goals (repeat' split at h) <;> (try cases h) <;> (try rfl) <;> simp at h
theorem Wp.exit {id : Nat} (h : Q (.exit id) s) : Wp P N (.exit id) s Q := by
  intro code hc
  obtain rfl := code_exit hc
  exact ⟨.exit id, s, ⟨⟨Nat.le_refl _, Nat.le_refl _⟩, fun ro okc G w a r _ => wpIn_exit ⟨rfl, .refl, G, Trans.refl _ _ _, r⟩⟩, h⟩
theorem code_ret {code : Code} (h : cCode P N code = some .ret) : code = .ret := by
  unfold cCode at h
  split at h <;> (try rfl) <;> (try cases h)
  all_goals (repeat' split at h) <;> (try cases h) <;> (try rfl) <;> simp at h
theorem Wp.ret (h : Q .ret s) : Wp P N .ret s Q := by
  intro code hc
  obtain rfl := code_ret hc
  exact ⟨.ret, s, ⟨⟨Nat.le_refl _, Nat.le_refl _⟩, fun ro okc G w a r _ => wpIn_ret ⟨trivial, .refl, G, Trans.refl _ _ _, r⟩⟩, h⟩
theorem code_seq {code : Code} {x y : AC} (h : cCode P N code = some (.seq x y)) : ∃ a b, code = .seq a b ∧ cCode P N a = some x ∧ cCode P N b = some y := by
  cases code <;> simp only [cCode] at h <;> (try cases h)
  · (repeat' split at h) <;> cases h
  · split at h
    · cases h; exact ⟨_, _, rfl, ‹_›, ‹_›⟩
    · cases h
  · (repeat' split at h) <;> cases h
  all_goals first | (simp at h; done) | ((repeat' split at h) <;> cases h; done)
def AExit.andThen (K : St → Prop) (Q : AExit → St → Prop) : AExit → St → Prop
  | .normal, s => K s
  | e, s => Q e s
theorem Wp.seq {x y : AC} (h : Wp P N x s (AExit.andThen (fun s' => Wp P N y s' Q) Q)) : Wp P N (.seq x y) s Q := by
  intro code hc
  obtain ⟨a, b, rfl, ha, hb⟩ := code_seq hc
  obtain ⟨e, s1, r1, q1⟩ := h a ha
  cases e with
  | normal =>
    obtain ⟨e2, s2, r2, q2⟩ := q1 b hb
    obtain ⟨⟨l1, l2⟩, r1⟩ := r1
    obtain ⟨⟨l3, l4⟩, r2⟩ := r2
    refine ⟨e2, s2, ⟨⟨by omega, by omega⟩, fun ro okc G w ac r F => wpIn_seq (wpIn_mono (r1 ro okc.seq.1 G w ac r (F.sub (Nat.le_refl _) l3 (Nat.le_refl _) l4)) ?_)⟩, q2⟩
    rintro e' a' w' ⟨h1, h2, G', T1, r'⟩
    cases e' <;> simp only [AExit.says] at h1
    refine wpIn_mono (r2 ro okc.seq.2 G' w' a' r' (F.step T1)) ?_
    rintro e'' a'' w'' ⟨k1, k2, G'', T2, r''⟩
    exact ⟨k1, h2.trans T1.size_le k2, G'', T1.trans r.h r'.h T2, r''⟩
  | exit id =>
    refine ⟨.exit id, s1, ⟨r1.1, fun ro okc G w ac r F => wpIn_seq (wpIn_mono (r1.2 ro okc.seq.1 G w ac r F) ?_)⟩, q1⟩
    rintro e' a' w' ⟨h1, h2⟩
    cases e' <;> simp only [AExit.says] at h1
    exact ⟨h1, h2⟩
  | goto l =>
    refine ⟨.goto l, s1, ⟨r1.1, fun ro okc G w ac r F => wpIn_seq (wpIn_mono (r1.2 ro okc.seq.1 G w ac r F) ?_)⟩, q1⟩
    rintro e' a' w' ⟨h1, h2⟩
    cases e' <;> simp only [AExit.says] at h1
    exact ⟨h1, h2⟩
  | ret =>
    refine ⟨.ret, s1, ⟨r1.1, fun ro okc G w ac r F => wpIn_seq (wpIn_mono (r1.2 ro okc.seq.1 G w ac r F) ?_)⟩, q1⟩
    rintro e' a' w' ⟨h1, h2⟩
    cases e' <;> simp only [AExit.says] at h1
    exact ⟨trivial, h2⟩
  | panic v =>
    refine ⟨.panic v, s1, ⟨r1.1, fun ro okc G w ac r F => wpIn_seq (wpIn_mono (r1.2 ro okc.seq.1 G w ac r F) ?_)⟩, q1⟩
    rintro e' a' w' ⟨h1, h2⟩
    cases e' <;> simp only [AExit.says] at h1
    exact ⟨h1, h2⟩
theorem code_cond {code : Code} {c : Opd} {x y : AC} (h : cCode P N code = some (.cond c x y)) : ∃ z a b, code = .cond z a b ∧ opd P 0 z = some c ∧ cCode P N a = some x ∧ cCode P N b = some y := by
  cases code <;> simp only [cCode] at h <;> (try cases h)
  · (repeat' split at h) <;> cases h
  · (repeat' split at h) <;> cases h
  · split at h
    · cases h; exact ⟨_, _, _, rfl, ‹_›, ‹_›, ‹_›⟩
    · cases h
  all_goals first | (simp at h; done) | ((repeat' split at h) <;> cases h; done)
theorem Wp.cond {c : Opd} {x y : AC} {b : Bool} (hb : ev s.t c = .bool b) (h : Wp P N (if b then x else y) s Q) : Wp P N (.cond c x y) s Q := by
  intro code hc
  obtain ⟨z, p, q, rfl, h1, h2, h3⟩ := code_cond hc
  obtain ⟨e, s', r, q⟩ := h (if b then p else q) (by cases b <;> simpa)
  refine ⟨e, s', ⟨r.1, fun ro okc G w a rel F => ?_⟩, q⟩
  have hz : a.eval z = .bool b := by
    have := opd_rel h1 rel.t
    rw [hb] at this
    simpa only [VRel] using this
  exact wpIn_cond hz (by have := r.2 ro (okc.cond b) G w a rel F; cases b <;> exact this)
theorem Wp.cond_true {c : Opd} {x y : AC} (hb : ev s.t c = .bool true) (h : Wp P N x s Q) : Wp P N (.cond c x y) s Q := Wp.cond hb h
theorem Wp.cond_false {c : Opd} {x y : AC} (hb : ev s.t c = .bool false) (h : Wp P N y s Q) : Wp P N (.cond c x y) s Q := Wp.cond hb h
theorem Wp.cond_split {c : Opd} {x y : AC} {b : Bool} (hb : ev s.t c = .bool b) (ht : b = true → Wp P N x s Q) (hf : b = false → Wp P N y s Q) : Wp P N (.cond c x y) s Q := by
  cases b
  · exact Wp.cond hb (hf rfl)
  · exact Wp.cond hb (ht rfl)
def AExit.inBlock (id : Nat) (Q : AExit → St → Prop) : AExit → St → Prop
  | .exit i, s => if i = id then Q .normal s else Q (.exit i) s
  | e, s => Q e s
theorem code_block {code : Code} {id : Nat} {x : AC} (h : cCode P N code = some (.block id x)) : ∃ a, code = .block id a ∧ cCode P N a = some x := by
  cases code <;> simp only [cCode] at h <;> (try cases h)
  · (repeat' split at h) <;> cases h
  · (repeat' split at h) <;> cases h
  · (repeat' split at h) <;> cases h
  · simp only [Option.map_eq_some_iff] at h
    obtain ⟨a, h1, h2⟩ := h
    cases h2
    exact ⟨_, rfl, h1⟩
  all_goals first | (simp at h; done) | ((repeat' split at h) <;> cases h; done)
theorem Wp.block {id : Nat} {x : AC} (h : Wp P N x s (AExit.inBlock id Q)) : Wp P N (.block id x) s Q := by
  intro code hc
  obtain ⟨a, rfl, ha⟩ := code_block hc
  obtain ⟨e, s1, r1, q1⟩ := h a ha
  cases e with
  | normal =>
    refine ⟨.normal, s1, ⟨r1.1, fun ro okc G w ac r F => wpIn_block (wpIn_mono (r1.2 ro okc.block G w ac r F) ?_)⟩, q1⟩
    rintro e' a' w' ⟨h1, h2⟩
    cases e' <;> simp only [AExit.says] at h1
    exact ⟨trivial, h2⟩
  | goto l =>
    refine ⟨.goto l, s1, ⟨r1.1, fun ro okc G w ac r F => wpIn_block (wpIn_mono (r1.2 ro okc.block G w ac r F) ?_)⟩, q1⟩
    rintro e' a' w' ⟨h1, h2⟩
    cases e' <;> simp only [AExit.says] at h1
    exact ⟨h1, h2⟩
  | ret =>
    refine ⟨.ret, s1, ⟨r1.1, fun ro okc G w ac r F => wpIn_block (wpIn_mono (r1.2 ro okc.block G w ac r F) ?_)⟩, q1⟩
    rintro e' a' w' ⟨h1, h2⟩
    cases e' <;> simp only [AExit.says] at h1
    exact ⟨trivial, h2⟩
  | panic v =>
    refine ⟨.panic v, s1, ⟨r1.1, fun ro okc G w ac r F => wpIn_block (wpIn_mono (r1.2 ro okc.block G w ac r F) ?_)⟩, q1⟩
    rintro e' a' w' ⟨h1, h2⟩
    cases e' <;> simp only [AExit.says] at h1
    exact ⟨h1, h2⟩
  | exit i =>
    simp only [AExit.inBlock] at q1
    by_cases hi : i = id
    · rw [if_pos hi] at q1
      refine ⟨.normal, s1, ⟨r1.1, fun ro okc G w ac r F => wpIn_block (wpIn_mono (r1.2 ro okc.block G w ac r F) ?_)⟩, q1⟩
      rintro e' a' w' ⟨h1, h2⟩
      cases e' <;> simp only [AExit.says] at h1
      subst h1
      simp only [Exit.inBlock, hi, if_true]
      exact ⟨trivial, h2⟩
    · rw [if_neg hi] at q1
      refine ⟨.exit i, s1, ⟨r1.1, fun ro okc G w ac r F => wpIn_block (wpIn_mono (r1.2 ro okc.block G w ac r F) ?_)⟩, q1⟩
      rintro e' a' w' ⟨h1, h2⟩
      cases e' <;> simp only [AExit.says] at h1
      subst h1
      simp only [Exit.inBlock, hi, if_false]
      exact ⟨rfl, h2⟩
structure StLe (s s' : St) : Prop where
  n : s.h.n ≤ s'.h.n
  m : s.h.m ≤ s'.h.m
  go : ∀ N G w a, Rel N s G w a → Fresh G s.h s'.h → ∃ G', Trans G w s.h G' w s'.h ∧ Rel N s' G' w a
theorem StLe.refl (s : St) : StLe s s := ⟨Nat.le_refl _, Nat.le_refl _, fun N G w a r _ => ⟨G, Trans.refl _ _ _, r⟩⟩
theorem StLe.trans {s s' s'' : St} (a : StLe s s') (b : StLe s' s'') : StLe s s'' := by
  refine ⟨Nat.le_trans a.n b.n, Nat.le_trans a.m b.m, fun N G w ac r F => ?_⟩
  obtain ⟨G1, T1, r1⟩ := a.go N G w ac r (F.sub (Nat.le_refl _) b.n (Nat.le_refl _) b.m)
  obtain ⟨G2, T2, r2⟩ := b.go N G1 w ac r1 (F.step T1)
  exact ⟨G2, T1.trans r.h r1.h T2, r2⟩
def OSub : Obj → Obj → Prop
  | .cells cs, .cells cs' => VSubs cs cs'
  | .map es, .map es' => es = es'
  | .loop N t ps a b st p, o' => o' = .loop N t ps a b st p
  | _, _ => False
theorem OSub.refl (o : Obj) : OSub o o := by cases o <;> simp [OSub, VSubs.refl]
def HLe (h h' : H) : Prop := (∀ j o', h'.objs j = some o' → ∃ o, h.objs j = some o ∧ OSub o o') ∧ ∀ t ∈ h'.toks, t ∈ h.toks
theorem H.sub.le {h h' : H} (s : h'.sub h) : HLe h h' := ⟨fun j o x => ⟨o, s.1 j o x, OSub.refl o⟩, s.2⟩
theorem ORel.sub {G : Ghost} {w : World} {o o' : Obj} {x : Option Go.Obj} (h : ORel G w o x) (s : OSub o o') : ORel G w o' x := by
  cases o <;> cases o' <;> simp only [OSub] at s
  · simp only [ORel] at h ⊢
    obtain ⟨vs, rest, T, fr, h1, h2, h3⟩ := h
    exact ⟨vs, rest, T, fr, h1, s G w vs h2, h3⟩
  · subst s; exact h
  all_goals (rw [s]; exact h)
theorem RepH.le {G : Ghost} {w : World} {h h' : H} (R : RepH G h w) (s : HLe h h') : RepH G h' w where
  obj id o' ho' := by
    obtain ⟨o, ho, hs⟩ := s.1 id o' ho'
    obtain ⟨a, b, c, d⟩ := R.obj id o ho
    exact ⟨a, b, c, d.sub hs⟩
  inj id id' o o' ho ho' := by
    obtain ⟨p, hp, -⟩ := s.1 id o ho
    obtain ⟨p', hp', -⟩ := s.1 id' o' ho'
    exact R.inj id id' p p' hp hp'
  tok t ht := R.tok t (s.2 t ht)
  tinj t ht t' ht' := R.tinj t (s.2 t ht) t' (s.2 t' ht')
theorem Trans.le {G : Ghost} {w : World} {h h' : H} (s : HLe h h') (n : h.n ≤ h'.n) (m : h.m ≤ h'.m) : Trans G w h G w h' where
  dom_le _ x := x
  dom_new _ := .inl
  ι_eq _ _ := rfl
  tdom_le _ x := x
  tdom_new _ := .inl
  τ_eq _ _ := rfl
  n_le := n
  m_le := m
  size_le := Nat.le_refl _
  os := rfl
  output := rfl
  form _ _ := SameForm.refl _
  keep _ _ _ _ := rfl
  own_keep _ _ _ := Iff.rfl
  lim_keep _ _ _ _ := rfl
  tok_keep _ _ _ _ e he := ⟨fun _ _ => rfl, fun e' he' => by rw [he] at he'; cases he'; exact Nat.le_refl _⟩
  O_new _ _ := fun ⟨id, o, ho, e⟩ => let ⟨o', ho', _⟩ := s.1 id o ho; ⟨id, o', ho', e⟩
  T_new _ _ := fun ⟨t, ht, e⟩ => ⟨t, s.2 t ht, e⟩
  objs_new j o x := let ⟨o', ho', _⟩ := s.1 j o x; .inl ⟨o', ho'⟩
  toks_new t x := .inl (s.2 t x)
theorem StLe.mk' {t t' : Tm} {h h' : H} (ht : ∀ i, VSub (t i) (t' i)) (hh : HLe h h') (n : h.n ≤ h'.n) (m : h.m ≤ h'.m) : StLe ⟨t, h⟩ ⟨t', h'⟩ :=
  ⟨n, m, fun N G w a r _ => ⟨G, Trans.le hh n m, ⟨r.size, fun i => ht i G w _ (r.t i), r.h.le hh, r.df.mono (Trans.le hh n m)⟩⟩⟩
theorem StLe.tok (t : Tm) (h : H) : StLe ⟨t, h⟩ ⟨t, { h with toks := h.m :: h.toks, m := h.m + 1 }⟩ := by
  refine ⟨Nat.le_refl _, Nat.le_succ _, fun N G w a r F => ?_⟩
  have hm : ¬ G.tdom h.m := F.2 h.m (Nat.le_refl _) (Nat.lt_succ_self _)
  let G' : Ghost := { G with tdom := fun x => G.tdom x ∨ x = h.m, τ := upd G.τ h.m none }
  have hτ : G'.τ h.m = none := by simp [G', upd]
  have hne : ∀ x, G.tdom x → G'.τ x = G.τ x := fun x hx => by
    simp only [G', upd]
    rw [if_neg]
    rintro rfl; exact hm hx
  have T : Trans G w h G' w { h with toks := h.m :: h.toks, m := h.m + 1 } := by
    constructor
    · exact fun _ x => x
    · exact fun _ => .inl
    · exact fun _ _ => rfl
    · exact fun _ => .inl
    · rintro x (hx | rfl)
      · exact .inl hx
      · exact .inr ⟨Nat.le_refl _, Nat.lt_succ_self _⟩
    · exact hne
    · exact Nat.le_refl _
    · exact Nat.le_succ _
    · exact Nat.le_refl _
    · rfl
    · rfl
    · exact fun _ _ => SameForm.refl _
    · exact fun _ _ _ _ => rfl
    · exact fun _ _ _ => Iff.rfl
    · exact fun _ _ _ _ => rfl
    · exact fun _ _ _ _ e he => ⟨fun _ _ => rfl, fun e' he' => by
        have : G.lim _ = some e' := he'
        rw [he] at this; cases this; exact Nat.le_refl _⟩
    · exact fun _ _ x => x
    · rintro B _ ⟨x, hx, e, hte⟩
      rcases List.mem_cons.1 hx with rfl | hx
      · rw [hτ] at hte; cases hte
      · exact ⟨x, hx, e, by rw [← hte]; exact (hne x (r.h.tok x hx).1).symm⟩
    · exact fun j o x => .inl ⟨o, x⟩
    · intro x hx
      rcases List.mem_cons.1 hx with rfl | hx
      · exact .inr ⟨Nat.le_refl _, Nat.lt_succ_self _⟩
      · exact .inl hx
  refine ⟨G', T, r.size, fun i => VRel.mono r.h T _ _ (r.t i), ⟨?_, r.h.inj, ?_, ?_⟩, r.df.mono T⟩
  · intro id o ho
    obtain ⟨q1, q2, q3, q4⟩ := r.h.obj id o ho
    exact ⟨q1, q2, q3, q4.mono r.h T⟩
  · intro x hx
    rcases List.mem_cons.1 hx with rfl | hx
    · exact ⟨.inr rfl, fun B e hte => by rw [hτ] at hte; cases hte⟩
    · obtain ⟨q1, q2⟩ := r.h.tok x hx
      exact ⟨.inl q1, fun B e hte => q2 B e (by rw [← hne x q1]; exact hte)⟩
  · intro x hx x' hx' B e e' h1 h2
    rcases List.mem_cons.1 hx with rfl | hx
    · rw [hτ] at h1; cases h1
    · rcases List.mem_cons.1 hx' with rfl | hx'
      · rw [hτ] at h2; cases h2
      · exact r.h.tinj x hx x' hx' B e e' (by rw [← hne x (r.h.tok x hx).1]; exact h1) (by rw [← hne x' (r.h.tok x' hx').1]; exact h2)
theorem Run.le {c : Code} {s' s'' : St} {e : AExit} (h : StLe s s') (r : Run P N c s' e s'') : Run P N c s e s'' := by
  obtain ⟨⟨rn, rm⟩, rr⟩ := r
  refine ⟨⟨Nat.le_trans h.n rn, Nat.le_trans h.m rm⟩, fun ro okc G w a rel F => ?_⟩
  obtain ⟨G1, T1, rel1⟩ := h.go N G w a rel (F.sub (Nat.le_refl _) rn (Nat.le_refl _) rm)
  refine wpIn_mono (rr ro okc G1 w a rel1 (F.step T1)) ?_
  rintro e' a' w' ⟨h1, h2, G', T, r'⟩
  exact ⟨h1, h2, G', T1.trans rel.h rel1.h T, r'⟩
theorem Wp.le {c : AC} {s' : St} (h : StLe s s') (hw : Wp P N c s' Q) : Wp P N c s Q :=
  fun code hc => let ⟨e, s'', r, q⟩ := hw code hc; ⟨e, s'', r.le h, q⟩
theorem code_loop {code : Code} {x : AC} (h : cCode P N code = some (.loop x)) : ∃ a, code = .loop a ∧ cCode P N a = some x := by
  cases code <;> simp only [cCode] at h <;> (try cases h)
  · (repeat' split at h) <;> cases h
  · (repeat' split at h) <;> cases h
  · (repeat' split at h) <;> cases h
  · simp at h
  · simp only [Option.map_eq_some_iff] at h
    obtain ⟨a, h1, h2⟩ := h
    cases h2
    exact ⟨_, rfl, h1⟩
  all_goals first | (simp at h; done) | ((repeat' split at h) <;> cases h; done)
theorem wp_loop_ix {F : Fence} {n : Nat} {β : Type} {c : Code} {Q : Exit → Act → World → Prop} (I : β → Act → World → Prop) (μ : β → Nat)
    (round : ∀ b a w, I b a w → c.wpIn F n P (Exit.then (fun a' w' => ∃ b', I b' a' w' ∧ μ b' < μ b) Q) a w) {b : β} {a : Act} {w : World} (h₀ : I b a w) : (Code.loop c).wpIn F n P Q a w := by
  intro fr k cs hro hb hr
  have key : ∀ j b a w, μ b = j → I b a w → ∃ e a' w', Q e a' w' ∧ ArrivesIn (Machine.fenced P F) P (lone (fr.atR a (.code c :: .inLoop c :: k)) cs w) fr k cs e a' w' := by
    intro j
    induction j using Nat.strongRecOn with
    | _ j ih =>
      intro b a w hn hI
      obtain ⟨e, a₁, w₁, hq, harr⟩ := round b a w hI fr (.inLoop c :: k) cs hro hb hr
      cases e with
      | normal =>
        obtain ⟨b₁, hI₁, hlt⟩ := hq
        obtain ⟨e₂, a₂, w₂, hq₂, harr₂⟩ := ih (μ b₁) (hn ▸ hlt) b₁ a₁ w₁ rfl hI₁
        exact ⟨e₂, a₂, w₂, hq₂, .of_steps (StepsIn.trans harr (.one (fenced_calm hb hr rfl) stepR_inLoop)) harr₂⟩
      | exit id => exact ⟨_, a₁, w₁, hq, .pass (x := .inLoop c) rfl (fun _ _ => .inl (by simp)) harr⟩
      | goto l => exact ⟨_, a₁, w₁, hq, .pass (x := .inLoop c) rfl (fun _ _ => .inl (by simp)) harr⟩
      | ret => exact ⟨_, a₁, w₁, hq, .pass (x := .inLoop c) rfl (fun _ _ => .inl (by simp)) harr⟩
      | panic ch => exact ⟨_, a₁, w₁, hq, .pass (x := .inLoop c) rfl (fun _ _ => .inl (by simp)) harr⟩
      | outgrown => exact ⟨_, a₁, w₁, hq, .pass (x := .inLoop c) rfl (fun _ _ => .inl (by simp)) harr⟩
  obtain ⟨e, a', w', hq, harr⟩ := key _ b a w rfl h₀
  exact ⟨e, a', w', hq, .of_steps (.one (fenced_calm hb hr rfl) stepR_loop) harr⟩
inductive Comes' {β : Type} (P : Program) (N : Nat) (c : Code) (S : β → St) (μ : β → Nat) : β → AExit → St → Prop where
  | last {b : β} {e : AExit} {s' : St} (r : Run P N c (S b) e s') (hne : e ≠ .normal) : Comes' P N c S μ b e s'
  | more {b b' : β} {e : AExit} {s1 s' : St} (r : Run P N c (S b) .normal s1) (hle : StLe s1 (S b')) (hlt : μ b' < μ b) (rest : Comes' P N c S μ b' e s') : Comes' P N c S μ b e s'
theorem Comes'.nm {β : Type} {c : Code} {S : β → St} {μ : β → Nat} {b : β} {e : AExit} {s' : St} (h : Comes' P N c S μ b e s') : (S b).h.n ≤ s'.h.n ∧ (S b).h.m ≤ s'.h.m := by
  induction h with
  | last r _ => exact r.1
  | more r hle _ _ ih => have := r.1; have := hle.n; have := hle.m; omega
theorem Wp.loop {β : Type} (S : β → St) (I : β → Prop) (μ : β → Nat) {c : AC} (b0 : β) (h0 : I b0) (hs : StLe s (S b0))
    (round : ∀ b, I b → Wp P N c (S b) (AExit.andThen (fun s' => ∃ b', I b' ∧ μ b' < μ b ∧ StLe s' (S b')) Q)) : Wp P N (.loop c) s Q := by
  intro code hc
  obtain ⟨x, rfl, hx⟩ := code_loop hc
  have ex : ∀ n b, μ b = n → I b → ∃ e s', Comes' P N x S μ b e s' ∧ Q e s' := by
    intro n
    induction n using Nat.strongRecOn with
    | _ n ih =>
      intro b hn hb
      obtain ⟨e, s1, r1, q1⟩ := round b hb x hx
      cases e with
      | normal =>
        obtain ⟨b', i1, i2, i3⟩ := q1
        obtain ⟨e, s', r', q'⟩ := ih (μ b') (hn ▸ i2) b' rfl i1
        exact ⟨e, s', .more r1 i3 i2 r', q'⟩
      | exit id => exact ⟨_, s1, .last r1 (by simp), q1⟩
      | goto l => exact ⟨_, s1, .last r1 (by simp), q1⟩
      | ret => exact ⟨_, s1, .last r1 (by simp), q1⟩
      | panic v => exact ⟨_, s1, .last r1 (by simp), q1⟩
  obtain ⟨e, s', hcm, q⟩ := ex _ b0 rfl h0
  refine ⟨e, s', Run.le hs ⟨hcm.nm, fun ro okc G0 w0 a0 rel0 F0 => ?_⟩, q⟩
  refine wp_loop_ix (fun b a w => Comes' P N x S μ b e s' ∧ NewM w0 a0.defers a.defers ∧ ∃ G, Trans G0 w0 (S b0).h G w (S b).h ∧ Rel N (S b) G w a ∧ Fresh G (S b).h s'.h) μ ?_ ⟨hcm, .refl, G0, Trans.refl _ _ _, rel0, F0⟩
  rintro b a w ⟨hcm, hd, G, T, rel, F⟩
  cases hcm with
  | last r hne =>
    refine wpIn_mono (r.2 ro okc.loop G w a rel F) ?_
    rintro e' a' w' ⟨h1, h2, G', T', r'⟩
    have : e' ≠ .normal := by
      rintro rfl
      cases e <;> simp [AExit.says] at h1 hne
    have hgoal : e.says e' ∧ NewM w0 a0.defers a'.defers ∧ ∃ G', Trans G0 w0 (S b0).h G' w' s'.h ∧ Rel N s' G' w' a' := ⟨h1, hd.trans T.size_le h2, G', T.trans rel0.h rel.h T', r'⟩
    cases e' <;> first | exact hgoal | exact absurd rfl this
  | more r hle hlt rest =>
    have nm := rest.nm
    refine wpIn_mono (r.2 ro okc.loop G w a rel (F.sub (Nat.le_refl _) (Nat.le_trans hle.n nm.1) (Nat.le_refl _) (Nat.le_trans hle.m nm.2))) ?_
    rintro e' a' w' ⟨h1, h2, G', T', r'⟩
    cases e' <;> simp only [AExit.says] at h1
    rename_i b' s1
    have F1 := F.step T'
    obtain ⟨G2, T2, r2⟩ := hle.go N G' w' a' r' (F1.sub (Nat.le_refl _) nm.1 (Nat.le_refl _) nm.2)
    have T3 := (T.trans rel0.h rel.h T').trans rel0.h r'.h T2
    exact ⟨b', ⟨rest, hd.trans T.size_le h2, G2, T3, r2, F1.step T2⟩, hlt⟩
def findL : AC → Nat → Option AC
  | .seq a b, l => match findL a l with
    | some r => some (.seq r b)
    | none => findL b l
  | .label l', l => if l' = l then some .skip else none
  | _, _ => none
theorem find_label {l : Nat} : ∀ {c : Code} {x : AC}, cCode P N c = some x → match findLabel c l with | some rest => ∃ y, cCode P N rest = some y ∧ findL x l = some y | none => findL x l = none := by
  intro c
  induction c with
  | seq a b iha ihb =>
    intro x h
    obtain ⟨a', b', he, h1, h2⟩ : ∃ a' b', x = .seq a' b' ∧ cCode P N a = some a' ∧ cCode P N b = some b' := by
      simp only [cCode] at h
      split at h
      · cases h; exact ⟨_, _, rfl, ‹_›, ‹_›⟩
      · cases h
    subst he
    have ga := iha h1
    have gb := ihb h2
    simp only [findLabel, findL]
    cases hf : findLabel a l with
    | some rest =>
      rw [hf] at ga
      obtain ⟨y, y1, y2⟩ := ga
      simp only [y2]
      exact ⟨_, by simp only [cCode, y1, h2], rfl⟩
    | none =>
      rw [hf] at ga
      simp only at ga
      simp only [ga]
      exact gb
  | label l' =>
    intro x h
    simp only [cCode, Option.some.injEq] at h
    subst h
    simp only [findLabel, findL]
    by_cases e : l' = l
    · simp only [e, beq_self_eq_true, if_true]
      exact ⟨.skip, rfl, rfl⟩
    · have : (l' == l) = false := by simpa using e
      simp only [this, if_neg e, Bool.false_eq_true, if_false]
  | skip => intro x h; simp only [cCode, Option.some.injEq] at h; subst h; simp [findLabel, findL]
  | region id ops draw =>
    intro x h
    simp only [cCode] at h
    (repeat' split at h) <;> cases h <;> simp [findLabel, findL]
  | cond z a b _ _ =>
    intro x h
    simp only [cCode] at h
    split at h <;> cases h
    simp [findLabel, findL]
  | block id a _ => intro x h; simp only [cCode, Option.map_eq_some_iff] at h; obtain ⟨_, _, rfl⟩ := h; simp [findLabel, findL]
  | loop a _ => intro x h; simp only [cCode, Option.map_eq_some_iff] at h; obtain ⟨_, _, rfl⟩ := h; simp [findLabel, findL]
  | rangeFunc g ps a b _ _ =>
    intro x h
    simp only [cCode] at h
    (repeat' split at h) <;> cases h <;> simp [findLabel, findL]
  | exit id => intro x h; simp only [cCode, Option.some.injEq] at h; subst h; simp [findLabel, findL]
  | scope a _ => intro x h; simp only [cCode, Option.map_eq_some_iff] at h; obtain ⟨_, _, rfl⟩ := h; simp [findLabel, findL]
  | goto l' => intro x h; simp only [cCode, Option.some.injEq] at h; subst h; simp [findLabel, findL]
  | ret => intro x h; simp only [cCode, Option.some.injEq] at h; subst h; simp [findLabel, findL]
  | refuse => intro x h; simp [cCode] at h
def ScopeWp (F : Fence) (n : Nat) (P : Program) (c cur : Code) (Q : Exit → Act → World → Prop) (a : Act) (w : World) : Prop :=
  ∀ (b : Frame) (k : List Item) (cs : List Frame), b.roundOf = F.round → F.fn b.fn → F.room (cs.length + 1 + n) →
    ∃ e a' w', Q e a' w' ∧ ArrivesIn (Machine.fenced P F) P (lone (b.atR a (.code cur :: .inScope c :: k)) cs w) b k cs e a' w'
theorem stepR_scope {b : Frame} {a : Act} {k : List Item} {cs : List Frame} {w : World} {c : Code} : step P (lone (b.atR a (.code (.scope c) :: k)) cs w) = .next (lone (b.atR a (.code c :: .inScope c :: k)) cs w) :=
  step_lone_go (by simp [stepG, stepG.exec, Frame.atR])
theorem stepR_inScope {b : Frame} {a : Act} {k : List Item} {cs : List Frame} {w : World} {c : Code} : step P (lone (b.atR a (.inScope c :: k)) cs w) = .next (lone (b.atR a k) cs w) :=
  step_lone_go (by simp [stepG, stepG.exec, Frame.atR])
theorem ScopeWp.start {F : Fence} {n : Nat} {c : Code} {Q : Exit → Act → World → Prop} {a : Act} {w : World} (h : ScopeWp F n P c c Q a w) : (Code.scope c).wpIn F n P Q a w := by
  intro b k cs hro hb hr
  obtain ⟨e, a₁, w₁, hq, harr⟩ := h b k cs hro hb hr
  exact ⟨e, a₁, w₁, hq, .of_steps (.one (fenced_calm hb hr rfl) stepR_scope) harr⟩
def Exit.within (F : Fence) (n : Nat) (P : Program) (c : Code) (Q : Exit → Act → World → Prop) : Exit → Act → World → Prop
  | .goto l, a, w => match findLabel c l with
    | some rest => ScopeWp F n P c rest Q a w
    | none => Q (.goto l) a w
  | e, a, w => Q e a w
theorem ScopeWp.step {F : Fence} {n : Nat} {c cur : Code} {Q : Exit → Act → World → Prop} {a : Act} {w : World} (h : cur.wpIn F n P (Exit.within F n P c Q) a w) : ScopeWp F n P c cur Q a w := by
  intro b k cs hro hb hr
  obtain ⟨e, a₁, w₁, hq, harr⟩ := h b (.inScope c :: k) cs hro hb hr
  cases e with
  | normal => exact ⟨.normal, a₁, w₁, hq, StepsIn.trans harr (.one (fenced_calm hb hr rfl) stepR_inScope)⟩
  | exit id => exact ⟨.exit id, a₁, w₁, hq, fun k' hk => harr.1 k' (by simp [exitTo, hk]), fun h1 h2 => harr.2 h1 (by simp [exitTo, h2])⟩
  | goto l =>
    simp only [Exit.within] at hq
    cases hf : findLabel c l with
    | some rest =>
      rw [hf] at hq
      obtain ⟨e₂, a₂, w₂, hq₂, harr₂⟩ := hq b k cs hro hb hr
      exact ⟨e₂, a₂, w₂, hq₂, .of_steps (harr.1 _ (by simp [gotoIn, hf])) harr₂⟩
    | none =>
      rw [hf] at hq
      exact ⟨.goto l, a₁, w₁, hq, fun k' hk => harr.1 k' (by simp [gotoIn, hf, hk]), fun h1 h2 => harr.2 h1 (by simp [gotoIn, hf, h2])⟩
  | ret => exact ⟨_, a₁, w₁, hq, harr⟩
  | panic ch => exact ⟨_, a₁, w₁, hq, harr⟩
  | outgrown => exact ⟨_, a₁, w₁, hq, harr⟩
def RunS (P : Program) (N : Nat) (c cur : Code) (s : St) (e : AExit) (s' : St) : Prop :=
  (s.h.n ≤ s'.h.n ∧ s.h.m ≤ s'.h.m) ∧ ∀ ro, okR c ro → okR cur ro → ∀ G w a, Rel N s G w a → Fresh G s.h s'.h → ScopeWp (rd ro) 0 P c cur (fun e' a' w' => e.says e' ∧ NewM w a.defers a'.defers ∧ ∃ G', Trans G w s.h G' w' s'.h ∧ Rel N s' G' w' a') a w
def WpS (P : Program) (N : Nat) (c cur : AC) (s : St) (Q : AExit → St → Prop) : Prop :=
  ∀ code ccur, cCode P N code = some c → cCode P N ccur = some cur → ∃ e s', RunS P N code ccur s e s' ∧ Q e s'
theorem code_scope {code : Code} {x : AC} (h : cCode P N code = some (.scope x)) : ∃ a, code = .scope a ∧ cCode P N a = some x := by
  cases code <;> simp only [cCode] at h <;> (try cases h)
  all_goals first
    | (simp only [Option.map_eq_some_iff] at h
       obtain ⟨a, h1, h2⟩ := h
       cases h2
       exact ⟨_, rfl, h1⟩)
    | (simp at h; done)
    | ((repeat' split at h) <;> cases h; done)
theorem code_label {code : Code} {l : Nat} (h : cCode P N code = some (.label l)) : code = .label l := by
  cases code <;> simp only [cCode] at h <;> (try cases h) <;> (try rfl)
  all_goals first | ((repeat' split at h) <;> cases h; done) | (simp at h; done)
theorem code_goto {code : Code} {l : Nat} (h : cCode P N code = some (.goto l)) : code = .goto l := by
  cases code <;> simp only [cCode] at h <;> (try cases h) <;> (try rfl)
  all_goals first | ((repeat' split at h) <;> cases h; done) | (simp at h; done)
theorem Wp.label {l : Nat} (h : Q .normal s) : Wp P N (.label l) s Q := by
  intro code hc
  obtain rfl := code_label hc
  exact ⟨.normal, s, ⟨⟨Nat.le_refl _, Nat.le_refl _⟩, fun ro okc G w a r _ => wpIn_label ⟨trivial, .refl, G, Trans.refl _ _ _, r⟩⟩, h⟩
theorem Wp.goto {l : Nat} (h : Q (.goto l) s) : Wp P N (.goto l) s Q := by
  intro code hc
  obtain rfl := code_goto hc
  exact ⟨.goto l, s, ⟨⟨Nat.le_refl _, Nat.le_refl _⟩, fun ro okc G w a r _ => wpIn_goto ⟨rfl, .refl, G, Trans.refl _ _ _, r⟩⟩, h⟩
theorem Wp.scope {c : AC} (h : WpS P N c c s Q) : Wp P N (.scope c) s Q := by
  intro code hc
  obtain ⟨x, rfl, hx⟩ := code_scope hc
  obtain ⟨e, s', r, q⟩ := h x x hx hx
  exact ⟨e, s', ⟨r.1, fun ro okc G w a rel F => (r.2 ro okc.scope okc.scope G w a rel F).start⟩, q⟩
theorem RunS.le {c cur : Code} {s' s'' : St} {e : AExit} (h : StLe s s') (r : RunS P N c cur s' e s'') : RunS P N c cur s e s'' := by
  obtain ⟨⟨rn, rm⟩, rr⟩ := r
  refine ⟨⟨Nat.le_trans h.n rn, Nat.le_trans h.m rm⟩, fun ro okc okd G w a rel F => ?_⟩
  obtain ⟨G1, T1, rel1⟩ := h.go N G w a rel (F.sub (Nat.le_refl _) rn (Nat.le_refl _) rm)
  intro b k cs hro hb hr
  obtain ⟨e', a', w', ⟨h1, h2, G', T, r'⟩, harr⟩ := rr ro okc okd G1 w a rel1 (F.step T1) b k cs hro hb hr
  exact ⟨e', a', w', ⟨h1, h2, G', T1.trans rel.h rel1.h T, r'⟩, harr⟩
theorem WpS.le {c cur : AC} {s' : St} (h : StLe s s') (hw : WpS P N c cur s' Q) : WpS P N c cur s Q :=
  fun code ccur h1 h2 => let ⟨e, s'', r, q⟩ := hw code ccur h1 h2; ⟨e, s'', r.le h, q⟩
def AExit.within (P : Program) (N : Nat) (c : AC) (Q : AExit → St → Prop) : AExit → St → Prop
  | .goto l, s => match findL c l with
    | some rest => WpS P N c rest s Q
    | none => Q (.goto l) s
  | e, s => Q e s
theorem WpS.step {c cur : AC} (h : Wp P N cur s (AExit.within P N c Q)) : WpS P N c cur s Q := by
  intro code ccur hc hcur
  obtain ⟨e, s1, r1, q1⟩ := h ccur hcur
  cases e with
  | normal =>
    refine ⟨.normal, s1, ⟨r1.1, fun ro okc okd G w ac r F => .step (wpIn_mono (r1.2 ro okd G w ac r F) ?_)⟩, q1⟩
    rintro e' a' w' ⟨h1, h2⟩
    cases e' <;> simp only [AExit.says] at h1
    exact ⟨trivial, h2⟩
  | ret =>
    refine ⟨.ret, s1, ⟨r1.1, fun ro okc okd G w ac r F => .step (wpIn_mono (r1.2 ro okd G w ac r F) ?_)⟩, q1⟩
    rintro e' a' w' ⟨h1, h2⟩
    cases e' <;> simp only [AExit.says] at h1
    exact ⟨trivial, h2⟩
  | panic v =>
    refine ⟨.panic v, s1, ⟨r1.1, fun ro okc okd G w ac r F => .step (wpIn_mono (r1.2 ro okd G w ac r F) ?_)⟩, q1⟩
    rintro e' a' w' ⟨h1, h2⟩
    cases e' <;> simp only [AExit.says] at h1
    exact ⟨h1, h2⟩
  | exit i =>
    refine ⟨.exit i, s1, ⟨r1.1, fun ro okc okd G w ac r F => .step (wpIn_mono (r1.2 ro okd G w ac r F) ?_)⟩, q1⟩
    rintro e' a' w' ⟨h1, h2⟩
    cases e' <;> simp only [AExit.says] at h1
    exact ⟨h1, h2⟩
  | goto l =>
    simp only [AExit.within] at q1
    have hfl := find_label (l := l) hc
    cases hf : findLabel code l with
    | none =>
      rw [hf] at hfl
      simp only at hfl
      rw [hfl] at q1
      refine ⟨.goto l, s1, ⟨r1.1, fun ro okc okd G w ac r F => .step (wpIn_mono (r1.2 ro okd G w ac r F) ?_)⟩, q1⟩
      rintro e' a' w' ⟨h1, h2⟩
      cases e' <;> simp only [AExit.says] at h1
      subst h1
      simp only [Exit.within, hf]
      exact ⟨rfl, h2⟩
    | some rest =>
      rw [hf] at hfl
      obtain ⟨y, y1, y2⟩ := hfl
      rw [y2] at q1
      obtain ⟨e2, s2, r2, q2⟩ := q1 code rest hc y1
      obtain ⟨⟨l1, l2⟩, r1⟩ := r1
      obtain ⟨⟨l3, l4⟩, r2⟩ := r2
      refine ⟨e2, s2, ⟨⟨by omega, by omega⟩, fun ro okc okd G w ac r F => .step (wpIn_mono (r1 ro okd G w ac r (F.sub (Nat.le_refl _) l3 (Nat.le_refl _) l4)) ?_)⟩, q2⟩
      rintro e' a' w' ⟨h1, h2, G', T1, r'⟩
      cases e' <;> simp only [AExit.says] at h1
      subst h1
      simp only [Exit.within, hf]
      intro b k cs hro hb hr
      obtain ⟨e'', a'', w'', ⟨k1, k2, G'', T2, r''⟩, harr⟩ := r2 ro okc (okc.find hf) G' w' a' r' (F.step T1) b k cs hro hb hr
      exact ⟨e'', a'', w'', ⟨k1, h2.trans T1.size_le k2, G'', T1.trans r.h r'.h T2, r''⟩, harr⟩
end
end Go.Av
end
section
set_option linter.unusedVariables false
set_option linter.unusedSimpArgs false
namespace Go.Av
section
variable {P : Program} {N : Nat}
theorem putParts_congr {ρ ρ' : Opd → AV} : ∀ {l : List (Nat × Nat × Opd)} {cs : List AV}, (∀ x ∈ l.map (fun p => p.2.2), ρ x = ρ' x) → putParts ρ l cs = putParts ρ' l cs
  | [], _, _ => rfl
  | (off, n, x) :: l, cs, h => by
    have hx : ρ x = ρ' x := h x (by simp)
    simp only [putParts, hx]
    split
    · exact putParts_congr fun y hy => h y (by simp at hy ⊢; exact .inr hy)
    · rfl
theorem aop_congr {ρ ρ' : Opd → AV} {h : H} {op : AOp} (hh : ∀ x ∈ opdsOf op, ρ x = ρ' x) : aop ρ h op = aop ρ' h op := by
  cases op with
  | build z parts => simp only [aop, putParts_congr (l := parts) hh]
  | raw k xs =>
    have e1 : xs.map ρ = xs.map ρ' := List.map_congr_left fun x hx => hh x (by simpa [opdsOf] using hx)
    simp only [aop, e1]
  | buildSl sz parts =>
    have e1 : parts.map ρ = parts.map ρ' := List.map_congr_left hh
    have e2 : parts.all (fun x => decide ((cellsOf (ρ x)).length = sz ∧ shaped (ρ x) = true)) = parts.all (fun x => decide ((cellsOf (ρ' x)).length = sz ∧ shaped (ρ' x) = true)) := by
      rw [Bool.eq_iff_iff]
      simp only [List.all_eq_true]
      exact ⟨fun k x hx => by rw [← hh x hx]; exact k x hx, fun k x hx => by rw [hh x hx]; exact k x hx⟩
    simp only [aop, e1, e2]
  | mkfn fn a b =>
    have e1 : a.map ρ = a.map ρ' := List.map_congr_left fun x hx => hh x (by simp [opdsOf, hx])
    have e2 : b.map ρ = b.map ρ' := List.map_congr_left fun x hx => hh x (by simp [opdsOf, hx])
    simp only [aop, e1, e2]
  | slc str sz x a b c =>
    have e0 : ρ x = ρ' x := hh x (by simp [opdsOf])
    have e1 : ∀ y : Option Opd, (∀ z ∈ y.toList, ρ z = ρ' z) → y.map ρ = y.map ρ' := by
      intro y hy; cases y with
      | none => rfl
      | some z => simp [hy z (by simp)]
    have e2 : (c.map fun m => some (ρ m)) = (c.map fun m => some (ρ' m)) := by
      cases c with
      | none => rfl
      | some z => simp [hh z (by simp [opdsOf])]
    simp only [aop, e0, e1 a (fun z hz => hh z (by simp only [opdsOf, List.mem_cons, List.mem_append]; exact .inr (.inl (.inl hz)))), e1 b (fun z hz => hh z (by simp only [opdsOf, List.mem_cons, List.mem_append]; exact .inr (.inl (.inr hz)))), e2]
  | call f l => rfl
  | callv x l => rfl
  | alloc z => rfl
  | dead => rfl
  | pan x => rfl
  | _ => simp [opdsOf] at hh; simp only [aop, hh]
def cutTo (l : List Nat) (t : Tm) : Tm := fun i => if l.contains i then t i else .any
theorem cut_rel {l : List Nat} {G : Ghost} {w : World} {t : Tm} {a : Act} (h : TOn l G w t a) : TRel G w (cutTo l t) a := by
  intro i
  unfold cutTo
  split
  · rename_i hh; exact h i (by simpa using hh)
  · simp [VRel]
theorem cut_ev {l : List Nat} {t : Tm} {xs : List Opd} (h : (tmpsOf xs).all (fun i => l.contains i) = true) : ∀ x ∈ xs, ev (cutTo l t) x = ev t x := by
  intro x hx
  cases x with
  | c a => rfl
  | t i =>
    simp only [ev, cutTo]
    rw [List.all_eq_true] at h
    have := h i (by simp only [tmpsOf, List.mem_filterMap]; exact ⟨_, hx, rfl⟩)
    rw [if_pos this]
def guardOf (t : Tm) (g : Option (Nat × Bool)) : Option Bool :=
  match g with
  | none => some true
  | some (d, w) => match t d with
    | .bool b => some (b == w)
    | .sc (.tuple _) => some false
    | _ => none
theorem guard_wanted {ops : Array Oper} {o : Oper} {g : Option (Nat × Bool)} {t : Tm} {a : Act} {G : Ghost} {w : World} {b : Bool} (hg : cGuard ops o.guard = some g) (ht : TOn (names ops o) G w t a) (hb : guardOf t g = some b) :
    Region.wanted o (yielded ops a.tmps) = b := by
  unfold Region.wanted
  cases hog : o.guard with
  | none =>
    rw [hog] at hg
    simp [cGuard] at hg; subst hg
    simp [guardOf] at hb; simp [hb]
  | some jw =>
    obtain ⟨j, want⟩ := jw
    rw [hog] at hg
    simp only [cGuard] at hg
    split at hg
    · rename_i d hd
      cases hg
      simp only [guardOf] at hb
      split at hb
      · rename_i c hc
        cases hb
        have hr := ht d (by simp only [names, hog, List.mem_append]; right; simp [hd])
        rw [hc] at hr
        simp only [VRel] at hr
        have hy : yielded ops a.tmps j = some c := by
          unfold yielded
          rw [hd]
          simp only [Option.bind_some]
          have : a.tmps[d]? = some (.bool c) := by
            cases hk : a.tmps[d]? with
            | none => simp [hk] at hr; simp [undef] at hr
            | some v => simp [hk] at hr; rw [hr]
          rw [this]
        simp only [hy]
        cases c <;> cases want <;> rfl
      · rename_i xs hc
        cases hb
        have hr := ht d (by simp only [names, hog, List.mem_append]; right; simp [hd])
        rw [hc] at hr
        simp only [VRel] at hr
        have hy : yielded ops a.tmps j = none := by
          unfold yielded
          rw [hd]
          simp only [Option.bind_some]
          cases hk : a.tmps[d]? with
          | none => rfl
          | some v => simp [hk] at hr; rw [hr]
        simp only [hy]
        cases want <;> rfl
      · cases hb
    · cases hg
theorem cOp_plain {o : Oper} {op : AOp} (h : cOp P o = some op) : ∀ c, o.op ≠ .defer c := by
  intro c e
  unfold cOp at h
  rw [e] at h
  cases h
theorem callsIn_rd {ro : Option Nat} {n : Nat} {f : FuncId} {args : Array Value} {w : World} {R : Ending → World → Prop} (h : Calls P f args w R) : CallsIn (rd ro) n P f args w R := by
  have h2 : CallsIn Fence.wide n P f args w R := callsIn_wide.2 h
  exact h2
theorem itrun_op {ops : Array Oper} {i : Nat} {o : Oper} {it : AItem} {t : Tm} {h h' : H} {x : AV} {en : Ent} (ho : ops[i]? = some o) (hit : cItem P N ops o = some it) (hg : guardOf t it.guard = some true) (hx : aop (ev t) h it.op = some (x, h', en)) :
    ∃ h1 h1', Touch h h1 h1' h' en ∧ ItRun P ops i o t h1 x h1' := by
  unfold cItem at hit
  split at hit
  · rename_i op g hop hgd
    split at hit <;> cases hit
    rename_i hcond
    simp only [Bool.and_eq_true] at hcond
    have hx' : aop (ev (cutTo (names ops o) t)) h op = some (x, h', en) := by
      rw [aop_congr (cut_ev hcond.2)]; exact hx
    obtain ⟨hpl, h1, h1', tc, loc⟩ : (∀ c, o.op ≠ .defer c) ∧ Loc P o (cutTo (names ops o) t) h x h' en := by
      cases hr : isRaw op with
      | false =>
        have hop := cOpD_of hop (by rintro rfl; simp [aop] at hx) hr
        exact ⟨cOp_plain hop, aop_loc hop hx'⟩
      | true =>
        cases op <;> simp [isRaw] at hr
        have hop := cOpD_raw hop
        refine ⟨cOpB_plain hop, ?_⟩
        simp only [aop, Option.map_eq_some_iff, Prod.mk.injEq] at hx'
        obtain ⟨v, hv, rfl, rfl, rfl⟩ := hx'
        exact Loc.plain fun G w a ht => raw_plain hop hv ht
    refine ⟨h1, h1', tc, fun G w a ht R F K Q hK ro => ?_⟩
    obtain ⟨nx, v, w', G', e1, e2, T1, R1, V⟩ := loc G w a (cut_rel ht) R F
    unfold wpOpIn
    rw [ho]
    simp only [guard_wanted hgd ht hg, if_true]
    refine ⟨fun _ _ => trivial, ?_⟩
    rw [Oper.semAt_eq _ _ _ hpl, e1]
    rcases e2 with rfl | ⟨rfl, rfl⟩
    · rw [Oper.uponIn_value]; exact hK G' w' v T1 R1 V
    · rw [Oper.uponIn_skip]; exact hK G' w' undef T1 R1 V
  · cases hit
theorem itrun_skip {ops : Array Oper} {i : Nat} {o : Oper} {it : AItem} {t : Tm} {h : H} (ho : ops[i]? = some o) (hit : cItem P N ops o = some it) (hg : guardOf t it.guard = some false) :
    ItRun P ops i o t (H0 h.n h.m) (.sc undef) (H0 h.n h.m) := by
  unfold cItem at hit
  split at hit
  · rename_i op g hop hgd
    split at hit <;> cases hit
    intro G w a ht R F K Q hK ro
    unfold wpOpIn
    rw [ho]
    simp only [guard_wanted hgd ht hg, if_false, Bool.false_eq_true]
    refine ⟨fun _ _ => trivial, ?_⟩
    exact hK G w undef (Trans.refl _ _ _) R (by simp [VRel])
  · cases hit
theorem cOp_call {o : Oper} {f : FuncId} {l : List Opd} (h : cOp P o = some (.call f l)) : ∃ c fn, o.op = .call c ∧ c.callee = .value (.func f) ∧ opds P c.argTypes.toList c.args.toList = some l ∧ P.funcs[f]? = some fn ∧ fn.body.isSome = true ∧ fn.name ≠ "runtime.NumGoroutine" := by
  unfold cOp at h
  split at h
  case h_28 c hop =>
    split at h
    case h_8 f' hc =>
      split at h
      · split at h
        · rename_i fn hfn hcond
          simp only [Option.map_eq_some_iff] at h
          obtain ⟨l', h1, h2⟩ := h
          cases h2
          exact ⟨c, fn, hop, hc, h1, hfn, hcond.1, hcond.2⟩
        · cases h
      · cases h
    all_goals first
      | (cases h; done)
      | ((repeat' split at h) <;> (try cases h) <;> simp at h)
  all_goals first
    | (cases h; done)
    | (simp at h; done)
    | ((repeat' split at h) <;> (try cases h) <;> (try simp at h) ; done)
    | skip
theorem cOp_callv {o : Oper} {y : Opd} {l : List Opd} (h : cOp P o = some (.callv y l)) : ∃ c z, o.op = .call c ∧ c.callee = .value z ∧ opd P 0 z = some y ∧ opds P c.argTypes.toList c.args.toList = some l := by
  unfold cOp at h
  split at h
  case h_28 c hop =>
    split at h
    case h_9 z _ hc =>
      split at h
      · rename_i a l' h1 h2
        cases h
        exact ⟨c, z, hop, hc, h1, h2⟩
      · cases h
    all_goals first
      | (cases h; done)
      | ((repeat' split at h) <;> (try cases h) <;> simp at h)
  all_goals first
    | (cases h; done)
    | (simp at h; done)
    | ((repeat' split at h) <;> (try cases h) <;> (try simp at h) ; done)
theorem run_callFunc {f : FuncId} {fn : Func} {args : Array Value} (w : World) (hf : P.funcs[f]? = some fn) (hb : fn.body.isSome = true) (hn : fn.name ≠ "runtime.NumGoroutine") : (callFunc f args).run P w = .ok (.enter f args) w := by
  have hb' : fn.body ≠ none := by intro h; rw [h] at hb; cases hb
  simp [callFunc, hf, hn, hb']
theorem upon_calls {o : Oper} {f : FuncId} {vals : List AV} {h1 h1' : H} {r : AV} (hc : ACalls P f vals h1 r h1') {G : Ghost} {w : World} {a : Act} {vs : List Value} (hv : VRels G w vals vs) (R : RepH G h1 w) (F : Fresh G h1 h1') {K : Act → World → Prop} {Q : Exit → Act → World → Prop} {ro : Option Nat} (hd : ∀ c, o.op ≠ .defer c)
    (hK : ∀ G' w' v, Trans G w h1 G' w' h1' → RepH G' h1' w' → VRel G' w' r v → K (a.put o.dst v) w') (hrun : (execOp a.eval o).run P w = .ok (.enter f vs.toArray) w) : o.wpIn (rd ro) 0 P a w K Q := by
  refine ⟨fun _ _ => trivial, ?_⟩
  rw [Oper.semAt_eq _ _ _ hd, hrun, Oper.uponIn_enter]
  refine ⟨fun h => by simp [rd, Fence.wide] at h, callsIn_rd ?_⟩
  refine (hc G w vs hv R F).mono ?_
  rintro e w' ⟨v, G', rfl, T, R', V⟩
  exact hK G' w' v T R' V
theorem itrun_call {ops : Array Oper} {i : Nat} {o : Oper} {it : AItem} {t : Tm} {f : FuncId} {l : List Opd} {vals : List AV} {h1 h1' : H} {r : AV} (ho : ops[i]? = some o) (hit : cItem P N ops o = some it) (hg : guardOf t it.guard = some true) (hop : it.op = .call f l)
    (hs : VSubs (l.map (ev t)) vals) (hc : ACalls P f vals h1 r h1') : ItRun P ops i o t h1 r h1' := by
  unfold cItem at hit
  split at hit
  · rename_i op g hcop hgd
    split at hit <;> cases hit
    rename_i hcond
    simp only [Bool.and_eq_true] at hcond
    simp only at hop
    subst hop
    have hcop := cOpD_of hcop (by simp) rfl
    obtain ⟨c, fn, e1, e2, e3, e4, e5, e6⟩ := cOp_call hcop
    intro G w a ht R F K Q hK ro
    unfold wpOpIn
    rw [ho]
    simp only [guard_wanted hgd ht hg, if_true]
    have rr := opds_rel (P := P) (cut_rel ht) e3
    have el : l.map (ev (cutTo (names ops o) t)) = l.map (ev t) := List.map_congr_left fun x hx => cut_ev hcond.2 x (by simpa [opdsOf] using hx)
    rw [el] at rr
    refine upon_calls hc (hs G w _ rr) R F (cOp_plain hcop) hK ?_
    have hargs : (c.args.map a.eval) = (c.args.toList.map a.eval).toArray := by cases c.args; simp
    simp [execOp, e1, resolve, e2, Act.eval, Deferred.ofValue, invoke, hargs, run_callFunc w e4 e5 e6]
  · cases hit
theorem itrun_callv {ops : Array Oper} {i : Nat} {o : Oper} {it : AItem} {t : Tm} {f : FuncId} {fn : Func} {y : Opd} {l : List Opd} {first caps vals : List AV} {h1 h1' : H} {r : AV} (ho : ops[i]? = some o) (hit : cItem P N ops o = some it) (hg : guardOf t it.guard = some true) (hop : it.op = .callv y l)
    (hy : ev t y = .clo (.func f) first caps) (hf : P.funcs[f]? = some fn) (hb : fn.body.isSome = true) (hn : fn.name ≠ "runtime.NumGoroutine")
    (hs : VSubs (first ++ l.map (ev t) ++ caps) vals) (hc : ACalls P f vals h1 r h1') : ItRun P ops i o t h1 r h1' := by
  unfold cItem at hit
  split at hit
  · rename_i op g hcop hgd
    split at hit <;> cases hit
    rename_i hcond
    simp only [Bool.and_eq_true] at hcond
    simp only at hop
    subst hop
    have hcop := cOpD_of hcop (by simp) rfl
    obtain ⟨c, z, e1, e2, e3, e4⟩ := cOp_callv hcop
    intro G w a ht R F K Q hK ro
    unfold wpOpIn
    rw [ho]
    simp only [guard_wanted hgd ht hg, if_true]
    have rr := opds_rel (P := P) (cut_rel ht) e4
    have rz := opd_rel (P := P) e3 (cut_rel ht)
    have hcut := cut_ev (t := t) hcond.2
    have el : l.map (ev (cutTo (names ops o) t)) = l.map (ev t) := List.map_congr_left fun x hx => hcut x (by simp [opdsOf, hx])
    rw [el] at rr
    rw [hcut y (by simp [opdsOf]), hy] at rz
    simp only [VRel] at rz
    obtain ⟨vs, us, q1, q2, q3⟩ := rz
    refine upon_calls hc (hs G w _ ((q2.append rr).append q3)) R F (cOp_plain hcop) hK ?_
    have hargs : (c.args.map a.eval) = (c.args.toList.map a.eval).toArray := by cases c.args; simp
    simp [execOp, e1, resolve, e2, q1, Deferred.ofValue, invoke, hargs, run_callFunc w hf hb hn]
  · cases hit
def WpItems (P : Program) (N : Nat) (items : List AItem) (t : Tm) (h : H) (log : List Ent) (K : Tm → H → List Ent → Prop) : Prop :=
  ∀ ops i, i ≤ ops.size → cItems P N ops (ops.toList.drop i) = some items →
    ∃ recs t' h', Chain P ops i recs t h t' h' ∧ K t' h' (log.reverse ++ recs.map (·.en)) ∧ ∀ (k : Nat) r it, recs[k]? = some r → items[k]? = some it → touchy it.op = false → r.en = ent0
theorem WpItems.nil {t : Tm} {h : H} {log : List Ent} {K : Tm → H → List Ent → Prop} (hk : K t h log.reverse) : WpItems P N [] t h log K := by
  intro ops i hi hc
  have : i = ops.size := by
    cases hd : ops.toList.drop i with
    | nil => have := List.drop_eq_nil_iff.1 hd; simp at this; omega
    | cons o l =>
      rw [hd] at hc
      simp only [cItems] at hc
      split at hc <;> simp at hc
  exact ⟨[], t, h, .nil this, by simpa using hk, by simp⟩
theorem items_cons {ops : Array Oper} {i : Nat} {it : AItem} {its : List AItem} (hi : i ≤ ops.size) (hc : cItems P N ops (ops.toList.drop i) = some (it :: its)) :
    ∃ o, ops[i]? = some o ∧ cItem P N ops o = some it ∧ i + 1 ≤ ops.size ∧ cItems P N ops (ops.toList.drop (i + 1)) = some its := by
  cases hd : ops.toList.drop i with
  | nil => rw [hd] at hc; simp [cItems] at hc
  | cons o l =>
    rw [hd] at hc
    simp only [cItems] at hc
    split at hc
    · rename_i a r h1 h2
      cases hc
      have hlt : i < ops.toList.length := by
        rcases Nat.lt_or_ge i ops.toList.length with h | h
        · exact h
        · rw [List.drop_eq_nil_of_le h] at hd; cases hd
      have e := List.drop_eq_getElem_cons hlt
      rw [hd] at e
      obtain ⟨e1, e2⟩ := List.cons.inj e
      have hlt' : i < ops.size := by simpa using hlt
      refine ⟨o, ?_, h1, by omega, by rw [← e2]; exact h2⟩
      rw [Array.getElem?_eq_getElem hlt', e1]; simp
    · cases hc
theorem WpItems.step {it : AItem} {its : List AItem} {t : Tm} {h h' h1 h1' : H} {x : AV} {en : Ent} {log : List Ent} {K : Tm → H → List Ent → Prop} (tc : Touch h h1 h1' h' en)
    (run : ∀ (ops : Array Oper) i o, ops[i]? = some o → cItem P N ops o = some it → ItRun P ops i o t h1 x h1') (hen : touchy it.op = false → en = ent0)
    (rest : WpItems P N its (putT t it.dst x) h' (en :: log) K) : WpItems P N (it :: its) t h log K := by
  intro ops i hi hc
  obtain ⟨o, ho, hit, hi', hc'⟩ := items_cons hi hc
  obtain ⟨recs, t', hh', ch, hk, he⟩ := rest ops (i + 1) hi' hc'
  have hdst : it.dst = o.dst := by
    unfold cItem at hit
    split at hit
    · split at hit <;> cases hit; rfl
    · cases hit
  refine ⟨⟨t, h, h1, h1', h', x, en⟩ :: recs, t', hh', .cons ho rfl rfl tc (fun _ => run ops i o ho hit) (by rw [← hdst]; exact ch), by simpa using hk, ?_⟩
  intro k r it' hr hit' ht
  cases k with
  | zero => simp at hr hit'; subst hr hit'; exact hen ht
  | succ k => simp at hr hit'; exact he k r it' hr hit' ht
theorem aop_ent {ρ : Opd → AV} {h h' : H} {op : AOp} {x : AV} {en : Ent} (ht : touchy op = false) (hx : aop ρ h op = some (x, h', en)) : en = ent0 ∨ ∃ n y, op = .load n y := by
  cases op <;> simp [touchy] at ht <;> simp only [aop] at hx <;> first
    | (simp only [Option.some.injEq, Prod.mk.injEq] at hx; exact .inl hx.2.2.symm)
    | (simp only [Option.map_eq_some_iff, Prod.mk.injEq] at hx; obtain ⟨_, _, _, _, h⟩ := hx; exact .inl h.symm)
    | ((repeat' split at hx) <;> (first | (cases hx; done) | (cases hx; exact .inl rfl) | (simp only [Option.map_eq_some_iff, Prod.mk.injEq] at hx; obtain ⟨_, _, _, _, h⟩ := hx; exact .inl h.symm) | skip))
  all_goals simp_all
def evalOps : List AItem → Tm → H → List Ent → List AItem × Tm × H × List Ent
  | [], t, h, l => ([], t, h, l)
  | it :: its, t, h, l => match guardOf t it.guard with
    | some true => (match aop (ev t) h it.op with
      | some (x, h', en) => evalOps its (putT t it.dst x) h' (en :: l)
      | none => (it :: its, t, h, l))
    | some false => evalOps its (putT t it.dst (.sc undef)) h (ent0 :: l)
    | none => (it :: its, t, h, l)
theorem WpItems.evalA {b : List AItem} : ∀ {items its : List AItem} {t t' : Tm} {h h' : H} {log log' : List Ent} {K : Tm → H → List Ent → Prop}, evalOps items t h log = (its, t', h', log') → WpItems P N (its ++ b) t' h' log' K → WpItems P N (items ++ b) t h log K
  | [], its, t, t', h, h', log, log', K, he, hw => by simp only [evalOps, Prod.mk.injEq] at he; obtain ⟨rfl, rfl, rfl, rfl⟩ := he; exact hw
  | it :: items, its, t, t', h, h', log, log', K, he, hw => by
    simp only [evalOps] at he
    split at he
    · rename_i hg
      split at he
      · rename_i x h2 en hx
        have rest := WpItems.evalA he hw
        intro ops i hi hc
        obtain ⟨o, ho, hit, hi', hc'⟩ := items_cons hi hc
        obtain ⟨h1, h1', tc, run⟩ := itrun_op ho hit hg hx
        obtain ⟨recs, t', hh', ch, hk, hen⟩ := rest ops (i + 1) hi' hc'
        have hdst : it.dst = o.dst := by
          unfold cItem at hit
          split at hit
          · split at hit <;> cases hit; rfl
          · cases hit
        refine ⟨⟨t, h, h1, h1', h2, x, en⟩ :: recs, t', hh', .cons ho rfl rfl tc (fun _ => run) (by rw [← hdst]; exact ch), by simpa using hk, ?_⟩
        intro k r it' hr hit' ht
        cases k with
        | zero =>
          simp at hr hit'; subst hr hit'
          rcases aop_ent ht hx with h | ⟨n, y, h⟩
          · exact h
          · rw [h] at ht; simp [touchy] at ht
        | succ k => simp at hr hit'; exact hen k r it' hr hit' ht
      · simp only [Prod.mk.injEq] at he; obtain ⟨rfl, rfl, rfl, rfl⟩ := he; exact hw
    · rename_i hg
      have rest := WpItems.evalA he hw
      exact WpItems.step (touch_none h) (fun ops i o ho hit => itrun_skip ho hit hg) (fun _ => rfl) rest
    · simp only [Prod.mk.injEq] at he; obtain ⟨rfl, rfl, rfl, rfl⟩ := he; exact hw
theorem WpItems.eval {items its : List AItem} {t t' : Tm} {h h' : H} {log log' : List Ent} {K : Tm → H → List Ent → Prop} (he : evalOps items t h log = (its, t', h', log')) (hw : WpItems P N its t' h' log' K) : WpItems P N items t h log K := by
  have := WpItems.evalA (b := []) he (by rw [List.append_nil]; exact hw)
  rwa [List.append_nil] at this
theorem WpItems.part (k : Nat) {items : List AItem} {t t' : Tm} {h h' : H} {log log' : List Ent} {K : Tm → H → List Ent → Prop} (he : evalOps (items.take k) t h log = ([], t', h', log')) (hw : WpItems P N (items.drop k) t' h' log' K) : WpItems P N items t h log K := by
  have := WpItems.evalA (b := items.drop k) he (by rw [List.nil_append]; exact hw)
  rwa [List.take_append_drop] at this
theorem WpItems.pcall {dst : Option Nat} {g : Option (Nat × Bool)} {f : FuncId} {l : List Opd} {its : List AItem} {t : Tm} {h : H} {log : List Ent} {K : Tm → H → List Ent → Prop} {vals : List AV} {r : AV} (hg : guardOf t g = some true) (hs : VSubs (l.map (ev t)) vals) (hc : PCalls P f vals r)
    (rest : WpItems P N its (putT t dst r) h (ent0 :: log) K) : WpItems P N (⟨dst, g, .call f l⟩ :: its) t h log K :=
  WpItems.step (touch_none h) (fun ops i o ho hit => itrun_call ho hit hg rfl hs (hc h.n h.m)) (fun _ => rfl) rest
theorem WpItems.pcallv {dst : Option Nat} {g : Option (Nat × Bool)} {f : FuncId} {fn : Func} {y : Opd} {l : List Opd} {its : List AItem} {t : Tm} {h : H} {log : List Ent} {K : Tm → H → List Ent → Prop} {first caps vals : List AV} {r : AV} (hg : guardOf t g = some true) (hy : ev t y = .clo (.func f) first caps)
    (hf : P.funcs[f]? = some fn) (hb : fn.body.isSome = true) (hn : fn.name ≠ "runtime.NumGoroutine") (hs : VSubs (first ++ l.map (ev t) ++ caps) vals) (hc : PCalls P f vals r)
    (rest : WpItems P N its (putT t dst r) h (ent0 :: log) K) : WpItems P N (⟨dst, g, .callv y l⟩ :: its) t h log K :=
  WpItems.step (touch_none h) (fun ops i o ho hit => itrun_callv ho hit hg rfl hy hf hb hn hs (hc h.n h.m)) (fun _ => rfl) rest
theorem WpItems.acall {dst : Option Nat} {g : Option (Nat × Bool)} {f : FuncId} {l : List Opd} {its : List AItem} {t : Tm} {h h' h1 h1' : H} {log : List Ent} {en : Ent} {K : Tm → H → List Ent → Prop} {vals : List AV} {r : AV} (hg : guardOf t g = some true) (hs : VSubs (l.map (ev t)) vals) (hc : ACalls P f vals h1 r h1')
    (tc : Touch h h1 h1' h' en) (rest : WpItems P N its (putT t dst r) h' (en :: log) K) : WpItems P N (⟨dst, g, .call f l⟩ :: its) t h log K :=
  WpItems.step tc (fun ops i o ho hit => itrun_call ho hit hg rfl hs hc) (fun h => by simp [touchy] at h) rest
end
end Go.Av
end
section
set_option linter.unusedVariables false
set_option linter.unusedSimpArgs false
namespace Go.Av
section
variable {P : Program} {N : Nat}
def rowOf (acc : Array Nat) (o : Oper) : Nat := o.after.foldl (fun s e => if Region.binds .any e then s ||| 2 ^ e.on ||| acc.getD e.on 0 else s) 0
theorem rowOf_bit {acc : Array Nat} {o : Oper} {j : Nat} (h : (rowOf acc o).testBit j = true) : ∃ e ∈ o.after, Region.binds .any e = true ∧ (j = e.on ∨ (acc.getD e.on 0).testBit j = true) := by
  have key : ∀ (l : List Edge) (s : Nat), (l.foldl (fun s e => if Region.binds .any e then s ||| 2 ^ e.on ||| acc.getD e.on 0 else s) s).testBit j = true → s.testBit j = true ∨ ∃ e ∈ l, Region.binds .any e = true ∧ (j = e.on ∨ (acc.getD e.on 0).testBit j = true) := by
    intro l
    induction l with
    | nil => intro s h; exact .inl h
    | cons e l ih =>
      intro s h
      rcases ih _ h with h | ⟨e', h1, h2⟩
      · by_cases hb : Region.binds .any e = true
        · simp only [hb, if_true, Nat.testBit_or, Bool.or_eq_true] at h
          rcases h with (h | h) | h
          · exact .inl h
          · rw [Nat.testBit_two_pow] at h
            exact .inr ⟨e, by simp, hb, .inl (by simpa using h.symm : e.on = j).symm⟩
          · exact .inr ⟨e, by simp, hb, .inr h⟩
        · simp only [hb, if_false, Bool.false_eq_true] at h
          exact .inl h
      · exact .inr ⟨e', by simp [h1], h2⟩
  unfold rowOf at h
  rw [← Array.foldl_toList] at h
  rcases key _ _ h with h | ⟨e, h1, h2⟩
  · simp at h
  · exact ⟨e, by simpa using h1, h2⟩
theorem before_spec (ops : Array Oper) : ∀ (i : Nat) o, ops[i]? = some o → ∀ j, isAnc ops j i = true → ∃ e ∈ o.after, Region.binds .any e = true ∧ (j = e.on ∨ isAnc ops j e.on = true) := by
  have key : ∀ (l : List Oper) (acc : Array Nat), let B := l.foldl (fun acc o => acc.push (rowOf acc o)) acc
      (B.size = acc.size + l.length) ∧ (∀ k, k < acc.size → B.getD k 0 = acc.getD k 0) ∧ ∀ k o, l[k]? = some o → ∀ j, (B.getD (acc.size + k) 0).testBit j = true → ∃ e ∈ o.after, Region.binds .any e = true ∧ (j = e.on ∨ (B.getD e.on 0).testBit j = true) := by
    intro l
    induction l with
    | nil => intro acc; simp
    | cons o l ih =>
      intro acc
      obtain ⟨a1, a2, a3⟩ := ih (acc.push (rowOf acc o))
      simp only [List.foldl_cons]
      refine ⟨by rw [a1]; simp; omega, fun k hk => ?_, fun k o' ho' j hj => ?_⟩
      · rw [a2 k (by simp; omega)]
        simp [Array.getElem?_push, hk]
        rw [if_neg (by omega)]; rfl
      · cases k with
        | zero =>
          simp at ho'; subst ho'
          rw [a2 _ (by simp)] at hj
          simp at hj
          obtain ⟨e, h1, h2⟩ := rowOf_bit hj
          refine ⟨e, h1, h2.1, h2.2.imp (fun z => z) fun h => ?_⟩
          have hlt : e.on < acc.size := by
            rcases Nat.lt_or_ge e.on acc.size with h' | h'
            · exact h'
            · simp [h'] at h
          rw [a2 _ (by simp; omega)]
          simp only [Array.getD_eq_getD_getElem?, Array.getElem?_push] at h ⊢
          rw [if_neg (by omega)]; exact h
        | succ k =>
          simp at ho'
          have := a3 k o' ho' j (by simpa [Nat.add_assoc, Nat.add_comm 1 k] using hj)
          exact this
  obtain ⟨a1, a2, a3⟩ := key ops.toList #[]
  have hB : Region.before ops = ops.toList.foldl (fun acc o => acc.push (rowOf acc o)) #[] := by
    unfold Region.before
    rw [← Array.foldl_toList]
    rfl
  intro i o ho j hj
  unfold isAnc at hj ⊢
  rw [hB] at hj ⊢
  exact a3 i o (by simpa using ho) j (by simpa using hj)
theorem tidy_ok {ops : Array Oper} (h : tidy ops = true) : Tidy ops := by
  unfold tidy at h
  simp only [Bool.and_eq_true, List.all_eq_true] at h
  obtain ⟨h1, h2⟩ := h
  have hm : ∀ (i : Nat) o, ops[i]? = some o → (o, i) ∈ ops.toList.zipIdx := by
    intro i o ho
    rw [List.mem_iff_getElem?]
    exact ⟨i, by simp [List.getElem?_zipIdx, ho]⟩
  constructor
  · intro i o ho e he hbd
    have := h1 (o, i) (hm i o ho)
    rw [Array.all_eq_true_iff_forall_mem] at this
    have := this e he
    simpa [hbd] using this
  · exact before_spec ops
  · intro i j o o' ho ho' hne d hd hn
    have := h2 (o, i) (hm i o ho)
    simp only [hd, List.all_eq_true] at this
    have := this (o', j) (hm j o' ho')
    simp only [Bool.or_eq_true, Bool.not_eq_true', beq_iff_eq] at this
    rcases this with ((h | h) | h) | h
    · exact absurd h hne
    · have h3 : (names ops o').contains d = true := by simpa using hn
      rw [h3] at h; cases h
    · exact .inl h
    · exact .inr h
def pairsOk : List (Nat × Nat) → List Ent → Prop
  | [], _ => True
  | (i, j) :: l, log => apart (log.getD i ent0) (log.getD j ent0) ∧ pairsOk l log
theorem pairsOk_mem : ∀ {l : List (Nat × Nat)} {log : List Ent}, pairsOk l log → ∀ {i j : Nat}, (i, j) ∈ l → apart (log.getD i ent0) (log.getD j ent0)
  | (a, b) :: l, log, h, i, j, hm => by
    rcases List.mem_cons.1 hm with e | hm
    · cases e; exact h.1
    · exact pairsOk_mem h.2 hm
theorem apart_ent0 (e : Ent) : apart ent0 e ∧ apart e ent0 := by
  constructor
  · exact ⟨fun id h => by simp [ent0] at h, fun id h => by simp [ent0], fun t h => by simp [ent0] at h⟩
  · exact ⟨fun id h => by simp [ent0], fun id h => by simp [ent0] at h, fun t h => by simp [ent0]⟩
def pairsQ (p : Option (List (Nat × Nat))) (log : List Ent) : Prop :=
  match p with
  | none => True
  | some l => pairsOk l log
theorem cItems_len {ops : Array Oper} : ∀ {l : List Oper} {items : List AItem}, cItems P N ops l = some items → items.length = l.length ∧ ∀ (k : Nat) o it, l[k]? = some o → items[k]? = some it → cItem P N ops o = some it
  | [], items, h => by simp [cItems] at h; subst h; simp
  | o :: l, items, h => by
    simp only [cItems] at h
    split at h
    · rename_i a r h1 h2
      cases h
      obtain ⟨e1, e2⟩ := cItems_len h2
      refine ⟨by simp [e1], fun k o' it ho hit => ?_⟩
      cases k with
      | zero => simp at ho hit; subst ho hit; exact h1
      | succ k => simp at ho hit; exact e2 k o' it ho hit
    · cases h
theorem code_reg {code : Code} {items : List AItem} {p : Option (List (Nat × Nat))} (h : cCode P N code = some (.reg items p)) :
    ∃ id ops draw, code = .region id ops draw ∧ cItems P N ops ops.toList = some items ∧ ((draw = false ∧ p = none) ∨ (draw = true ∧ P.follows .mixedOrders = true ∧ tidy ops = true ∧ p = some (pairsOf ops items))) := by
  cases code <;> simp only [cCode] at h <;> (try cases h)
  · split at h
    · rename_i id ops draw _ items' hi
      split at h
      · split at h <;> cases h
        rename_i hd hcond
        simp only [Bool.and_eq_true] at hcond
        exact ⟨_, _, _, rfl, hi, .inr ⟨hd, hcond.1, hcond.2, rfl⟩⟩
      · cases h
        rename_i hd
        exact ⟨_, _, _, rfl, hi, .inl ⟨by simpa using hd, rfl⟩⟩
    · cases h
  all_goals first | ((repeat' split at h) <;> cases h; done) | (simp at h; done)
theorem trans_draw (G : Ghost) (w w' : World) (h : H) (e1 : w'.heap = w.heap) (e2 : w'.os = w.os) (e3 : w'.output = w.output) : Trans G w h G w' h where
  dom_le _ x := x
  dom_new _ x := .inl x
  ι_eq _ _ := rfl
  tdom_le _ x := x
  tdom_new _ x := .inl x
  τ_eq _ _ := rfl
  n_le := Nat.le_refl _
  m_le := Nat.le_refl _
  size_le := by rw [e1]; exact Nat.le_refl _
  os := e2
  output := e3
  form B _ := by rw [e1]; exact SameForm.refl _
  keep _ _ _ _ := by rw [e1]
  own_keep _ _ _ := Iff.rfl
  lim_keep _ _ _ _ := rfl
  tok_keep _ _ _ _ e he := ⟨fun _ _ => cell_of_heap e1 _, fun e' he' => by rw [he] at he'; cases he'; exact Nat.le_refl _⟩
  O_new _ _ x := x
  T_new _ _ x := x
  objs_new _ o x := .inl ⟨o, x⟩
  toks_new _ x := .inl x
theorem RepH.draw {G : Ghost} {w w' : World} {h : H} (R : RepH G h w) (e1 : w'.heap = w.heap) (e2 : w'.os = w.os) (e3 : w'.output = w.output) : RepH G h w' where
  obj id o ho := by
    obtain ⟨a, b, c, d⟩ := R.obj id o ho
    exact ⟨a, b, by rw [e1]; exact c, by rw [e1]; exact d.mono R (trans_draw G w w' h e1 e2 e3)⟩
  inj := R.inj
  tok t ht := ⟨(R.tok t ht).1, fun B e he => by rw [e1]; exact (R.tok t ht).2 B e he⟩
  tinj := R.tinj
theorem Wp.reg {items : List AItem} {p : Option (List (Nat × Nat))} {s : St} {Q : AExit → St → Prop} (h : WpItems P N items s.t s.h [] fun t' h' log => pairsQ p log ∧ Q .normal ⟨t', h'⟩) : Wp P N (.reg items p) s Q := by
  intro code hc
  obtain ⟨id, ops, draw, rfl, hi, hd⟩ := code_reg hc
  obtain ⟨recs, t', h', ch, ⟨hp, hq⟩, hen⟩ := h ops 0 (Nat.zero_le _) (by simpa using hi)
  simp only [List.reverse_nil, List.nil_append] at hp
  obtain ⟨nm, -, -⟩ := chain_nm ch
  obtain ⟨cl, ci⟩ := cItems_len hi
  have hN : ∀ (i : Nat) o d, ops[i]? = some o → o.dst = some d → d < N := by
    intro i o d ho hdd
    have hlt : i < ops.size := (Array.getElem?_eq_some_iff.1 ho).1
    have hit : i < items.length := by rw [cl]; simpa using hlt
    have := ci i o items[i] (by simpa using ho) (List.getElem?_eq_getElem hit)
    generalize items[i] = it at this
    unfold cItem at this
    split at this
    · split at this <;> cases this
      rename_i hcond
      simp only [Bool.and_eq_true] at hcond
      have := hcond.1
      rw [hdd] at this
      simpa using this
    · cases this
  refine ⟨.normal, ⟨t', h'⟩, ⟨nm, fun ro okc G w a r F => ?_⟩, hq⟩
  rcases hd with ⟨rfl, rfl⟩ | ⟨rfl, hm, ht, rfl⟩
  · refine wpIn_region ?_
    rw [List.range_eq_range']
    have := chain_seq ro (Q := fun e' a' w' => AExit.normal.says e' ∧ NewM w a.defers a'.defers ∧ ∃ G', Trans G w s.h G' w' h' ∧ Rel N ⟨t', h'⟩ G' w' a') hN ch G w a r.size r.t r.h F
      (fun G' w' a' T1 t1 R1 s1 d1 => ⟨trivial, by rw [d1]; exact .refl, G', T1, ⟨s1, t1, R1, by rw [d1]; exact r.df.mono T1⟩⟩)
    simpa using this
  · refine wpIn_region_any hm ?_
    obtain ⟨a1, a2, -⟩ := chain_facts ch
    rw [Nat.zero_add] at a1
    have ap : ∀ i j, i < j → j < ops.size → isAnc ops i j = false → apart (recs.getD i rec0).en (recs.getD j rec0).en := by
      intro i j hij hj hanc
      have hir : i < recs.length := by omega
      have hjr : j < recs.length := by omega
      have hii : i < items.length := by rw [cl]; simp; omega
      have hjj : j < items.length := by rw [cl]; simp; omega
      have ei : (recs.getD i rec0).en = (recs.map (·.en)).getD i ent0 := by simp [List.getD, List.getElem?_eq_getElem hir]
      have ej : (recs.getD j rec0).en = (recs.map (·.en)).getD j ent0 := by simp [List.getD, List.getElem?_eq_getElem hjr]
      have gi : (recs.getD i rec0) = recs[i] := by simp [List.getD, List.getElem?_eq_getElem hir]
      have gj : (recs.getD j rec0) = recs[j] := by simp [List.getD, List.getElem?_eq_getElem hjr]
      by_cases ti : touchy items[i].op = true
      · by_cases tj : touchy items[j].op = true
        · rw [ei, ej]
          refine pairsOk_mem hp ?_
          unfold pairsOf
          simp only [List.mem_flatMap, List.mem_range, List.mem_filterMap]
          refine ⟨j, hj, i, hij, ?_⟩
          unfold isAnc at hanc
          simp [List.getElem?_eq_getElem hii, List.getElem?_eq_getElem hjj, ti, tj]
          simpa using hanc
        · rw [gj, hen j _ _ (List.getElem?_eq_getElem hjr) (List.getElem?_eq_getElem hjj) (by simpa using tj)]
          exact (apart_ent0 _).2
      · rw [gi, hen i _ _ (List.getElem?_eq_getElem hir) (List.getElem?_eq_getElem hii) (by simpa using ti)]
        exact (apart_ent0 _).1
    let w1 : World := { w with drawn := w.drawn + 1 }
    have hz : ∀ k, (Array.replicate ops.size false).getD k false = false := by intro k; simp [Array.getElem?_replicate]; split <;> rfl
    have hz' : (fun k => (Array.replicate ops.size false).getD k false) = fun _ => false := funext hz
    have vz : ∀ {β : Type} (u : Nat → Option β) (n : Nat) (v : β), val u (fun _ => false) n v = v := by
      intro β u n v
      induction n with
      | zero => rfl
      | succ n ih => simp only [val, Bool.false_eq_true, if_false, ih]
    have R1 : RepH G s.h w1 := r.h.draw rfl rfl rfl
    have hk : ∀ t, t ∈ (HS recs s.h ops.size h'.n h'.m (fun _ => false)).toks ↔ t ∈ s.h.toks := by
      intro t; rw [mem_HS a1.symm, vz]; simp
    have ho : (HS recs s.h ops.size h'.n h'.m (fun _ => false)).objs = s.h.objs := by
      funext id; simp only [HS]; rw [vz]
    refine chain_any ro (pj := 0) (pv := undef) (N := N) (G0 := G) (w0 := w1) (a0 := a) hN (tidy_ok ht) ch ap R1 F ?_ (fun i h => by cases h) (fun h => by cases h) ops.size (Array.replicate ops.size false) G w1 a (by simp) ?_ ?_ (fun k h => by cases h) r.size rfl ?_ ?_ ?_ ?_ ?_
    · intro _ G' w' a' T1 t1 R1' s1 d1
      exact ⟨trivial, by rw [d1]; exact .refl, G', (trans_draw G w w1 s.h rfl rfl rfl).trans r.h R1 T1, ⟨s1, t1, R1', by rw [d1]; exact r.df.mono ((trans_draw G w w1 s.h rfl rfl rfl).trans r.h R1 T1)⟩⟩
    · unfold count
      exact Nat.le_trans (List.length_filter_le _ _) (by simp)
    · rw [hz']; intro i o _ h; cases h
    · rw [hz']; intro d; rw [vz]; exact VRel.mono r.h (trans_draw G w w1 s.h rfl rfl rfl) _ _ (r.t d)
    · rw [hz']; exact R1.same ho fun t x => (hk t).1 x
    · rw [hz']
      exact (Trans.refl G w1 s.h).same rfl (fun _ => Iff.rfl) ho hk (Nat.le_refl _) nm.1 nm.1 (Nat.le_refl _) nm.2 nm.2
    · exact fun id x => .inl x
    · exact fun id x => .inl x
def initT (args : List AV) : Tm := fun i => args.getD i .any
inductive RV where
  | tmp (d : Nat)
  | cell (d : Nat) (n : Option Nat)
def cRes (P : Program) : ResultVar → Option RV
  | .tmp t => some (.tmp t)
  | .cell a t => if (P.info? t).isSome ∧ (P.underlying t).isSome then some (.cell a (if isAggT P t then some (P.cellsOf t) else none)) else none
def cRess (P : Program) : List ResultVar → Option (List RV)
  | [] => some []
  | r :: l => match cRes P r, cRess P l with
    | some a, some m => some (a :: m)
    | _, _ => none
def rv (t : Tm) (h : H) : RV → Option AV
  | .tmp d => some (t d)
  | .cell d n => match t d with
    | .ptr id off => match h.objs id with
      | some (.cells cs) => part off n cs
      | _ => none
    | _ => none
def rvs (t : Tm) (h : H) : List RV → Option (List AV)
  | [] => some []
  | r :: l => match rv t h r, rvs t h l with
    | some a, some m => some (a :: m)
    | _, _ => none
def resOf (ds : List RV) (t : Tm) (h : H) : Option AV :=
  match rvs t h ds with
  | some [x] => some x
  | some l => some (.tup l)
  | none => none
def isEnd : AExit → Prop
  | .normal | .ret => True
  | _ => False
theorem init_rel {G : Ghost} {w : World} {n : Nat} : ∀ {args : List AV} {vs : List Value}, VRels G w args vs → TRel G w (initT args) { tmps := vs.toArray ++ Array.replicate n undef, defers := [] } := by
  intro args vs h i
  unfold initT
  by_cases hi : i < args.length
  · obtain ⟨v, h1, h2⟩ := h.get (i := i) (x := args[i]) (List.getElem?_eq_getElem hi)
    have e : ((vs.toArray ++ Array.replicate n undef).getD i undef) = v := by
      have hlt : i < vs.length := by rw [h.length]; exact hi
      rw [List.getElem?_eq_getElem hlt] at h1
      simp [Array.getElem?_append, hlt]
      exact Option.some.inj h1
    rw [e]
    simpa [List.getD, List.getElem?_eq_getElem hi] using h2
  · have : args.getD i .any = .any := by simp [List.getD, List.getElem?_eq_none (Nat.le_of_not_lt hi)]
    rw [this]; simp [VRel]
theorem rvs_run {G : Ghost} {w : World} {t : Tm} {h : H} {a : Act} (ht : TRel G w t a) (R : RepH G h w) : ∀ {l : List ResultVar} {ds : List RV} {xs : List AV}, cRess P l = some ds → rvs t h ds = some xs →
    ∃ vs, (l.mapM (fun | .tmp t => pure (a.tmps.getD t undef) | .cell b t => do loadVar t (← asAddr (a.tmps.getD b undef)) : ResultVar → Sem Value)).run P w = .ok vs w ∧ VRels G w xs vs
  | [], ds, xs, h1, h2 => by
    simp [cRess] at h1; subst h1
    simp [rvs] at h2; subst h2
    exact ⟨[], by simp, .nil⟩
  | r :: l, ds, xs, h1, h2 => by
    simp only [cRess] at h1
    split at h1
    · rename_i d ds' e1 e2
      cases h1
      simp only [rvs] at h2
      split at h2
      · rename_i x xs' e3 e4
        cases h2
        obtain ⟨vs, g1, g2⟩ := rvs_run ht R e2 e4
        cases r with
        | tmp k =>
          simp [cRes] at e1; subst e1
          simp [rv] at e3; subst e3
          refine ⟨a.tmps.getD k undef :: vs, ?_, .cons (ht k) g2⟩
          simp only [List.mapM_cons, Sem.run_bind, Sem.run_pure, Result.andThen_ok, g1]
        | cell k ty =>
          simp only [cRes] at e1
          split at e1
          · rename_i hc
            cases e1
            simp only [rv] at e3
            split at e3
            · rename_i id off hk
              split at e3
              · rename_i cs ho
                have r1 := ht k
                rw [hk] at r1
                simp only [VRel] at r1
                obtain ⟨vs0, rest0, T, fr, hg, hvs, -⟩ := obj_cells R ho
                have hcell : ∀ j v, vs0[j]? = some v → w.cell? ⟨G.ι id, j, none⟩ = some v := by
                  intro j v hj
                  have hj' : j < vs0.length := (List.getElem?_eq_some_iff.1 hj).1
                  unfold World.cell?; simp only [hg]; simpa [List.getElem?_append_left hj'] using hj
                have hl : ∃ v, (loadVar ty ⟨G.ι id, off, none⟩).run P w = .ok v w ∧ VRel G w x v := by
                  rcases part_sound hvs e3 with ⟨e, v, q1, q2⟩ | ⟨m, e, q1, q2⟩
                  · have hagg : isAggT P ty = false := by cases hh : isAggT P ty <;> simp [hh] at e ⊢
                    exact ⟨v, run_loadVar_cell P w ty _ v hc.2 hagg (hcell _ _ q1), q2⟩
                  · have hagg : isAggT P ty = true := by cases hh : isAggT P ty <;> simp [hh] at e ⊢
                    have hm : m = P.cellsOf ty := by simpa [hagg] using e.symm
                    refine ⟨_, run_loadVar_cells P w ty (G.ι id) off ((vs0.drop off).take m) hc.1 hc.2 hagg (by simp [hm] at q1 ⊢; omega) (fun j v hj => hcell _ _ (by
                      rw [List.getElem?_take] at hj
                      split at hj
                      · simpa [List.getElem?_drop] using hj
                      · cases hj)), q2⟩
                obtain ⟨v, q1, q2⟩ := hl
                refine ⟨v :: vs, ?_, .cons q2 g2⟩
                have ha : (asAddr (a.tmps.getD k undef)).run P w = .ok ⟨G.ι id, off, none⟩ w := by rw [r1.2]; rfl
                simp only [List.mapM_cons, Sem.run_bind, ha, Sem.run_pure, Result.andThen_ok, q1, g1]
              · cases e3
            · cases e3
          · cases e1
      · cases h2
    · cases h1
theorem results_run {fn : Func} {ds : List RV} {G : Ghost} {w : World} {t : Tm} {h : H} {a : Act} {x : AV} (hr : cRess P fn.results.toList = some ds) (ht : TRel G w t a) (R : RepH G h w) (hx : resOf ds t h = some x) : ∃ v, (results fn a.tmps).run P w = .ok v w ∧ VRel G w x v := by
  unfold resOf at hx
  have hxs : ∃ xs, rvs t h ds = some xs ∧ ((∃ y, xs = [y] ∧ x = y) ∨ (xs.length ≠ 1 ∧ x = .tup xs)) := by
    split at hx
    · rename_i y e; cases hx; exact ⟨_, e, .inl ⟨_, rfl, rfl⟩⟩
    · rename_i l hne e
      cases hx
      refine ⟨_, e, .inr ⟨fun hl => ?_, rfl⟩⟩
      obtain ⟨y, rfl⟩ := List.length_eq_one_iff.1 hl
      exact hne y rfl
    · cases hx
  obtain ⟨xs, e, hc⟩ := hxs
  obtain ⟨vs, g1, g2⟩ := rvs_run (P := P) ht R hr e
  have hm' : (fn.results.mapM (fun | .tmp t => pure (a.tmps.getD t undef) | .cell b t => do loadVar t (← asAddr (a.tmps.getD b undef)) : ResultVar → Sem Value)).run P w = .ok vs.toArray w := by
    rw [Array.mapM_eq_mapM_toList]
    simp only [Sem.run_map, g1, Result.andThen_ok]
  have key : (results fn a.tmps).run P w = .ok (if h : vs.toArray.size = 1 then vs.toArray[0] else .tuple vs.toArray) w := by
    unfold results
    rw [Sem.run_bind]
    exact congrArg (fun x : Result (Array Value) => x.andThen fun vs w' => (Pure.pure (if h : vs.size = 1 then vs[0] else .tuple vs) : Sem Value).run P w') hm'
  rw [key]
  have hl := g2.length
  rcases hc with ⟨y, rfl, rfl⟩ | ⟨hn, rfl⟩
  · simp only [VRels] at g2
    obtain ⟨v, us, rfl, q1, rfl⟩ := g2
    exact ⟨v, by simp, q1⟩
  · have : ¬ vs.toArray.size = 1 := by simp; omega
    rw [dif_neg this]
    refine ⟨_, rfl, ?_⟩
    simp only [VRel]
    exact ⟨vs, rfl, g2⟩
theorem Turned.results {D : Nat} {w : World} (h : w.heap[D]? = some (.deferred (some []))) : Turned D w (w.putObj D (.deferred none)) :=
  ⟨by simp, fun B hB => World.putObj_heap_other hB, fun c T fr e => absurd (h.symm.trans e) (by simp), rfl, rfl⟩
theorem leaves_marks {F : Fence} {n : Nat} {fn : Func} {tmps : Array Value} {R : Ending → World → Prop} (Ds : Nat → Prop) (I : World → Prop)
    (hI : ∀ w D, Ds D → I w → w.heap[D]? = some (.deferred (some [])) → I (w.putObj D (.deferred none))) (hend : ∀ w, I w → ∃ v, (results fn tmps).run P w = .ok v w ∧ R (.returned v) w) :
    ∀ (l : List Deferred) (w : World), l.Nodup → (∀ d ∈ l, ∃ D, Ds D ∧ d = { target := .collected D, args := #[] } ∧ w.heap[D]? = some (.deferred (some []))) → I w → LeavesInM F n P fn tmps R l .returning w := by
  intro l
  induction l with
  | nil => intro w _ _ hi; exact hend w hi
  | cons d l ih =>
    intro w hn hm hi
    obtain ⟨D, h1, h2, h3⟩ := hm d (by simp)
    refine ⟨by simp, .inl ⟨D, _, by rw [h2], run_takeDeferred h3, ih _ (List.nodup_cons.1 hn).2 (fun d' hd' => ?_) (hI w D h1 hi h3)⟩⟩
    obtain ⟨D', k1, k2, k3⟩ := hm d' (by simp [hd'])
    refine ⟨D', k1, k2, ?_⟩
    rw [World.putObj_heap_other ?_]
    · exact k3
    · rintro rfl
      exact (List.nodup_cons.1 hn).1 (by rw [h2, ← k2]; exact hd')
theorem acalls_of {f : FuncId} {fn : Func} {code : Code} {ac : AC} {args : List AV} {h : H} {ds : List RV} {Q : AV → H → Prop} (hf : P.funcs[f]? = some fn) (hb : fn.body = some code) (hc : cCode P fn.ntmps code = some ac) (hr : cRess P fn.results.toList = some ds) (hl : args.length ≤ fn.ntmps)
    (hw : Wp P fn.ntmps ac ⟨initT args, h⟩ fun e s' => isEnd e ∧ ∃ r, resOf ds s'.t s'.h = some r ∧ Q r s'.h) : ∃ r h', ACalls P f args h r h' ∧ Q r h' := by
  obtain ⟨e, s', run, he, r, hres, hq⟩ := hw code hc
  refine ⟨r, s'.h, ?_, hq⟩
  intro G w vs hv R F
  have hlen := hv.length
  refine callsIn_wide.1 (callsIn_of_wp_marks (F := rd none) (n := 0) hf hb trivial (wpIn_mono (run.2 none (.inl rfl) G w _ ⟨?_, init_rel hv, R, ⟨by simp, by simp⟩⟩ F) ?_) rfl)
  · simp; omega
  · rintro e' a' w' ⟨h1, h2, G', T, r'⟩
    have key : LeavesInM (rd none) 0 P fn a'.tmps (fun e w' => ∃ v G', e = .returned v ∧ Trans G w h G' w' s'.h ∧ RepH G' s'.h w' ∧ VRel G' w' r v) a'.defers .returning w' := by
      refine leaves_marks (fun D => w.heap.size ≤ D ∧ ¬ s'.h.O G' D ∧ ¬ s'.h.T G' D) (fun w2 => Trans G w h G' w2 s'.h ∧ RepH G' s'.h w2 ∧ TRel G' w2 s'.t a') ?_ ?_ _ _ r'.df.1 ?_ ⟨T, r'.h, r'.t⟩
      · rintro w2 D ⟨d1, d2, d3⟩ ⟨T2, R2, t2⟩ hD
        have tu := Turned.results hD
        exact ⟨T2.turn tu d1, R2.turn tu d2, fun i => VRel.turn tu _ _ (t2 i)⟩
      · rintro w2 ⟨T2, R2, t2⟩
        obtain ⟨v, q1, q2⟩ := results_run (P := P) hr t2 R2 hres
        exact ⟨v, q1, v, G', rfl, T2, R2, q2⟩
      · intro d hd
        obtain ⟨D, e, k1, k2, k3⟩ := r'.df.2 d hd
        rcases h2 d hd with h | ⟨D', k4, e'⟩
        · simp at h
        · rw [e] at e'
          simp only [Deferred.mk.injEq, Target.collected.injEq, and_true] at e'
          subst e'
          exact ⟨D, ⟨k4, k2, k3⟩, e, k1⟩
    cases e <;> cases e' <;> simp only [AExit.says, isEnd] at h1 he <;> exact key
def FnIs (P : Program) (f : FuncId) (N : Nat) (ac : AC) (ds : List RV) : Prop := ∃ fn, P.funcs[f]? = some fn ∧ fn.ntmps = N ∧ fn.body.bind (cCode P N) = some ac ∧ cRess P fn.results.toList = some ds
theorem FnIs.acalls {f : FuncId} {ac : AC} {args : List AV} {h : H} {ds : List RV} {Q : AV → H → Prop} (hF : FnIs P f N ac ds) (hl : args.length ≤ N) (hw : Wp P N ac ⟨initT args, h⟩ fun e s' => isEnd e ∧ ∃ r, resOf ds s'.t s'.h = some r ∧ Q r s'.h) : ∃ r h', ACalls P f args h r h' ∧ Q r h' := by
  obtain ⟨fn, h1, h2, h3, h4⟩ := hF
  subst h2
  obtain ⟨code, hb, hc⟩ := Option.bind_eq_some_iff.1 h3
  exact acalls_of h1 hb hc h4 hl hw
def VPure (x : AV) : Prop := ∀ G G' w v, G'.own = G.own → G'.lim = G.lim → VRel G w x v → VRel G' w x v
def VPures (l : List AV) : Prop := ∀ G G' w vs, G'.own = G.own → G'.lim = G.lim → VRels G w l vs → VRels G' w l vs
theorem ACalls.pure {f : FuncId} {args : List AV} {n m : Nat} {r r' : AV} {h' : H} (ha : VPures args) (hc : ACalls P f args (H0 n m) r h') (hs : VSub r r') (hp : VPure r') : ACalls P f args (H0 n m) r' (H0 n m) := by
  intro G w vs hv R F
  let G0 : Ghost := { G with dom := fun _ => False, tdom := fun _ => False }
  refine (hc G0 w vs (ha G G0 w vs rfl rfl hv) only_rep ⟨fun _ _ _ h => h, fun _ _ _ h => h⟩).mono ?_
  rintro e w' ⟨v, G', rfl, T, R', V⟩
  refine ⟨v, { G' with dom := G.dom, ι := G.ι, tdom := G.tdom, τ := G.τ }, rfl, ?_, only_rep, hp G' _ w' v rfl rfl (hs G' w' v V)⟩
  have hO : ∀ {G : Ghost} B, ¬ (H0 n m).O G B := fun B => only_O B
  have hT : ∀ {G : Ghost} B, ¬ (H0 n m).T G B := fun B ⟨t, ht, _⟩ => by simp [H0, H.only] at ht
  constructor
  · exact fun _ x => x
  · exact fun _ => .inl
  · exact fun _ _ => rfl
  · exact fun _ x => x
  · exact fun _ => .inl
  · exact fun _ _ => rfl
  · exact Nat.le_refl _
  · exact Nat.le_refl _
  · exact T.size_le
  · exact T.os
  · exact T.output
  · exact T.form
  · exact fun B hB _ _ => T.keep B hB (hO B) (hT B)
  · exact fun B hB _ => T.own_keep B hB (hO B)
  · exact fun B hB _ _ => T.lim_keep B hB (hO B) (hT B)
  · exact fun B hB x => absurd x (hT B)
  · exact fun B _ x => absurd x (hO B)
  · exact fun B _ x => absurd x (hT B)
  · exact fun j o x => by simp [H0, H.only, none'] at x
  · exact fun t x => by simp [H0, H.only] at x
theorem FnIs.pcalls {f : FuncId} {ac : AC} {args : List AV} {ds : List RV} {r : AV} (hF : FnIs P f N ac ds) (hl : args.length ≤ N) (ha : VPures args) (hp : VPure r) (hw : ∀ n m, Wp P N ac ⟨initT args, H0 n m⟩ fun e s' => isEnd e ∧ ∃ q, resOf ds s'.t s'.h = some q ∧ VSub q r) : PCalls P f args r := by
  intro n m
  obtain ⟨r', h', hcall, hs⟩ := hF.acalls (Q := fun r' _ => VSub r' r) hl (hw n m)
  exact hcall.pure ha hs hp
end
end Go.Av
end
section
set_option linter.unusedVariables false
set_option linter.unusedSimpArgs false
namespace Go.Av
section
variable {P : Program} {N : Nat} {s : St} {Q : AExit → St → Prop}
theorem Wp.seqReg {items : List AItem} {p : Option (List (Nat × Nat))} {y : AC} {t' : Tm} {h' : H} {log : List Ent} (he : evalOps items s.t s.h [] = ([], t', h', log)) (hp : pairsQ p log.reverse) (h : Wp P N y ⟨t', h'⟩ Q) : Wp P N (.seq (.reg items p) y) s Q :=
  Wp.seq (Wp.reg (WpItems.eval he (WpItems.nil ⟨hp, h⟩)))
theorem Wp.reg1 {items : List AItem} {p : Option (List (Nat × Nat))} {t' : Tm} {h' : H} {log : List Ent} (he : evalOps items s.t s.h [] = ([], t', h', log)) (hp : pairsQ p log.reverse) (h : Q .normal ⟨t', h'⟩) : Wp P N (.reg items p) s Q :=
  Wp.reg (WpItems.eval he (WpItems.nil ⟨hp, h⟩))
theorem Wp.seqItems {items its : List AItem} {p : Option (List (Nat × Nat))} {y : AC} {t' : Tm} {h' : H} {log : List Ent} (he : evalOps items s.t s.h [] = (its, t', h', log)) (h : WpItems P N its t' h' log fun t h l => pairsQ p l ∧ Wp P N y ⟨t, h⟩ Q) : Wp P N (.seq (.reg items p) y) s Q :=
  Wp.seq (Wp.reg (WpItems.eval he h))
theorem Wp.items {items its : List AItem} {p : Option (List (Nat × Nat))} {t' : Tm} {h' : H} {log : List Ent} (he : evalOps items s.t s.h [] = (its, t', h', log)) (h : WpItems P N its t' h' log fun t h l => pairsQ p l ∧ Q .normal ⟨t, h⟩) : Wp P N (.reg items p) s Q :=
  Wp.reg (WpItems.eval he h)
def tm : List (Nat × AV) → Tm
  | [] => fun _ => .any
  | (i, v) :: l => upd (tm l) i v
def AllSub (t : Tm) : List (Nat × AV) → Prop
  | [] => True
  | (i, v) :: l => VSub (t i) v ∧ AllSub t l
theorem tm_le {t : Tm} : ∀ {l : List (Nat × AV)}, AllSub t l → ∀ i, VSub (t i) (tm l i)
  | [], _, i => VSub.any _
  | (k, v) :: l, h, i => by
    simp only [tm, upd]
    split
    · rename_i e; subst e; exact h.1
    · exact tm_le h.2 i
theorem StLe.tm {t : Tm} {h : H} {l : List (Nat × AV)} (hs : AllSub t l) : StLe ⟨t, h⟩ ⟨Av.tm l, h⟩ := StLe.mk' (tm_le hs) h.sub_refl.le (Nat.le_refl _) (Nat.le_refl _)
theorem Wp.loopT {β : Type} (S : β → List (Nat × AV)) (I : β → Prop) (μ : β → Nat) {c : AC} {h : H} {t : Tm} (b0 : β) (h0 : I b0) (hs : AllSub t (S b0))
    (round : ∀ b, I b → Wp P N c ⟨tm (S b), h⟩ (AExit.andThen (fun s' => ∃ b', I b' ∧ μ b' < μ b ∧ StLe s' ⟨tm (S b'), h⟩) Q)) : Wp P N (.loop c) ⟨t, h⟩ Q :=
  Wp.loop (fun b => ⟨tm (S b), h⟩) I μ b0 h0 (StLe.tm hs) round
theorem AllSub.append {t : Tm} : ∀ {l m : List (Nat × AV)}, AllSub t l → AllSub t m → AllSub t (l ++ m)
  | [], _, _, h => h
  | (_, _) :: _, _, h, h' => ⟨h.1, AllSub.append h.2 h'⟩
theorem AllSub.self {t : Tm} : ∀ (L : List Nat), AllSub t (L.map fun i => (i, t i))
  | [] => trivial
  | _ :: L => ⟨VSub.refl _, AllSub.self L⟩
theorem Wp.loopK {β : Type} (L : List Nat) {K : List (Nat × AV)} {c : AC} {h : H} {t : Tm} (hK : (L.map fun i => (i, t i)) = K) (ch : β → List (Nat × AV)) (I : β → Prop) (μ : β → Nat) (b0 : β) (h0 : I b0) (hs : AllSub t (ch b0))
    (round : ∀ b, I b → Wp P N c ⟨tm (K ++ ch b), h⟩ (AExit.andThen (fun s' => ∃ b', I b' ∧ μ b' < μ b ∧ StLe s' ⟨tm (K ++ ch b'), h⟩) Q)) : Wp P N (.loop c) ⟨t, h⟩ Q :=
  Wp.loopT (fun b => K ++ ch b) I μ b0 h0 (AllSub.append (hK ▸ AllSub.self L) hs) round
theorem Wp.loopH {β : Type} (L : List Nat) {K : List (Nat × AV)} {c : AC} {h : H} {t : Tm} (hK : (L.map fun i => (i, t i)) = K) (ch : β → List (Nat × AV)) (hp : β → H) (I : β → Prop) (μ : β → Nat) (b0 : β) (h0 : I b0) (hh : h = hp b0) (hs : AllSub t (ch b0))
    (round : ∀ b, I b → Wp P N c ⟨tm (K ++ ch b), hp b⟩ (AExit.andThen (fun s' => ∃ b', I b' ∧ μ b' < μ b ∧ StLe s' ⟨tm (K ++ ch b'), hp b'⟩) Q)) : Wp P N (.loop c) ⟨t, h⟩ Q :=
  Wp.loop (fun b => ⟨tm (K ++ ch b), hp b⟩) I μ b0 h0 (hh ▸ StLe.tm (AllSub.append (hK ▸ AllSub.self L) hs)) round
theorem VSub.int {k : IntKind} {a b : Int} (h : a = b) : VSub (.int k a) (.int k b) := h ▸ VSub.refl _
theorem VSub.of_eq {x y : AV} (h : x = y) : VSub x y := h ▸ VSub.refl _
def capPure : Cap → Bool
  | .own _ => false
  | _ => true
mutual
def isPure : AV → Bool
  | .sl _ xs c => capPure c && allPure xs
  | .ref cs => allPure cs
  | .agg cs => allPure cs
  | .tup cs => allPure cs
  | .ptr _ _ | .tsl _ _ _ _ _ | .mp _ | .yld _ => false
  | .clo _ a b => allPure a && allPure b
  | .ifc _ x => isPure x
  | .slt _ xs ys => allPure xs && allPure ys
  | _ => true
def allPure : List AV → Bool
  | [] => true
  | x :: xs => isPure x && allPure xs
end
mutual
theorem isPure_ok : ∀ (x : AV), isPure x = true → VPure x
  | .any, _ => fun _ _ _ _ _ _ h => h
  | .int _ _, _ => fun _ _ _ _ _ _ h => h
  | .bool _, _ => fun _ _ _ _ _ _ h => h
  | .str _, _ => fun _ _ _ _ _ _ h => h
  | .sc _, _ => fun _ _ _ _ _ _ h => h
  | .sl sz xs c, hp => by
    simp only [isPure, Bool.and_eq_true] at hp
    intro G G' w v e1 e2 h
    simp only [VRel] at h ⊢
    rcases h with h | ⟨B, off, C, vs, h1, h2, h3, h4, h5, h6⟩
    · exact .inl h
    · refine .inr ⟨B, off, C, vs, h1, h2, h3, allPure_els xs hp.2 G G' w sz vs e1 e2 h4, fun i v hv => ?_, ?_⟩
      · rw [e1, e2]; exact h5 i v hv
      · cases c with
        | own t => simp [capPure] at hp
        | any => trivial
        | exact k => exact h6
  | .ref cs, hp => by
    simp only [isPure] at hp
    intro G G' w v e1 e2 h
    simp only [VRel] at h ⊢
    obtain ⟨B, off, vs, h1, h2, h3⟩ := h
    exact ⟨B, off, vs, h1, allPure_ok cs hp G G' w vs e1 e2 h2, fun i v hv => by rw [e1, e2]; exact h3 i v hv⟩
  | .agg cs, hp => by
    simp only [isPure] at hp
    intro G G' w v e1 e2 h
    simp only [VRel] at h ⊢
    obtain ⟨vs, h1, h2⟩ := h
    exact ⟨vs, h1, allPure_ok cs hp G G' w vs e1 e2 h2⟩
  | .tup cs, hp => by
    simp only [isPure] at hp
    intro G G' w v e1 e2 h
    simp only [VRel] at h ⊢
    obtain ⟨vs, h1, h2⟩ := h
    exact ⟨vs, h1, allPure_ok cs hp G G' w vs e1 e2 h2⟩
  | .ptr _ _, hp => by simp [isPure] at hp
  | .tsl _ _ _ _ _, hp => by simp [isPure] at hp
  | .mp _, hp => by simp [isPure] at hp
  | .yld _, hp => by simp [isPure] at hp
  | .slt sz xs ys, hp => by
    simp only [isPure, Bool.and_eq_true] at hp
    intro G G' w v e1 e2 h
    simp only [VRel] at h ⊢
    obtain ⟨B, off, C, us, vs, h1, h2, h3, h4, h5, h6⟩ := h
    exact ⟨B, off, C, us, vs, h1, h2, h3, allPure_els xs hp.1 G G' w sz us e1 e2 h4, allPure_els ys hp.2 G G' w sz vs e1 e2 h5, fun i v hv => by rw [e1, e2]; exact h6 i v hv⟩
  | .clo f a b, hp => by
    simp only [isPure, Bool.and_eq_true] at hp
    intro G G' w v e1 e2 h
    simp only [VRel] at h ⊢
    obtain ⟨vs, us, h1, h2, h3⟩ := h
    exact ⟨vs, us, h1, allPure_ok a hp.1 G G' w vs e1 e2 h2, allPure_ok b hp.2 G G' w us e1 e2 h3⟩
  | .sup B, _ => fun _ _ _ _ _ _ h => by simpa only [VRel] using h
  | .supb B, _ => fun G G' w v e1 e2 h => by
    simp only [VRel] at h ⊢
    obtain ⟨l, h1, h2 | ⟨D, off, C, h2, h3, h4⟩⟩ := h
    · exact ⟨l, h1, .inl h2⟩
    · exact ⟨l, h1, .inr ⟨D, off, C, h2, h3, fun i v hv => by rw [e1, e2]; exact h4 i v hv⟩⟩
  | .wint k, _ => fun _ _ _ _ _ _ h => by simpa only [VRel] using h
  | .one, _ => fun _ _ _ _ _ _ h => by simpa only [VRel] using h
  | .ifc t x, hp => by
    simp only [isPure] at hp
    intro G G' w v e1 e2 h
    simp only [VRel] at h ⊢
    obtain ⟨u, h1, h2⟩ := h
    exact ⟨u, h1, isPure_ok x hp G G' w u e1 e2 h2⟩
theorem allPure_ok : ∀ (l : List AV), allPure l = true → VPures l
  | [], _ => fun _ _ _ _ _ _ h => by simpa only [VRels] using h
  | x :: xs, hp => by
    simp only [allPure, Bool.and_eq_true] at hp
    intro G G' w vs e1 e2 h
    simp only [VRels] at h ⊢
    obtain ⟨v, us, h1, h2, h3⟩ := h
    exact ⟨v, us, h1, isPure_ok x hp.1 G G' w v e1 e2 h2, allPure_ok xs hp.2 G G' w us e1 e2 h3⟩
theorem allPure_els : ∀ (l : List AV), allPure l = true → ∀ (G G' : Ghost) (w : World) (sz : Nat) (vs : List Value), G'.own = G.own → G'.lim = G.lim → VElems G w sz l vs → VElems G' w sz l vs
  | [], _ => fun _ _ _ _ _ _ _ h => by simpa only [VElems] using h
  | x :: xs, hp => by
    simp only [allPure, Bool.and_eq_true] at hp
    intro G G' w sz vs e1 e2 h
    simp only [VElems] at h ⊢
    obtain ⟨v, us, h1, h2, h3, h4⟩ := h
    exact ⟨v, us, h1, h2, isPure_ok x hp.1 G G' w v e1 e2 h3, allPure_els xs hp.2 G G' w sz us e1 e2 h4⟩
end
theorem allPure_map {α : Type} {f : α → AV} (h : ∀ x, isPure (f x) = true) : ∀ l : List α, allPure (l.map f) = true
  | [] => rfl
  | x :: l => by simp [allPure, h x, allPure_map h l]
def strs (l : List (List UInt8)) : List AV := l.map .str
def ints (l : List Int) : List AV := l.map (.int .i64)
theorem strs_pure (l : List (List UInt8)) : allPure (strs l) = true := allPure_map (fun _ => rfl) l
theorem strs_length (l : List (List UInt8)) : (strs l).length = l.length := by simp [strs]
theorem ints_length (l : List Int) : (ints l).length = l.length := by simp [ints]
theorem bytes_length (l : List UInt8) : (bytesAV l).length = l.length := by simp [bytesAV]
theorem strs_getD (l : List (List UInt8)) (k : Nat) (d : AV) (h : k < l.length) : (strs l).getD k d = .str (l.getD k []) := by
  simp [strs, List.getD, List.getElem?_map, List.getElem?_eq_getElem h]
end
def lit : Bool → Bool
  | true => true
  | false => true
def pk : Bool → AC → AC → AC
  | true, x, _ => x
  | false, _, y => y
theorem Wp.cond_lit {P : Program} {N : Nat} {s : St} {Q : AExit → St → Prop} {c : Opd} {x y : AC} {b : Bool} (hb : ev s.t c = .bool b) (_ : lit b = true) (h : Wp P N (pk b x y) s Q) : Wp P N (.cond c x y) s Q := by
  cases b
  · exact Wp.cond_false hb h
  · exact Wp.cond_true hb h
theorem bx : ((false = true) = False) ∧ (∀ b : Bool, (true == b) = b) ∧ (∀ b : Bool, (false == b) = !b) ∧ ((!true) = false) ∧ ((!false) = true) :=
  ⟨Bool.false_eq_true, Bool.true_beq, Bool.false_beq, Bool.not_true, Bool.not_false⟩
theorem ax : (∀ p : Prop, (p ∧ p) = p) ∧ (∀ p : Prop, (True ∧ p) = p) ∧ (∀ p : Prop, (p ∧ True) = p) ∧ (∀ p : Prop, (True ∨ p) = True) ∧ (∀ p : Prop, (p ∨ True) = True) ∧ (∀ n : Nat, 0 * n = 0) ∧ (∀ n : Nat, 1 * n = n) ∧ (∀ n : Nat, 0 ≤ n)
    ∧ (∀ h : Decidable True, @decide True h = true) ∧ (∀ h : Decidable False, @decide False h = false) ∧ (∀ n : Nat, ((n : Nat) : Int).toNat = n) ∧ (∀ (α : Type) (a b : List α), (a ++ b).length = a.length + b.length)
    ∧ (∀ (α : Type) (p : α → Bool) (x : α) (l : List α), List.filter p (x :: l) = if p x = true then x :: List.filter p l else List.filter p l) ∧ (∀ (α : Type) (p : α → Bool), List.filter p [] = []) ∧ (∀ (α : Type) (a b : α), (a ≠ b) = ¬ (a = b)) ∧ ((¬ True) = False) ∧ ((¬ False) = True) :=
  ⟨and_self, true_and, and_true, true_or, or_true, Nat.zero_mul, Nat.one_mul, Nat.zero_le, fun _ => decide_true _, fun _ => decide_false _, Int.toNat_natCast, fun _ _ _ => List.length_append, fun _ _ _ _ => List.filter_cons, fun _ _ => List.filter_nil, fun _ _ _ => rfl, not_true_eq_false, not_false_eq_true⟩
attribute [go_sem] undef evalOps guardOf aop ev putT upd initT H0 H.only none' isCell cellsOf shaped part bin binF binC rawAV putVals binInt binStr binShift isShift unop eqB eqP eqN eqA eqCells eqCell mm mfind lookAV putEs delEs eqM slice bound capCut setAt putParts tm
  strs_length ints_length bytes_length List.getElem?_cons_zero List.getElem?_cons_succ List.getD_cons_zero List.getD_cons_succ Option.map_some Option.map_none Option.bind_some Option.bind_none List.all_cons List.all_nil Bool.and_self Bool.true_and Bool.and_true
  List.length_cons List.length_nil List.map_cons List.map_nil List.drop_succ_cons List.drop_zero List.take_succ_cons List.take_zero List.drop_nil List.take_nil Nat.zero_add Nat.add_zero List.append_nil List.nil_append List.cons_append Bool.or_false Bool.false_or Bool.or_true Bool.true_or
end Go.Av
end
section
set_option linter.unusedVariables false
set_option linter.unusedSimpArgs false
namespace Go.Av
section
variable {P : Program} {N : Nat}
variable {s : St} {Q : AExit → St → Prop}
theorem Wp.loopTok {β : Type} (L : List Nat) {K : List (Nat × AV)} {c : AC} {h : H} {t : Tm} (hK : (L.map fun i => (i, t i)) = K) (ch : β → Nat → List (Nat × AV)) (I : β → Prop) (μ : β → Nat) (b0 : β) (tk : Nat) (h0 : I b0) (hh : h.toks = [tk]) (hs : AllSub t (ch b0 tk))
    (round : ∀ b tk m, I b → Wp P N c ⟨tm (K ++ ch b tk), { h with toks := [tk], m := m }⟩ (AExit.andThen (fun s' => ∃ b' tk' m', I b' ∧ μ b' < μ b ∧ StLe s' ⟨tm (K ++ ch b' tk'), { h with toks := [tk'], m := m' }⟩) Q)) : Wp P N (.loop c) ⟨t, h⟩ Q := by
  refine Wp.loopH (β := β × Nat × Nat) L hK (fun j => ch j.1 j.2.1) (fun j => { h with toks := [j.2.1], m := j.2.2 }) (fun j => I j.1) (fun j => μ j.1) (b0, tk, h.m) h0 (by cases h; simp only at hh; subst hh; rfl) hs ?_
  rintro ⟨b, tk, m⟩ hb
  refine Wp.mono (round b tk m hb) ?_
  intro e s' h
  cases e with
  | normal => obtain ⟨b', tk', m', h1, h2, h3⟩ := h; exact ⟨(b', tk', m'), h1, h2, h3⟩
  | exit id => exact h
  | goto l => exact h
  | ret => exact h
  | panic v => exact h
end
section
variable {P : Program} {N : Nat}
def RCalls (P : Program) (f : FuncId) (args : List AV) (objs : Nat → Option Obj) (r : AV) : Prop := ∀ n m, ACalls P f args (.only objs [] n m) r (.only objs [] n m)
theorem WpItems.rcall {dst : Option Nat} {g : Option (Nat × Bool)} {f : FuncId} {l : List Opd} {its : List AItem} {t : Tm} {h : H} {log : List Ent} {K : Tm → H → List Ent → Prop} {vals : List AV} {r : AV} {objs : Nat → Option Obj} (ids : List Nat) (hg : guardOf t g = some true) (hs : VSubs (l.map (ev t)) vals)
    (ho : ∀ id o, objs id = some o → h.objs id = some o) (hi : ∀ id, (objs id).isSome → id ∈ ids) (hc : RCalls P f vals objs r)
    (rest : WpItems P N its (putT t dst r) h (⟨ids, [], []⟩ :: log) K) : WpItems P N (⟨dst, g, .call f l⟩ :: its) t h log K :=
  WpItems.acall hg hs (hc h.n h.m) (touch_see h ho hi) rest
end
theorem filter_self (t : Nat) : List.filter (fun x => decide (x ≠ t)) [t] = [] := by simp
theorem id_ne1 (k : Nat) : (k = k + 1) = False := by simp
theorem id_ne2 (k : Nat) : (k + 1 = k) = False := by simp
attribute [go_sem] id_ne1 id_ne2 filter_self List.mem_singleton List.mem_cons true_or
end Go.Av
end
section
set_option linter.unusedVariables false
set_option linter.unusedSimpArgs false
namespace Go.Av
open Go.ChangeShapes Go.WideShapes Go.ChangeAt Go.RowKit
section
variable {H : Type} {enc : TypeId × Value → H} {P : Program} {w : World}
def G0 : Ghost := ⟨fun _ => False, fun _ => 0, fun _ => False, fun _ => none, fun _ => False, fun _ => none⟩
def wrapE (P : Program) (e : TypeId) (cs : List AV) : AV := if isAggT P e then .agg cs else cs.headD .any
/- how many values and letters stand in a value -/
mutual
def bulkA : AV → Nat
  | .int _ _ => 1
  | .bool _ => 1
  | .str l => l.length + 1
  | .sl _ xs _ => bulkAs xs + 1
  | .agg cs => bulkAs cs
  | _ => 0
def bulkAs : List AV → Nat
  | [] => 0
  | x :: xs => bulkA x + bulkAs xs
end
theorem bulkAs_append : ∀ l m : List AV, bulkAs (l ++ m) = bulkAs l + bulkAs m
  | [], m => by simp [bulkAs]
  | x :: l, m => by simp [bulkAs, bulkAs_append l m]; omega
theorem bulk_wrap (P : Program) (e : TypeId) (cs : List AV) : bulkA (wrapE P e cs) ≤ bulkAs cs := by
  unfold wrapE
  split
  · simp [bulkA]
  · cases cs with
    | nil => simp [bulkA, bulkAs]
    | cons x cs => simp [bulkAs]
structure Bulk (B : DataW H → Nat) (BL : List (DataW H) → Nat) : Prop where
  str : ∀ l, B (.lit (.string l)) = l.length + 1
  int : ∀ k n, B (.lit (.int k n)) = 1
  bool : ∀ b, B (.lit (.bool b)) = 1
  nil : B .nil = 1
  slice : ∀ a b, B (.slice a b) = BL a + BL b + 1
  agg : ∀ a, B (.agg a) = BL a + 1
  nils : BL [] = 0
  cons : ∀ d l, BL (d :: l) = B d + BL l
theorem Bulk.snoc {B : DataW H → Nat} {BL : List (DataW H) → Nat} (hB : Bulk B BL) : ∀ (l : List (DataW H)) (d : DataW H), BL (l ++ [d]) = BL l + B d
  | [], d => by simp [hB.cons, hB.nils]
  | x :: l, d => by simp [hB.cons, Bulk.snoc hB l d]; omega
theorem Bulk.take {B : DataW H → Nat} {BL : List (DataW H) → Nat} (hB : Bulk B BL) : ∀ (l : List (DataW H)) (m : Nat), BL (l.take m) ≤ BL l
  | [], m => by simp
  | x :: l, 0 => by simp [hB.nils]
  | x :: l, m + 1 => by simp [hB.cons, Bulk.take hB l m]
theorem weights_mem_all {P : Program} {e : TypeId} {n : Nat} : ∀ {l : List (DataW H)} {d : DataW H}, d ∈ l → n ∈ d.weights P e → n ∈ DataW.weightsAll P e l
  | x :: l, d, h, hn => by
    simp only [DataW.weightsAll, List.mem_append]
    rcases List.mem_cons.1 h with rfl | h
    · exact .inl hn
    · exact .inr (weights_mem_all h hn)
inductive All2 {α β : Type} (R : α → β → Prop) : List α → List β → Prop
  | nil : All2 R [] []
  | cons {a b l m} : R a b → All2 R l m → All2 R (a :: l) (b :: m)
def Fits (P : Program) : Nat → TypeId → List AV → Prop
  | 0, _, _ => False
  | k + 1, t, xs => match P.underlying t with
    | some .bool => ∃ b, xs = [.bool b]
    | some (.int q) => ∃ n, xs = [.int q n] ∧ (Lit.int q n).wf = true
    | some .string => ∃ l, xs = [.str l] ∧ l.length ≤ reachBytes
    | some (.slice e) => ∃ ys, xs = [.sl (P.cellsOf e) ys .any] ∧ ys.length * P.bytesOf e ≤ reachBytes ∧ ∀ y ∈ ys, ∃ cs, Fits P k e cs ∧ y = wrapE P e cs
    | some (.struct fs) => ∃ xss, xs = xss.flatten ∧ All2 (fun (f : Field) cs => Fits P k f.type cs) fs.toList xss
    | _ => False
def plainT (P : Program) : Nat → TypeId → Bool
  | 0, _ => false
  | k + 1, t => match P.underlying t with
    | some .bool | some (.int _) | some .string => true
    | some (.slice e) => decide (e < P.types.size) && decide (0 < P.cellsOf e) && (isAggT P e || decide (P.cellsOf e = 1)) && plainT P k e
    | some (.struct fs) => decide (t < P.types.size) && fs.all fun f => plainT P k f.type
    | _ => false
theorem cell_spot {a : Addr} {v : Value} (h : w.cell? a = some v) : a.spot = none := by
  unfold World.cell? at h
  split at h
  · split at h
    · cases h
    · rename_i hs; cases hh : a.spot with
      | none => rfl
      | some x => simp [hh] at hs
  · cases h
theorem one_of_bool (b : Bool) : One (.bool b) := ⟨fun _ => by simp, fun _ => by simp⟩
theorem one_of_int (k : IntKind) (n : Int) : One (.int k n) := ⟨fun _ => by simp, fun _ => by simp⟩
theorem one_of_str (s : ByteArray) : One (.string s) := ⟨fun _ => by simp, fun _ => by simp⟩
theorem one_of_sl (a : Option Addr) (l c : Nat) : One (.slice a l c) := ⟨fun _ => by simp, fun _ => by simp⟩
theorem fields_split {R : Field → List AV → Prop} {G : Ghost} {B : DataW H → Nat} {BL : List (DataW H) → Nat} (hB : Bulk B BL) (full : List Value) (rd : Field → List Value → DataW H → Prop)
    (hrd : ∀ f cs d, rd f cs d → ∃ xs, R f xs ∧ VRels G w xs cs ∧ (∀ v ∈ cs, One v) ∧ bulkAs xs ≤ B d) : ∀ (fs : List Field) (ds : List (DataW H)) (off : Nat), ds.length = fs.length →
    (∀ (j : Nat) f, fs[j]? = some f → f.offset = off + ((fs.take j).map fun f => P.cellsOf f.type).sum) → full.length = off + (fs.map fun f => P.cellsOf f.type).sum →
    (∀ (j : Nat) f d, fs[j]? = some f → ds[j]? = some d → rd f ((full.drop f.offset).take (P.cellsOf f.type)) d) → ∃ xss, All2 R fs xss ∧ VRels G w xss.flatten (full.drop off) ∧ (∀ v ∈ full.drop off, One v) ∧ bulkAs xss.flatten ≤ BL ds
  | [], ds, off, hl, h1, h2, h3 => by
    have e : full.drop off = [] := List.drop_eq_nil_of_le (by simp at h2; omega)
    exact ⟨[], .nil, by rw [e]; exact .nil, by rw [e]; simp, by simp [bulkAs]⟩
  | f :: fs, [], off, hl, h1, h2, h3 => by cases hl
  | f :: fs, d :: ds, off, hl, h1, h2, h3 => by
    have o0 : f.offset = off := by simpa using h1 0 f rfl
    have hf := h3 0 f d rfl rfl
    rw [o0] at hf
    obtain ⟨xs, r1, r2, r3, r4⟩ := hrd f _ d hf
    obtain ⟨xss, q1, q2, q3, q4⟩ := fields_split hB full rd hrd fs ds (off + P.cellsOf f.type) (by simpa using hl) (fun j g hj => by
      have := h1 (j + 1) g (by simpa using hj)
      simp only [List.take_succ_cons, List.map_cons, List.sum_cons] at this; omega) (by simp only [List.map_cons, List.sum_cons] at h2; omega) (fun j g d' hg hd => h3 (j + 1) g d' (by simpa using hg) (by simpa using hd))
    have e : full.drop off = (full.drop off).take (P.cellsOf f.type) ++ full.drop (off + P.cellsOf f.type) := by
      rw [← List.drop_drop, List.take_append_drop]
    refine ⟨xs :: xss, .cons r1 q1, ?_, ?_, ?_⟩
    · rw [e, List.flatten_cons]; exact r2.append q2
    · rw [e]; intro v hv
      rcases List.mem_append.1 hv with hv | hv
      · exact r3 v hv
      · exact q3 v hv
    · rw [List.flatten_cons, bulkAs_append, hB.cons]; omega
theorem wrapE_rel {e : TypeId} {cs : List AV} {vs : List Value} (hs : vs.length = P.cellsOf e) (hr : VRels G0 w cs vs) (ho : ∀ v ∈ vs, One v) (hc : isAggT P e = false → P.cellsOf e = 1) :
    ∃ v : Value, v.cells.toList = vs ∧ VRel G0 w (wrapE P e cs) v := by
  unfold wrapE
  cases ha : isAggT P e with
  | true => exact ⟨.agg vs.toArray, by simp [Value.cells], by simp only [if_true, VRel]; exact ⟨vs, rfl, hr⟩⟩
  | false =>
    rw [hc ha] at hs
    obtain ⟨v, rfl⟩ := List.length_eq_one_iff.1 hs
    have hl := hr.length
    obtain ⟨x, rfl⟩ := List.length_eq_one_iff.1 (show cs.length = 1 by simpa using hl.symm)
    simp only [VRels] at hr
    obtain ⟨v', us, e1, hv, e2⟩ := hr
    cases e1
    refine ⟨v, ?_, by simpa using hv⟩
    have := ho v (by simp)
    cases v <;> first | rfl | exact absurd rfl (this.1 _) | exact absurd rfl (this.2 _)
theorem Fits.slice {k : Nat} {t e : TypeId} {ys : List AV} (ht : P.underlying t = some (.slice e)) (h1 : ys.length * P.bytesOf e ≤ reachBytes) (h2 : ∀ y ∈ ys, ∃ cs, Fits P k e cs ∧ y = wrapE P e cs) : Fits P (k + 1) t [.sl (P.cellsOf e) ys .any] := by
  unfold Fits; rw [ht]; exact ⟨ys, rfl, h1, h2⟩
theorem trod_fits (hl : laidOutB P = true) {B : DataW H → Nat} {BL : List (DataW H) → Nat} (hB : Bulk B BL) : ∀ (k : Nat) (t : TypeId), plainT P k t = true → ∀ (fuel : Nat) (cs : List Value) (x : DataW H × List MemPlace),
    DataW.trod enc P w 0 (fun _ => true) true fuel t cs = some x → (∀ n ∈ x.1.weights P t, n ≤ reachBytes) → ∃ xs, Fits P k t xs ∧ VRels G0 w xs cs ∧ (∀ v ∈ cs, One v) ∧ bulkAs xs ≤ B x.1 := by
  intro k
  induction k with
  | zero => intro t h; cases h
  | succ k ih =>
    intro t hp fuel cs x hx hwt
    simp only [plainT] at hp
    split at hp
    · rename_i ht
      obtain ⟨b, rfl, rfl⟩ := DataW.trod_bool ht hx
      exact ⟨[.bool b], by simp only [Fits, ht]; exact ⟨b, rfl⟩, .cons (by simp [VRel]) .nil, by simp [one_of_bool], by simp [hB.bool, bulkAs, bulkA]⟩
    · rename_i q ht
      obtain ⟨n, rfl, rfl, hw⟩ := DataW.trod_int ht hx
      exact ⟨[.int q n], by simp only [Fits, ht]; exact ⟨n, rfl, hw⟩, .cons (by simp [VRel]) .nil, by simp [one_of_int], by simp [hB.int, bulkAs, bulkA]⟩
    · rename_i ht
      obtain ⟨s, rfl, rfl, -⟩ := DataW.trod_string ht hx
      refine ⟨[.str s.data.toList], by simp only [Fits, ht]; exact ⟨_, rfl, hwt _ (by simp [DataW.weights])⟩, .cons (by simp [VRel]) .nil, by simp [one_of_str], by simp [hB.str, bulkAs, bulkA]⟩
    · rename_i e ht
      simp only [Bool.and_eq_true, decide_eq_true_eq] at hp
      obtain ⟨⟨⟨-, hsz⟩, hag⟩, hpe⟩ := hp
      rcases DataW.trod_slice ht hx with ⟨rfl, rfl⟩ | ⟨a, len, cap, elems, rest, n, rfl, rfl, rfl, hb, hlc, hcm, hel, hread, hrest, -⟩
      · refine ⟨[.sl (P.cellsOf e) [] .any], Fits.slice ht (by simp) (fun y hy => by cases hy), .cons ?_ .nil, by simp [one_of_sl], by simp [hB.nil, bulkAs, bulkA]⟩
        unfold VRel; exact .inl ⟨rfl, ⟨none, rfl⟩, trivial⟩
      · have hone : isAggT P e = false → P.cellsOf e = 1 := by
          intro ha
          simpa [ha] using hag
        -- the cells of each element
        have each : ∀ i, i < len → ∃ vs xs, w.cells? 0 (a.add (i * P.cellsOf e)) (P.cellsOf e) = some vs ∧ Fits P k e xs ∧ VRels G0 w xs vs ∧ (∀ v ∈ vs, One v) ∧ ∀ y, elems[i]? = some y → bulkAs xs ≤ B y.1 := by
          intro i hi
          have h := hread i hi
          rw [List.getElem?_eq_getElem (by omega)] at h
          obtain ⟨vs, h1, h2⟩ := Option.bind_eq_some_iff.1 h
          obtain ⟨xs, h3, h4, h5, h6⟩ := ih e hpe n vs _ h2 (fun m hm => hwt m (by
            simp only [DataW.weights, ht, List.mem_cons, List.mem_append]
            exact .inr (.inl (weights_mem_all (List.mem_map.2 ⟨_, List.getElem_mem (by omega), rfl⟩) hm))))
          exact ⟨vs, xs, h1, h3, h4, h5, fun y hy => by rw [List.getElem?_eq_getElem (by omega)] at hy; cases hy; exact h6⟩
        have build : ∀ m, m ≤ len → ∃ ys vs, ys.length = m ∧ vs.length = m * P.cellsOf e ∧ (∀ y ∈ ys, ∃ cs, Fits P k e cs ∧ y = wrapE P e cs) ∧ VElems G0 w (P.cellsOf e) ys vs ∧ (∀ (i : Nat) v, vs[i]? = some v → w.cell? (a.add i) = some v ∧ One v) ∧ bulkAs ys ≤ BL ((elems.map (·.1)).take m) := by
          intro m
          induction m with
          | zero => intro _; exact ⟨[], [], rfl, by simp, by simp, by simp [VElems], by simp, by simp [bulkAs]⟩
          | succ m ihm =>
            intro hm
            obtain ⟨ys, vs, k1, k2, k3, k4, k5, k6⟩ := ihm (by omega)
            obtain ⟨us, xs, e1, e2, e3, e4, eb⟩ := each m (by omega)
            obtain ⟨-, e5, e6⟩ := World.cells?_some e1
            obtain ⟨v, hv1, hv2⟩ := wrapE_rel e5 e3 e4 hone
            refine ⟨ys ++ [wrapE P e xs], vs ++ us, by simp [k1], by simp [k2, e5, Nat.add_mul], ?_, ?_, ?_, ?_⟩
            · intro y hy
              rcases List.mem_append.1 hy with hy | hy
              · exact k3 y hy
              · simp at hy; exact ⟨xs, e2, hy⟩
            · refine k4.append ?_
              simp only [VElems]
              exact ⟨v, [], by simp [hv1], by rw [← Array.length_toList, hv1, e5], hv2, rfl⟩
            · intro i z hz
              rcases Nat.lt_or_ge i vs.length with hi | hi
              · rw [List.getElem?_append_left hi] at hz; exact k5 i z hz
              · rw [List.getElem?_append_right hi] at hz
                have hlt : i - vs.length < us.length := (List.getElem?_eq_some_iff.1 hz).1
                have := e6 (i - vs.length) (by omega)
                rw [hz] at this
                have ea : (a.add (m * P.cellsOf e)).add (i - vs.length) = a.add i := by
                  rw [← k2]
                  unfold Addr.add
                  by_cases h0 : vs.length = 0
                  · simp [h0]
                  · by_cases h1 : i - vs.length = 0
                    · have : i = vs.length := by omega
                      subst this; simp
                    · have : i ≠ 0 := by omega
                      simp [h0, h1, this]; omega
                rw [ea] at this
                exact ⟨this, e4 z (List.mem_of_getElem? hz)⟩
            · have hlt : m < (elems.map (·.1)).length := by simp; omega
              rw [List.take_succ_eq_append_getElem hlt, hB.snoc, bulkAs_append]
              have h1 := eb _ (List.getElem?_eq_getElem (by omega))
              have h2 := bulk_wrap P e xs
              simp only [List.getElem_map, bulkAs]
              omega
        obtain ⟨ys, vs, k1, k2, k3, k4, k5, k6⟩ := build len (Nat.le_refl _)
        refine ⟨[.sl (P.cellsOf e) ys .any], Fits.slice ht ?_ k3, .cons ?_ .nil, by simp [one_of_sl], ?_⟩
        · have := hwt ((elems.length + rest.length) * P.bytesOf e) (by simp [DataW.weights, ht])
          exact Nat.le_trans (Nat.mul_le_mul_right _ (by omega)) this
        rotate_left
        · have := hB.take (elems.map (·.1)) len
          simp only [hB.slice, bulkAs, bulkA]
          omega
        unfold VRel
        by_cases hcap : cap = 0
        · have : ys = [] := List.length_eq_zero_iff.1 (by omega)
          exact .inl ⟨this, ⟨some a, by simp; omega⟩, by simp [CapNil]⟩
        · have hspot : a.spot = none := by
            by_cases hl0 : len = 0
            · obtain ⟨hr1, hr2⟩ := hrest rfl
              have h := hr2 0 (by omega)
              rw [List.getElem?_eq_getElem (by omega)] at h
              obtain ⟨vs', h1, h2⟩ := Option.bind_eq_some_iff.1 h
              obtain ⟨-, g1, g2⟩ := World.cells?_some h1
              have := g2 0 hsz
              rw [List.getElem?_eq_getElem (by omega)] at this
              have := cell_spot this
              simpa [hl0, Addr.add] using this
            · obtain ⟨us, xs, e1, e2, e3, e4, -⟩ := each 0 (by omega)
              obtain ⟨-, g1, g2⟩ := World.cells?_some e1
              have := g2 0 hsz
              rw [List.getElem?_eq_getElem (by omega)] at this
              have := cell_spot this
              simpa [Addr.add] using this
          obtain ⟨B, off, sp⟩ := a
          simp only at hspot
          subst hspot
          refine .inr ⟨B, off, cap, vs, by simp [k1], by omega, by rw [k2, k1], k4, fun i v hv => ?_, by simp [CapOk]⟩
          obtain ⟨c1, c2⟩ := k5 i v hv
          rw [add_plain] at c1
          exact ⟨c1, c2, by simp [G0], by simp [G0]⟩
    · rename_i fs ht
      simp only [Bool.and_eq_true, decide_eq_true_eq] at hp
      obtain ⟨hlt, hp⟩ := hp
      rw [Array.all_eq_true_iff_forall_mem] at hp
      obtain ⟨xs, n, rfl, rfl, hlen, hxl, hread⟩ := DataW.trod_struct ht hx
      obtain ⟨-, hsum, hoff⟩ := kid_struct hl hlt ht
      obtain ⟨xss, q1, q2, q3, q4⟩ := fields_split (P := P) (R := fun (f : Field) cs => Fits P k f.type cs) (G := G0) (w := w) hB cs
        (fun f us d => plainT P k f.type = true ∧ ∃ y, DataW.trod enc P w 0 (fun _ => true) true n f.type us = some y ∧ y.1 = d ∧ ∀ m ∈ d.weights P f.type, m ≤ reachBytes)
        (fun f us d ⟨h1, y, h2, h3, h4⟩ => by subst h3; exact ih f.type h1 n us y h2 h4) fs.toList (xs.map (·.1)) 0 (by simp [hxl]) (fun j f hj => by rw [hoff j f hj]; omega) (by rw [hlen, hsum]; omega)
        (fun i f d hi hd => by
          refine ⟨hp f (by have := List.mem_of_getElem? hi; simpa using this), ?_⟩
          have h := hread i f (by simpa using hi)
          rw [List.getElem?_map] at hd
          cases hxi : xs[i]? with
          | none => rw [hxi] at hd; cases hd
          | some y =>
            rw [hxi] at h hd
            refine ⟨y, h, by simpa using hd, fun m hm => hwt m ?_⟩
            simp only [DataW.weights, ht]
            exact DataW.weights_mem_each (j := i) (t := f.type) (d := d) (by rw [List.getElem?_map, hi]; rfl) (by rw [List.getElem?_map, hxi]; exact hd) m hm)
      refine ⟨xss.flatten, by simp only [Fits, ht]; exact ⟨xss, rfl, q1⟩, by simpa using q2, by simpa using q3, ?_⟩
      rw [hB.agg]; omega
    · cases hp
def ArgFits (P : Program) (k : Nat) (t : TypeId) (a : AV) : Prop := ∃ cs, Fits P k t cs ∧ a = wrapE P t cs
theorem arg_rel {k : Nat} {t : TypeId} {v : Value} {xs : List AV} {base : Nat} (hp : plainT P k t = true) (hok : Value.okWide P w .any base t v) (hr : VRels G0 w xs v.cells.toList) (ho : ∀ u ∈ v.cells.toList, One u) : VRel G0 w (wrapE P t xs) v := by
  unfold wrapE
  cases ha : isAggT P t with
  | true =>
    have : ∃ cs, v = .agg cs := by
      unfold isAggT at ha
      unfold Value.okWide at hok
      split at ha
      · rename_i h; rw [h] at hok; obtain ⟨cs, h, -⟩ := hok; exact ⟨cs, h⟩
      · rename_i h; rw [h] at hok; obtain ⟨cs, h, -⟩ := hok; exact ⟨cs, h⟩
      · cases ha
    obtain ⟨cs, rfl⟩ := this
    simp only [if_true, VRel]
    exact ⟨cs.toList, by simp, by simpa [Value.cells] using hr⟩
  | false =>
    have hv : v.cells = #[v] := by
      cases v <;> try rfl
      exfalso
      cases k with
      | zero => cases hp
      | succ k =>
        unfold plainT at hp
        unfold isAggT at ha
        unfold Value.okWide Cell.okWide Cell.ok at hok
        split at hp
        all_goals (try (rename_i h; rw [h] at hok ha; simp at hok ha; done))
        all_goals (try (rename_i h; rw [h] at hok ha; simp at hok; done))
        all_goals simp_all
    rw [hv] at hr
    have hl := hr.length
    obtain ⟨x, rfl⟩ := List.length_eq_one_iff.1 (show xs.length = 1 by simpa using hl.symm)
    simp only [VRels] at hr
    obtain ⟨v', us, e1, hx, e2⟩ := hr
    cases e1
    simpa using hx
theorem args_fit (hl : laidOutB P = true) {B : DataW H → Nat} {BL : List (DataW H) → Nat} (hB : Bulk B BL) {k : Nat} {base : Nat} : ∀ {ts us : List TypeId} {vs : List Value} {ds : List (DataW H)} {ps : List MemPlace}, (∀ t ∈ ts, plainT P k t = true) →
    (∀ (j : Nat) t v, ts[j]? = some t → vs[j]? = some v → Value.okWide P w .any base t v) → (∀ n ∈ DataW.weightsEach P (ts ++ us) ds, n ≤ reachBytes) → DataW.TrodAll enc P w 0 (fun _ => true) true ts vs ds ps → ∃ avs, All2 (ArgFits P k) ts avs ∧ VRels G0 w avs vs ∧ bulkAs avs ≤ BL ds
  | [], us, [], [], _, _, _, _, _ => ⟨[], .nil, .nil, by simp [bulkAs]⟩
  | t :: ts, us, v :: vs, d :: ds, _, hp, hok, hwt, ⟨p, q, ⟨fuel, h1⟩, h2, _⟩ => by
    obtain ⟨xs, f1, f2, f3, f4⟩ := trod_fits hl hB k t (hp t (by simp)) fuel _ _ h1 (fun n hn => hwt n (by simp only [List.cons_append, DataW.weightsEach, List.mem_append]; exact .inl hn))
    obtain ⟨avs, g1, g2, g3⟩ := args_fit hl hB (us := us) (fun t ht => hp t (by simp [ht])) (fun j t v a b => hok (j + 1) t v (by simpa using a) (by simpa using b)) (fun n hn => hwt n (by simp only [List.cons_append, DataW.weightsEach, List.mem_append]; exact .inr hn)) h2
    refine ⟨wrapE P t xs :: avs, .cons ⟨xs, f1, rfl⟩ g1, .cons (arg_rel (hp t (by simp)) (hok 0 t v rfl rfl) f2 f3) g2, ?_⟩
    have := bulk_wrap P t xs
    simp only [bulkAs, hB.cons] at f4 ⊢
    omega
theorem trodAll_len {sp : Nat → Bool} : ∀ {ts : List TypeId} {vs : List Value} {ds : List (DataW H)} {ps : List MemPlace}, DataW.TrodAll enc P w 0 sp true ts vs ds ps → ds.length = ts.length
  | [], [], [], _, h => rfl
  | t :: ts, v :: vs, d :: ds, _, ⟨p, q, h1, h2, e⟩ => by simp [trodAll_len h2]
theorem trodAll_carry {w' : World} {sp : Nat → Bool} : ∀ {ts : List TypeId} {vs : List Value} {ds : List (DataW H)} {ps : List MemPlace}, DataW.TrodAll enc P w 0 sp true ts vs ds ps → (∀ p ∈ ps, w.sameAt w' p) → DataW.TrodAll enc P w' 0 sp true ts vs ds ps
  | [], [], [], _, h, _ => h
  | t :: ts, v :: vs, d :: ds, _, ⟨p, q, ⟨fuel, h1⟩, h2, e⟩, hs => by
    subst e
    exact ⟨p, q, ⟨fuel, DataW.trod_carry fuel _ _ _ h1 (fun x hx => hs x (List.mem_append_left _ hx))⟩, trodAll_carry h2 (fun x hx => hs x (List.mem_append_right _ hx)), rfl⟩
theorem calls_row (hl : laidOutB P = true) {B : DataW H → Nat} {BL : List (DataW H) → Nat} (hB : Bulk B BL) (hm : mapsRowed P = true) (hz : ∀ t e, t < P.types.size → P.underlying t = some (.slice e) → 0 < P.cellsOf e) {f : FuncId} {fn : Func} {s : ChangeSpec} {k base : Nat} {W : World} {args : Array Value} {ds gs : List (DataW H)} {before : List MemPlace} {tb : TypeId}
    (hvars : s.vars = []) (hfn : ∀ l : List (DataW H), l.length = fn.params.size → s.fn H l = { results := [.lit (.bool true)], args := l }) (hrt : fn.resultTypes = #[tb]) (htb : P.underlying tb = some .bool)
    (hpl' : fn.params.toList.all (plainT P k) = true) (hlt' : fn.params.toList.all (fun t => decide (t < P.types.size)) = true)
    (hval : ∀ (j : Nat) t v, fn.params[j]? = some t → args[j]? = some v → Value.okWide P W .any base t v) (hW : DataW.Whole enc P fn.params.toList s.vars false W args.toList ds gs before)
    {us : List TypeId} (hwt : (DataW.weightsEach P (fn.params.toList ++ us) (ds ++ gs)).all (· ≤ reachBytes) = true)
    (law : ∀ avs, All2 (ArgFits P k) fn.params.toList avs → bulkAs avs ≤ BL (ds ++ gs) → PCalls P f avs (.bool true)) :
    Calls P f args W fun e W' => ∃ v, e = .returned v ∧ s.post enc P fn false true false false W args v W' := by
  have hpl : ∀ t ∈ fn.params.toList, plainT P k t = true := List.all_eq_true.1 hpl'
  have hlt : ∀ t ∈ fn.params.toList, t < P.types.size := fun t ht => of_decide_eq_true (List.all_eq_true.1 hlt' t ht)
  have hW' := hW
  obtain ⟨p, q, hA, hV, rfl, -, -⟩ := hW
  rw [hvars] at hV
  obtain ⟨rfl, rfl⟩ := trodVars_none hV
  rw [List.append_nil] at hwt law
  obtain ⟨avs, g1, g2, g3⟩ := args_fit hl hB hpl (fun j t v a b => hval j t v (by simpa using a) (by simpa using b)) (fun n hn => of_decide_eq_true (List.all_eq_true.1 hwt n hn)) hA
  have hlaw := law avs g1 g3 0 0 G0 W args.toList g2 only_rep ⟨fun _ _ _ h => h, fun _ _ _ h => h⟩
  rw [show args.toList.toArray = args from Array.toArray_toList] at hlaw
  refine hlaw.mono ?_
  rintro e W' ⟨v, G', he, T, -, hv⟩
  subst he
  simp only [VRel] at hv
  subst hv
  have keep : ∀ B, B < W.heap.size → W'.heap[B]? = W.heap[B]? := fun B hB => T.keep B hB (fun x => only_O B x) (fun ⟨t, ht, _⟩ => by simp [H0, Av.H.only] at ht)
  have hlt' : ∀ x ∈ p, x.block < W.heap.size := DataW.TrodAll.lt hA
  have hlen := trodAll_len hA
  refine ⟨_, rfl, ds, [], p ++ [], [], p, [], hW', ?_, ?_, ?_, ?_, fun h => by cases h⟩
  · rw [hfn _ (by simpa using hlen), hrt]
    exact trodAll_mk1 (shut_bool htb _)
  · rw [hfn _ (by simpa using hlen)]
    have := DataW.TrodAll.respare (kids_rows hl hm) hz (spare' := fun b => decide (b < W.heap.size)) hlt hA (fun x hx => by simpa using hlt' x hx)
    simp only [List.append_nil]
    refine trodAll_carry this fun x hx => ?_
    have hb := hlt' x hx
    cases x with
    | cell b off => unfold World.sameAt World.cell?; simp only; rw [keep b hb]
    | map b => exact keep b hb
  · rw [hvars, hfn _ (by simpa using hlen)]
    rfl
  · refine ⟨T.os, T.output, fun i hi => ?_⟩
    rw [keep i hi]
    generalize W.heap[i]? = o
    cases o with
    | none => rfl
    | some o => cases o <;> simp
end
end Go.Av
end
section
set_option linter.unusedSimpArgs false
set_option linter.unusedVariables false
set_option maxRecDepth 100000
namespace Go.Proofs.YtkcgpcbpieofnaaGreatDoor.Desk
open Go Go.Av Go.Proofs
theorem laid : laidOutB Tryz.prog = true := by kernel_rfl
theorem rowed : mapsRowed Tryz.prog = true := by kernel_rfl
theorem full : ∀ t e, t < Tryz.prog.types.size → Tryz.prog.underlying t = some (.slice e) → 0 < Tryz.prog.cellsOf e := slices_full_of Tryz.prog (by kernel_rfl)
theorem own : ownKnob Tryz.prog.godebug = none := by kernel_rfl
theorem bulk {H : Type} : Bulk (H := H) Rows.uptoBulk Rows.uptoBulkAll :=
  ⟨fun l => by simp [Rows.uptoBulk], fun k n => by simp [Rows.uptoBulk], fun b => by simp [Rows.uptoBulk], by simp [Rows.uptoBulk], fun a b => by simp [Rows.uptoBulk], fun a => by simp [Rows.uptoBulk], by simp [Rows.uptoBulkAll], fun d l => by simp [Rows.uptoBulkAll]⟩
theorem fit_int {P : Program} {k : Nat} {t : TypeId} {q : IntKind} {cs : List AV} (ht : P.underlying t = some (.int q)) (h : Fits P (k + 1) t cs) : ∃ n, cs = [.int q n] ∧ (Lit.int q n).wf = true := by
  unfold Fits at h; rw [ht] at h; exact h
theorem fit_struct {P : Program} {k : Nat} {t : TypeId} {fs : Array Field} {cs : List AV} (ht : P.underlying t = some (.struct fs)) (h : Fits P (k + 1) t cs) : ∃ xss, cs = xss.flatten ∧ Av.All2 (fun (f : Field) cs => Fits P k f.type cs) fs.toList xss := by
  unfold Fits at h; rw [ht] at h; exact h
theorem fit_row {P : Program} {k : Nat} {t e : TypeId} {cs : List AV} (ht : P.underlying t = some (.slice e)) (h : Fits P (k + 1) t cs) : ∃ ys, cs = [.sl (P.cellsOf e) ys .any] ∧ ys.length * P.bytesOf e ≤ reachBytes ∧ ∀ y ∈ ys, ∃ cs, Fits P k e cs ∧ y = wrapE P e cs := by
  unfold Fits at h; rw [ht] at h; exact h
theorem agg_of {t : TypeId} {cs : List AV} (hg : isAggT Tryz.prog t = true) : wrapE Tryz.prog t cs = .agg cs := by
  unfold wrapE; rw [if_pos hg]
def ints' (l : List Int) : List AV := l.map fun n => .int .i64 n
structure Rq where
  kind : Int
  ses : Int
  bucket : List UInt8
  object : List UInt8
  version : List UInt8
  pre : List UInt8
  delim : List UInt8
  body : List UInt8
  c1 : Int
  c2 : Int
  c3 : Int
  id : Int
  n : Int
  parts : List Int
theorem ints_pure (l : List Int) : allPure (ints' l) = true := Av.allPure_map (fun a => by simp [isPure]) l
def cellsD : DataW Unit → Array Value
  | .agg l => (l.map fun d => match d with | .lit (.int k n) => Value.int k n | _ => undef).toArray
  | _ => #[]
noncomputable def putG (w : World) (b : Nat) (d : DataW Unit) : World :=
  { w with heap := w.heap.modify b fun
      | .cells _ t fr => .cells (cellsD d) t fr
      | o => o }
noncomputable def laidWorld (os : Os) : World :=
  putG (putG (putG (World.holding Tryz.prog os ⟨#[], #[], []⟩) 2 Rows.laid_internal_strconv_uint64pow10) 3 Rows.laid_math_bits_deBruijn32tab) 4 Rows.laid_math_bits_deBruijn64tab
end Go.Proofs.YtkcgpcbpieofnaaGreatDoor.Desk
end
section
set_option linter.unusedVariables false
set_option linter.unusedSimpArgs false
namespace Go.Av
structure Fun where
  N : Nat
  ac : AC
  ds : List RV
inductive FT where
  | leaf
  | node (k : Nat) (F : Fun) (l r : FT)
def FT.get (f : Nat) : FT → Option Fun
  | .leaf => none
  | .node k F l r => match Nat.beq f k with
    | true => some F
    | false => match Nat.ble f k with
      | true => FT.get f l
      | false => FT.get f r
def FT.Ok (P : Program) : FT → Prop
  | .leaf => True
  | .node k F l r => FnIs P k F.N F.ac F.ds ∧ l.Ok P ∧ r.Ok P
def FT.named (P : Program) : FT → Bool
  | .leaf => true
  | .node k F l r => ((P.funcs[k]?).any fun fn => fn.name != "runtime.NumGoroutine") && l.named P && r.named P
theorem FT.get_ok {P : Program} {f : Nat} {F : Fun} : ∀ {T : FT}, T.Ok P → T.named P = true → T.get f = some F → FnIs P f F.N F.ac F.ds ∧ ∃ fn, P.funcs[f]? = some fn ∧ fn.body.isSome = true ∧ fn.name ≠ "runtime.NumGoroutine"
  | .leaf, _, _, h => by cases h
  | .node k F' l r, ok, nm, h => by
    simp only [FT.named, Bool.and_eq_true] at nm
    simp only [FT.get] at h
    split at h
    · rename_i e
      cases h
      have e := Nat.eq_of_beq_eq_true e
      subst e
      refine ⟨ok.1, ?_⟩
      obtain ⟨fn, h1, h2, h3, h4⟩ := ok.1
      refine ⟨fn, h1, ?_, ?_⟩
      · obtain ⟨code, hb, _⟩ := Option.bind_eq_some_iff.1 h3
        rw [hb]; rfl
      · have := nm.1.1
        rw [h1] at this
        simpa using this
    · split at h
      · exact FT.get_ok ok.2.1 nm.1.2 h
      · exact FT.get_ok ok.2.2 nm.2 h
mutual
def idsA : AV → List Nat
  | .sl _ xs _ => idsAs xs
  | .ref cs => idsAs cs
  | .agg cs => idsAs cs
  | .tup cs => idsAs cs
  | .ptr i _ => [i]
  | .tsl _ i _ _ _ => [i]
  | .mp i => [i]
  | .yld i => [i]
  | .slt _ xs ys => idsAs xs ++ idsAs ys
  | .clo _ a b => idsAs a ++ idsAs b
  | .ifc _ x => idsA x
  | _ => []
def idsAs : List AV → List Nat
  | [] => []
  | x :: xs => match idsA x with
    | [] => idsAs xs
    | l => l ++ idsAs xs
end
def toksC : Cap → List Nat
  | .own t => [t]
  | _ => []
mutual
def toksA : AV → List Nat
  | .sl _ xs c => toksC c ++ toksAs xs
  | .ref cs => toksAs cs
  | .agg cs => toksAs cs
  | .tup cs => toksAs cs
  | .clo _ a b => toksAs a ++ toksAs b
  | .ifc _ x => toksA x
  | .slt _ xs ys => toksAs xs ++ toksAs ys
  | _ => []
def toksAs : List AV → List Nat
  | [] => []
  | x :: xs => match toksA x with
    | [] => toksAs xs
    | l => l ++ toksAs xs
end
def reach (objs : Nat → Option Obj) : Nat → List Nat → List Nat → List Nat
  | 0, _, seen => seen
  | _ + 1, [], seen => seen
  | k + 1, i :: todo, seen => match seen.contains i with
    | true => reach objs k todo seen
    | false => match objs i with
      | some (.cells cs) => reach objs k (idsAs cs ++ todo) (i :: seen)
      | some (.map es) => reach objs k (es.flatMap (fun e => idsA e.1 ++ idsA e.2) ++ todo) (i :: seen)
      | some (.loop _ _ _ _ _ _ _) => reach objs k todo seen
      | none => reach objs k todo seen
def toksIn (objs : Nat → Option Obj) (l : List Nat) : List Nat := l.flatMap fun j => match objs j with
  | some (.cells cs) => toksAs cs
  | some (.map es) => es.flatMap fun e => toksA e.1 ++ toksA e.2
  | some (.loop _ _ _ _ _ _ _) => []
  | none => []
def H.cut (h : H) (ids toks : List Nat) : H := ⟨fun j => match ids.contains j with | true => h.objs j | false => none, h.n, h.toks.filter fun t => toks.contains t, h.m⟩
def isEndB : AExit → Bool
  | .normal | .ret => true
  | _ => false
def pairsB : List (Nat × Nat) → List Ent → Bool
  | [], _ => true
  | (i, j) :: l, log =>
    let e := log.getD i ent0
    let f := log.getD j ent0
    e.wr.all (fun id => !f.rd.contains id && !f.wr.contains id) && f.wr.all (fun id => !e.rd.contains id && !e.wr.contains id) && e.tk.all (fun t => !f.tk.contains t) && pairsB l log
def pairsQB : Option (List (Nat × Nat)) → List Ent → Bool
  | none, _ => true
  | some l, log => pairsB l log
theorem pairsB_ok : ∀ {l : List (Nat × Nat)} {log : List Ent}, pairsB l log = true → pairsOk l log
  | [], _, _ => trivial
  | (i, j) :: l, log, h => by
    simp only [pairsB, Bool.and_eq_true, List.all_eq_true, Bool.not_eq_true', List.contains_eq_mem, decide_eq_false_iff_not] at h
    exact ⟨⟨fun id hid => h.1.1.1 id hid, fun id hid => h.1.1.2 id hid, fun t ht => h.1.2 t ht⟩, pairsB_ok h.2⟩
abbrev Prims := Nat → List AV → H → Option (AV × H × Ent)
def callF (T : FT) (pr : Prims) (rn : Nat → AC → St → Option (AExit × St)) (f : Nat) (args : List AV) (h : H) : Option (AV × H × Ent) :=
  match pr f args h with
  | some r => some r
  | none => match T.get f with
  | none => none
  | some F => match Nat.ble args.length F.N with
    | false => none
    | true => match allPure args with
      | true => match rn F.N F.ac ⟨initT args, H0 h.n h.m⟩ with
        | some (e, s') => match isEndB e, resOf F.ds s'.t s'.h with
          | true, some r => match isPure r with
            | true => some (r, h, ent0)
            | false => match Nat.ble h.n s'.h.n && Nat.ble h.m s'.h.m with
              | true => some (r, h.patch (H0 h.n h.m) s'.h, ⟨[], (List.range (s'.h.n - h.n)).map (h.n + ·), s'.h.toks⟩)
              | false => none
          | _, _ => none
        | none => none
      | false =>
        let ids := reach h.objs 1000000 (idsAs args) []
        let h1 := h.cut ids (toksAs args ++ toksIn h.objs ids)
        match rn F.N F.ac ⟨initT args, h1⟩ with
        | some (e, s') => match isEndB e, resOf F.ds s'.t s'.h with
          | true, some r => match Nat.ble h.n s'.h.n && Nat.ble h.m s'.h.m with
            | true => some (r, h.patch h1 s'.h, ⟨[], ids ++ (List.range (s'.h.n - h.n)).map (h.n + ·), h1.toks ++ s'.h.toks⟩)
            | false => none
          | _, _ => none
        | none => none
def runItems (call : Nat → List AV → H → Option (AV × H × Ent)) : List AItem → Tm → H → List Ent → Option (Tm × H × List Ent)
  | [], t, h, l => some (t, h, l)
  | ⟨dst, g, op⟩ :: its, t, h, l => match guardOf t g with
    | some true => match op with
      | .call f args => match call f (args.map (ev t)) h with
        | some (r, h', en) => runItems call its (putT t dst r) h' (en :: l)
        | none => none
      | .callv y args => match ev t y with
        | .clo (.func f) first caps => match call f (first ++ args.map (ev t) ++ caps) h with
          | some (r, h', en) => runItems call its (putT t dst r) h' (en :: l)
          | none => none
        | _ => none
      | op => match aop (ev t) h op with
        | some (x, h', en) => runItems call its (putT t dst x) h' (en :: l)
        | none => none
    | some false => runItems call its (putT t dst (.sc undef)) h (ent0 :: l)
    | none => none
def lookN (l : List (Nat × Obj)) (i : Nat) : Option Obj := match l with
  | [] => none
  | (j, o) :: r => match Nat.beq i j with
    | true => some o
    | false => lookN r i
def norm (N : Nat) (s : St) : St :=
  let l := (List.range N).map s.t
  let o := (List.range s.h.n).filterMap fun j => (s.h.objs j).map fun x => (j, x)
  ⟨fun i => l.getD i .any, { s.h with objs := lookN o }⟩
def runS (rn : AC → St → Option (AExit × St)) (nm : St → St) : Nat → AC → AC → St → Option (AExit × St)
  | 0, _, _, _ => none
  | k + 1, c, cur, s => match rn cur s with
    | some (.goto l, s') => match findL c l with
      | some rest => runS rn nm k c rest (nm s')
      | none => some (.goto l, s')
    | r => r
def run (T : FT) (pr : Prims) : Nat → Nat → AC → St → Option (AExit × St)
  | 0, _, _, _ => none
  | k + 1, N, c, s => match c with
    | .skip => some (.normal, s)
    | .ret => some (.ret, s)
    | .exit i => some (.exit i, s)
    | .reg items p => match runItems (callF T pr (run T pr k)) items s.t s.h [] with
      | some (t, h, l) => match pairsQB p l.reverse with
        | true => some (.normal, ⟨t, h⟩)
        | false => none
      | none => none
    | .seq a b => match run T pr k N a s with
      | some (.normal, s') => run T pr k N b s'
      | r => r
    | .cond c a b => match ev s.t c with
      | .bool true => run T pr k N a s
      | .bool false => run T pr k N b s
      | _ => none
    | .block id a => match run T pr k N a s with
      | some (.exit i, s') => match Nat.beq i id with
        | true => some (.normal, s')
        | false => some (.exit i, s')
      | r => r
    | .loop a => match run T pr k N a s with
      | some (.normal, s') => run T pr k N (.loop a) (norm N s')
      | r => r
    | .label _ => some (.normal, s)
    | .goto l => some (.goto l, s)
    | .scope a => runS (run T pr k N) (norm N) k a a s
    | .rfun _ _ _ _ => none
section
variable {P : Program} {T : FT}
theorem isEndB_ok {e : AExit} (h : isEndB e = true) : isEnd e := by cases e <;> simp_all [isEndB, isEnd]
theorem touch_gen (h h1 h1' : H) {ids : List Nat} (hs : h1.sub h) (n : h1.n = h.n) (m : h1.m = h.m) (hi : ∀ id, (h1.objs id).isSome → id ∈ ids) (le : h.n ≤ h1'.n) (lem : h.m ≤ h1'.m) :
    Touch h h1 h1' (h.patch h1 h1') ⟨[], ids ++ (List.range (h1'.n - h.n)).map (h.n + ·), h1.toks ++ h1'.toks⟩ where
  sub := hs
  n := n
  m := m
  eq := rfl
  rd id x := .inr (List.mem_append_left _ (hi id x))
  wr id a b := List.mem_append_right _ (List.mem_map.2 ⟨id - h.n, by simp; omega, by omega⟩)
  chg id x hx := absurd (List.mem_append_left _ (hi id x)) hx
  tk t x := List.mem_append_left _ x
  tn t x := List.mem_append_right _ x
  le := by omega
  lem := by omega
theorem cut_sub (h : H) (ids toks : List Nat) : (h.cut ids toks).sub h := by
  refine ⟨fun j o hj => ?_, fun t ht => ?_⟩
  · simp only [H.cut] at hj
    split at hj
    · exact hj
    · cases hj
  · simp only [H.cut, List.mem_filter] at ht
    exact ht.1
theorem cut_ids (h : H) (ids toks : List Nat) (id : Nat) (hx : ((h.cut ids toks).objs id).isSome) : id ∈ ids := by
  simp only [H.cut] at hx
  split at hx
  · rename_i e; simpa using e
  · cases hx
theorem ACalls.pure0 {f : FuncId} {args : List AV} {r r' : AV} {h' : H} (ha : VPures args) (hc : ACalls P f args (H0 0 0) r h') (hs : VSub r r') (hp : VPure r') : PCalls P f args r' := by
  intro n m G w vs hv R F
  let G0 : Ghost := { G with dom := fun _ => False, tdom := fun _ => False }
  refine (hc G0 w vs (ha G G0 w vs rfl rfl hv) only_rep ⟨fun _ _ _ h => h, fun _ _ _ h => h⟩).mono ?_
  rintro e w' ⟨v, G', rfl, T, R', V⟩
  refine ⟨v, { G' with dom := G.dom, ι := G.ι, tdom := G.tdom, τ := G.τ }, rfl, ?_, only_rep, hp G' _ w' v rfl rfl (hs G' w' v V)⟩
  have hO : ∀ {G : Ghost} {n m} B, ¬ (H0 n m).O G B := fun B => only_O B
  have hT : ∀ {G : Ghost} {n m} B, ¬ (H0 n m).T G B := fun B ⟨t, ht, _⟩ => by simp [H0, H.only] at ht
  constructor
  · exact fun _ x => x
  · exact fun _ => .inl
  · exact fun _ _ => rfl
  · exact fun _ x => x
  · exact fun _ => .inl
  · exact fun _ _ => rfl
  · exact Nat.le_refl _
  · exact Nat.le_refl _
  · exact T.size_le
  · exact T.os
  · exact T.output
  · exact T.form
  · exact fun B hB _ _ => T.keep B hB (hO B) (hT B)
  · exact fun B hB _ => T.own_keep B hB (hO B)
  · exact fun B hB _ _ => T.lim_keep B hB (hO B) (hT B)
  · exact fun B hB x => absurd x (hT B)
  · exact fun B _ x => absurd x (hO B)
  · exact fun B _ x => absurd x (hT B)
  · exact fun j o x => by simp [H0, H.only, none'] at x
  · exact fun t x => by simp [H0, H.only] at x
theorem FnIs.pcalls0 {f : FuncId} {N : Nat} {ac : AC} {args : List AV} {ds : List RV} {r : AV} (hF : FnIs P f N ac ds) (hl : args.length ≤ N) (ha : allPure args = true) (hp : isPure r = true) (hw : Wp P N ac ⟨initT args, H0 0 0⟩ fun e s' => isEnd e ∧ ∃ q, resOf ds s'.t s'.h = some q ∧ VSub q r) : PCalls P f args r := by
  obtain ⟨r', h', hcall, hs⟩ := hF.acalls (Q := fun r' _ => VSub r' r) hl hw
  exact hcall.pure0 (allPure_ok _ ha) hs (isPure_ok _ hp)
end
end Go.Av
end
section
set_option linter.unusedSimpArgs false
set_option linter.unusedVariables false
set_option maxRecDepth 10000
namespace Go.Av
section
variable {P : Program}
def cloneC (sz bytes : Nat) : AC := (.seq (.reg [⟨some 2, none, .mov (.c (.sl sz [] (.exact 0)))⟩] none)
 (.seq (.seq (.reg [⟨some 3, none, .mov (.t 0)⟩, ⟨some 4, none, .eqN false (.t 3)⟩] none)
 (.cond (.t 4) (.seq (.reg [⟨some 2, none, .mov (.c (.sl sz [] (.exact 0)))⟩] none)
 .ret) .skip))
 (.seq (.reg [⟨some 5, none, .buildSl sz []⟩, ⟨some 6, none, .mov (.t 0)⟩, ⟨some 7, none, .app false sz bytes (.t 5) (.t 6)⟩, ⟨some 2, none, .mov (.t 7)⟩] none)
 .ret)))
theorem VSub.own {sz : Nat} {xs : List AV} {t : Nat} : VSub (.sl sz xs (.own t)) (.sl sz xs .any) := VSub.cap
theorem VSub.sc_empty {sz : Nat} {a : Option Addr} {C : Nat} (h : C = 0 ∨ ∃ B off, a = some ⟨B, off, none⟩) : VSub (.sc (.slice a 0 C)) (.sl sz [] .any) := by
  intro G w v hv
  simp only [VRel] at hv
  subst hv
  unfold VRel
  rcases h with rfl | ⟨B, off, rfl⟩
  · exact .inl ⟨rfl, ⟨a, rfl⟩, trivial⟩
  · exact .inr ⟨B, off, C, [], rfl, Nat.zero_le _, by simp, by simp [VElems], Imm.nil, trivial⟩
theorem ACalls.split_empty {f : FuncId} {sz : Nat} {c : Cap} {rest : List AV} {h h' : H} {r : AV} (hc : ∀ a C, (C = 0 ∨ ∃ B off, a = some ⟨B, off, none⟩) → ACalls P f (.sc (.slice a 0 C) :: rest) h r h') : ACalls P f (.sl sz [] c :: rest) h r h' := by
  intro G w vs hv R F
  simp only [VRels] at hv
  obtain ⟨v, us, rfl, hv, hr⟩ := hv
  simp only [VRel] at hv
  rcases hv with ⟨-, ⟨a, rfl⟩, -⟩ | ⟨B, off, C, ws, rfl, -⟩
  · exact hc a 0 (.inl rfl) G w _ (.cons (by simp [VRel]) hr) R F
  · exact hc _ C (.inr ⟨B, off, rfl⟩) G w _ (.cons (by simp [VRel]) hr) R F
theorem clone_gen {f : FuncId} {sz bytes : Nat} (hF : FnIs P f 8 (cloneC sz bytes) [.tmp 2]) (xs : List AV) (hp : allPure xs = true) (hb : xs.length * bytes ≤ 140737488355328) (hl : xs.length < 4611686018427387904) : PCalls P f [.sl sz xs .any] (.sl sz xs .any) := by
  cases xs with
  | nil =>
    intro n m
    refine ACalls.split_empty fun a C hC => ?_
    have : PCalls P f [.sc (.slice a 0 C)] (.sl sz [] .any) := by
      refine hF.pcalls (by simp) (allPure_ok _ rfl) (isPure_ok _ rfl) fun n m => ?_
      unfold cloneC
      refine Wp.seqReg (by simp only [go_sem, reduceIte, Nat.reduceEqDiff, Nat.reduceAdd, bx]; exact rfl) (by trivial) ?_
      refine Wp.seq ?_
      refine Wp.seqReg (by simp only [go_sem, reduceIte, Nat.reduceEqDiff, Nat.reduceAdd, bx]; exact rfl) (by trivial) ?_
      cases ha : a.isNone with
      | true =>
        refine Wp.cond_true (by simp only [go_sem, reduceIte, Nat.reduceEqDiff, Nat.reduceAdd, bx, ha]) ?_
        refine Wp.seqReg (by simp only [go_sem, reduceIte, Nat.reduceEqDiff, Nat.reduceAdd, bx]; exact rfl) (by trivial) ?_
        refine Wp.ret ⟨trivial, _, rfl, ?_⟩
        simp only [go_sem, reduceIte, Nat.reduceEqDiff, Nat.reduceAdd, bx]
        exact VSub.cap
      | false =>
        refine Wp.cond_false (by simp only [go_sem, reduceIte, Nat.reduceEqDiff, Nat.reduceAdd, bx, ha]) ?_
        refine Wp.skip ?_
        refine Wp.le (s' := ⟨tm [(0, .sl sz [] .any)], _⟩) (StLe.tm ⟨VSub.sc_empty hC, trivial⟩) ?_
        refine Wp.seqReg (by simp only [go_sem, reduceIte, Nat.reduceEqDiff, Nat.reduceAdd, bx, Nat.zero_mul, Nat.zero_le, and_self, or_true, if_true, Nat.reduceMul, Nat.reduceLT, Nat.reduceLeDiff, decide_true]; exact rfl) (by trivial) ?_
        refine Wp.ret ⟨trivial, _, rfl, ?_⟩
        simp only [go_sem, reduceIte, Nat.reduceEqDiff, Nat.reduceAdd, bx]
        exact VSub.cap
    exact this n m
  | cons x xs =>
    refine hF.pcalls (by simp) (allPure_ok _ (by simp [allPure, isPure, capPure] at hp ⊢; exact hp)) (isPure_ok _ (by simp [allPure, isPure, capPure] at hp ⊢; exact hp)) fun n m => ?_
    unfold cloneC
    refine Wp.seqReg (by simp only [go_sem, reduceIte, Nat.reduceEqDiff, Nat.reduceAdd, bx]; exact rfl) (by trivial) ?_
    refine Wp.seq ?_
    refine Wp.seqReg (by simp only [go_sem, reduceIte, Nat.reduceEqDiff, Nat.reduceAdd, bx]; exact rfl) (by trivial) ?_
    refine Wp.cond_false (by simp only [go_sem, reduceIte, Nat.reduceEqDiff, Nat.reduceAdd, bx]) ?_
    refine Wp.skip ?_
    simp only [List.length_cons] at hb hl
    have h1 : (0 + (xs.length + 1)) * bytes ≤ 140737488355328 := by rw [Nat.zero_add]; exact hb
    have h2 : 0 + (xs.length + 1) < 4611686018427387904 := by omega
    refine Wp.seqReg (by simp only [go_sem, reduceIte, Nat.reduceEqDiff, Nat.reduceAdd, bx, Nat.zero_mul, Nat.zero_le, and_self, or_true, true_or, if_true, Nat.reduceMul, Nat.reduceLT, Nat.reduceLeDiff, decide_true, hb, hl]; exact rfl) (by trivial) ?_
    refine Wp.ret ⟨trivial, _, rfl, ?_⟩
    simp only [go_sem, reduceIte, Nat.reduceEqDiff, Nat.reduceAdd, bx]
    exact VSub.cap
def OLe (f f' : Nat → Option Obj) : Prop := ∀ j o', f' j = some o' → ∃ o, f j = some o ∧ OSub o o'
theorem OLe.refl (f : Nat → Option Obj) : OLe f f := fun j o h => ⟨o, h, OSub.refl o⟩
theorem OLe.none (f : Nat → Option Obj) : OLe f none' := fun j o h => by cases h
theorem OLe.upd {f f' : Nat → Option Obj} {i : Nat} {o o' : Obj} (h : OLe f f') (hs : OSub o o') : OLe (upd f i (some o)) (upd f' i (some o')) := by
  intro j p hp
  simp only [Go.Av.upd] at hp ⊢
  split at hp
  · rename_i e; rw [if_pos e]; cases hp; exact ⟨o, rfl, hs⟩
  · rename_i e; rw [if_neg e]; exact h j p hp
theorem StLe.of {t t' : Tm} {f f' : Nat → Option Obj} {n n' m m' : Nat} {k k' : List Nat} (ht : ∀ i, VSub (t i) (t' i)) (ho : OLe f f') (hk : ∀ x ∈ k', x ∈ k) (hn : n ≤ n') (hm : m ≤ m') : StLe ⟨t, ⟨f, n, k, m⟩⟩ ⟨t', ⟨f', n', k', m'⟩⟩ :=
  StLe.mk' ht ⟨ho, hk⟩ hn hm
theorem VSub.own_of {sz : Nat} {xs : List AV} {k t : Nat} (h : k = xs.length) : VSub (.sl sz xs (.exact k)) (.sl sz xs (.own t)) := by
  intro G w v hv
  unfold VRel at hv ⊢
  rcases hv with ⟨a, b, -⟩ | ⟨B, off, C, vs, h1, h2, h3, h4, h5, h6⟩
  · exact .inl ⟨a, b, trivial⟩
  · exact .inr ⟨B, off, C, vs, h1, h2, h3, h4, h5, .inl (by simp only [CapOk] at h6; omega)⟩
theorem OLe.put {f f' : Nat → Option Obj} {i : Nat} {o o' : Obj} (h : OLe f f') (hf : f i = some o) (hs : OSub o o') : OLe f (Go.Av.upd f' i (some o')) := by
  intro j p hp
  simp only [Go.Av.upd] at hp
  split at hp
  · rename_i e; subst e; cases hp; exact ⟨o, hf, hs⟩
  · exact h j p hp
end
end Go.Av
end
section
set_option linter.unusedVariables false
set_option linter.unusedSimpArgs false
namespace Go.Av
open Classical in
section
variable {P : Program} {G : Ghost} {h : H} {w : World}
def H.DO (h : H) (G : Ghost) (d : Nat → Bool) (B : Nat) : Prop := ∃ id o, d id = true ∧ h.objs id = some o ∧ G.ι id = B
def H.drop (h : H) (d : Nat → Bool) : H := { h with objs := fun j => if d j then none else h.objs j }
noncomputable def Ghost.frz (G : Ghost) (h : H) (d : Nat → Bool) : Ghost :=
  { G with own := fun B => G.own B ∧ ¬ h.DO G d B, lim := fun B => if h.DO G d B then none else G.lim B }
theorem DO_O {d : Nat → Bool} {B : Nat} (x : h.DO G d B) : h.O G B := by
  obtain ⟨id, o, -, a, b⟩ := x
  exact ⟨id, o, a, b⟩
theorem frz_trans (d : Nat → Bool) : Trans G w h (G.frz h d) w (h.drop d) := by
  have hsub : ∀ B, (h.drop d).O (G.frz h d) B → h.O G B := by
    rintro B ⟨id, o, a, b⟩
    simp only [H.drop] at a
    split at a
    · cases a
    · exact ⟨id, o, a, b⟩
  constructor
  · exact fun _ x => x
  · exact fun _ => .inl
  · exact fun _ _ => rfl
  · exact fun _ x => x
  · exact fun _ => .inl
  · exact fun _ _ => rfl
  · exact Nat.le_refl _
  · exact Nat.le_refl _
  · exact Nat.le_refl _
  · rfl
  · rfl
  · intro B hB
    exact SameForm.refl _
  · exact fun _ _ _ _ => rfl
  · intro B hB hO
    have : ¬ h.DO G d B := fun x => hO (DO_O x)
    simp [Ghost.frz, this]
  · intro B hB hO hT
    have : ¬ h.DO G d B := fun x => hO (DO_O x)
    simp [Ghost.frz, this]
  · intro B hB hT hO e he
    have : ¬ h.DO G d B := fun x => hO (DO_O x)
    refine ⟨fun _ _ => rfl, fun e' he' => ?_⟩
    simp only [Ghost.frz, this, if_false] at he'
    rw [he] at he'
    cases he'
    exact Nat.le_refl _
  · exact fun B _ x => hsub B x
  · exact fun B _ x => x
  · intro j o a
    simp only [H.drop] at a
    split at a
    · cases a
    · exact .inl ⟨o, a⟩
  · exact fun t x => .inl x
theorem frz_rep (R : RepH G h w) (d : Nat → Bool) : RepH (G.frz h d) (h.drop d) w := by
  have hd : ∀ {id o}, (h.drop d).objs id = some o → h.objs id = some o ∧ d id = false := by
    intro id o a
    simp only [H.drop] at a
    split at a
    · cases a
    · rename_i q; exact ⟨a, by simpa using q⟩
  constructor
  · intro id o a
    obtain ⟨a, q⟩ := hd a
    obtain ⟨r1, r2, r3, r4⟩ := R.obj id o a
    refine ⟨r1, ⟨r2, ?_⟩, r3, ?_⟩
    · rintro ⟨id', o', x1, x2, x3⟩
      have := R.inj _ _ _ _ x2 a x3
      subst this
      rw [x1] at q; cases q
    · cases o with
      | cells cs =>
        obtain ⟨vs, rest, T, fr, y1, y2, y3⟩ := r4
        exact ⟨vs, rest, T, fr, y1, VRels.mono R (frz_trans d) _ _ y2, y3⟩
      | map es =>
        obtain ⟨en, clock, y1, y2⟩ := r4
        exact ⟨en, clock, y1, Entries.mono R (frz_trans d) _ _ y2⟩
      | loop N t ps asg body st pend =>
        obtain ⟨r, y1, y2, y3, y4⟩ := r4
        exact ⟨r, y1, y2, fun i => VRel.mono R (frz_trans d) _ _ (y3 i), y4⟩
  · intro id id' o o' a b e
    exact R.inj _ _ _ _ (hd a).1 (hd b).1 e
  · intro t ht
    obtain ⟨r1, r2⟩ := R.tok t ht
    refine ⟨r1, fun B e q => ?_⟩
    obtain ⟨x1, x2, x3⟩ := r2 B e q
    have : ¬ h.DO G d B := by
      rintro ⟨id, o, y1, y2, y3⟩
      have := (R.obj id o y2).2.1
      rw [y3] at this
      exact x2 this
    refine ⟨by simp only [Ghost.frz, this, if_false]; exact x1, fun x => x2 x.1, x3⟩
  · exact fun t ht t' ht' B e e' a b => R.tinj t ht t' ht' B e e' a b
theorem one_cells {v : Value} (h : One v) : v.cells = #[v] := by
  obtain ⟨a, b⟩ := h
  cases v <;> first | rfl | exact absurd rfl (a _) | exact absurd rfl (b _)
theorem frz_tsl (R : RepH G h w) {d : Nat → Bool} {id off len : Nat} {c : Option Nat} {cs : List AV} {v : Value} (ho : h.objs id = some (.cells cs)) (hd : d id = true) (hl : off + len ≤ cs.length) (r : VRel G w (.tsl 1 id off len c) v) :
    VRel (G.frz h d) w (.sl 1 ((cs.drop off).take len) .any) v := by
  simp only [VRel] at r
  obtain ⟨-, ⟨C, cc, Tt, fr, rfl, ⟨h2, -⟩, -⟩ | ⟨h0, ⟨a, rfl⟩, -⟩⟩ := r
  · obtain ⟨-, r2, r3, vs, rest, T, fr', y1, y2, y3, y4⟩ := R.obj id _ ho
    have hlen := VRels.length y2
    have hx : VRels (G.frz h d) w ((cs.drop off).take len) ((vs.drop off).take len) := VRels.mono R (frz_trans d) _ _ (VRels.take len (VRels.drop off y2))
    have h1 : ∀ v ∈ (vs.drop off).take len, One v := fun v hv => y4 v (List.mem_of_mem_drop (List.mem_of_mem_take hv))
    have he := elems_of_rels (sz := 1) hx (fun v hv => by rw [one_cells (h1 v hv)]; rfl)
    have hfl : ((vs.drop off).take len).flatMap (·.cells.toList) = (vs.drop off).take len := by
      have : ∀ l : List Value, (∀ v ∈ l, One v) → l.flatMap (·.cells.toList) = l := by
        intro l
        induction l with
        | nil => intro _; rfl
        | cons x l ih => intro hl; rw [List.flatMap_cons, one_cells (hl x (by simp)), ih (fun v hv => hl v (by simp [hv]))]; rfl
      exact this _ h1
    rw [hfl] at he
    unfold VRel
    refine .inr ⟨G.ι id, off, C, (vs.drop off).take len, ?_, ?_, ?_, he, ?_, trivial⟩
    · rw [List.length_take, List.length_drop]; congr 1; omega
    · rw [List.length_take]; omega
    · simp only [List.length_take, List.length_drop]; omega
    · intro i v hi
      have hi' := (List.getElem?_eq_some_iff.1 hi).1
      rw [List.length_take, List.length_drop] at hi'
      have hv1 : vs[off + i]? = some v := by
        rw [List.getElem?_take_of_lt (by omega), List.getElem?_drop] at hi
        exact hi
      refine ⟨?_, h1 v (List.mem_of_getElem? hi), ?_, ?_⟩
      · unfold World.cell?
        simp only [y1]
        simp [List.getElem?_append_left (show off + i < vs.length by omega), hv1]
      · exact fun x => x.2 ⟨id, _, hd, ho, rfl⟩
      · intro e he'
        have : h.DO G d (G.ι id) := ⟨id, _, hd, ho, rfl⟩
        simp [Ghost.frz, this] at he'
  · subst h0
    unfold VRel
    exact .inl ⟨by simp, ⟨_, rfl⟩, trivial⟩
theorem frz_ptr (R : RepH G h w) {d : Nat → Bool} {id off : Nat} {cs : List AV} {v : Value} (ho : h.objs id = some (.cells cs)) (hd : d id = true) (r : VRel G w (.ptr id off) v) :
    VRel (G.frz h d) w (.ref (cs.drop off)) v := by
  simp only [VRel] at r
  obtain ⟨-, rfl⟩ := r
  obtain ⟨-, r2, r3, vs, rest, T, fr', y1, y2, y3, y4⟩ := R.obj id _ ho
  unfold VRel
  refine ⟨G.ι id, off, vs.drop off, rfl, VRels.mono R (frz_trans d) _ _ (VRels.drop off y2), ?_⟩
  intro i v hi
  have hv1 : vs[off + i]? = some v := by rw [List.getElem?_drop] at hi; exact hi
  have hi' := (List.getElem?_eq_some_iff.1 hv1).1
  refine ⟨?_, y4 v (List.mem_of_getElem? hv1), ?_, ?_⟩
  · unfold World.cell?
    simp only [y1]
    simp [List.getElem?_append_left hi', hv1]
  · exact fun x => x.2 ⟨id, _, hd, ho, rfl⟩
  · intro e he'
    have : h.DO G d (G.ι id) := ⟨id, _, hd, ho, rfl⟩
    simp [Ghost.frz, this] at he'
mutual
def unT (h : H) (d : Nat → Bool) : AV → AV
  | .tsl sz id off len c => if sz = 1 ∧ d id = true then (match h.objs id with
    | some (.cells cs) => if off + len ≤ cs.length then .sl 1 ((cs.drop off).take len) .any else .any
    | _ => .any) else .tsl sz id off len c
  | .ptr id off => if d id = true then (match h.objs id with
    | some (.cells cs) => .ref (cs.drop off)
    | _ => .any) else .ptr id off
  | .agg xs => .agg (unTs h d xs)
  | .tup xs => .tup (unTs h d xs)
  | .clo fn a b => .clo fn (unTs h d a) (unTs h d b)
  | x => x
def unTs (h : H) (d : Nat → Bool) : List AV → List AV
  | [] => []
  | x :: xs => unT h d x :: unTs h d xs
end
mutual
theorem unT_rel (R : RepH G h w) (d : Nat → Bool) : ∀ (x : AV) (v : Value), VRel G w x v → VRel (G.frz h d) w (unT h d x) v
  | .tsl sz id off len c, v, r => by
    unfold unT
    split
    · rename_i hs
      obtain ⟨rfl, hd⟩ := hs
      split
      · rename_i cs ho
        split
        · rename_i hl
          exact frz_tsl R ho hd hl r
        · simp [VRel]
      · simp [VRel]
    · exact VRel.mono R (frz_trans d) _ _ r
  | .agg xs, v, r => by
    simp only [unT, VRel] at r ⊢
    obtain ⟨vs, e, r⟩ := r
    exact ⟨vs, e, unTs_rel R d xs vs r⟩
  | .tup xs, v, r => by
    simp only [unT, VRel] at r ⊢
    obtain ⟨vs, e, r⟩ := r
    exact ⟨vs, e, unTs_rel R d xs vs r⟩
  | .any, v, r => by simp [unT, VRel]
  | .int k n, v, r => by unfold unT; exact VRel.mono R (frz_trans d) _ _ r
  | .bool b, v, r => by unfold unT; exact VRel.mono R (frz_trans d) _ _ r
  | .str l, v, r => by unfold unT; exact VRel.mono R (frz_trans d) _ _ r
  | .sc x, v, r => by unfold unT; exact VRel.mono R (frz_trans d) _ _ r
  | .sl sz xs c, v, r => by unfold unT; exact VRel.mono R (frz_trans d) _ _ r
  | .ref cs, v, r => by unfold unT; exact VRel.mono R (frz_trans d) _ _ r
  | .ptr id off, v, r => by
    unfold unT
    split
    · rename_i hd
      split
      · rename_i cs ho
        exact frz_ptr R ho hd r
      · simp [VRel]
    · exact VRel.mono R (frz_trans d) _ _ r
  | .clo fn a b, v, r => by
    simp only [unT, VRel] at r ⊢
    obtain ⟨vs, us, e, r1, r2⟩ := r
    exact ⟨vs, us, e, unTs_rel R d a vs r1, unTs_rel R d b us r2⟩
  | .ifc t x, v, r => by unfold unT; exact VRel.mono R (frz_trans d) _ _ r
  | .mp id, v, r => by unfold unT; exact VRel.mono R (frz_trans d) _ _ r
  | .yld id, v, r => by unfold unT; exact VRel.mono R (frz_trans d) _ _ r
  | .slt sz xs ys, v, r => by unfold unT; exact VRel.mono R (frz_trans d) _ _ r
  | .sup B, v, r => by unfold unT; exact VRel.mono R (frz_trans d) _ _ r
  | .supb B, v, r => by unfold unT; exact VRel.mono R (frz_trans d) _ _ r
  | .wint k, v, r => by unfold unT; exact VRel.mono R (frz_trans d) _ _ r
  | .one, v, r => by unfold unT; exact VRel.mono R (frz_trans d) _ _ r
theorem unTs_rel (R : RepH G h w) (d : Nat → Bool) : ∀ (xs : List AV) (vs : List Value), VRels G w xs vs → VRels (G.frz h d) w (unTs h d xs) vs
  | [], vs, r => by simpa [unTs, VRels] using r
  | x :: xs, vs, r => by
    simp only [unTs, VRels] at r ⊢
    obtain ⟨v, us, e, r1, r2⟩ := r
    exact ⟨v, us, e, unT_rel R d x v r1, unTs_rel R d xs us r2⟩
end
theorem frz_le (t : Tm) (h : H) (d : Nat → Bool) : StLe ⟨t, h⟩ ⟨fun i => unT h d (t i), h.drop d⟩ where
  n := Nat.le_refl _
  m := Nat.le_refl _
  go := fun N G w a r _ => ⟨G.frz h d, frz_trans d, ⟨r.size, fun i => unT_rel r.h d _ _ (r.t i), frz_rep r.h d, r.df.mono (frz_trans d)⟩⟩
theorem ACalls.frz {f : FuncId} {args : List AV} {h h' : H} {r : AV} (hc : ACalls P f args h r h') (d : Nat → Bool) : ACalls P f args h (unT h' d r) (h'.drop d) := by
  intro G w vs hv R F
  refine (hc G w vs hv R F).mono ?_
  rintro e w' ⟨v, G', rfl, T, R', V⟩
  exact ⟨v, G'.frz h' d, rfl, T.trans R R' (frz_trans d), frz_rep R' d, unT_rel R' d _ _ V⟩
theorem FnIs.pcallsF {f : FuncId} {N : Nat} {ac : AC} {args : List AV} {ds : List RV} {r : AV} (hF : FnIs P f N ac ds) (hl : args.length ≤ N) (ha : allPure args = true) (hp : isPure r = true) (hw : Wp P N ac ⟨initT args, H0 0 0⟩ fun e s' => isEnd e ∧ ∃ q, resOf ds s'.t s'.h = some q ∧ VSub (unT s'.h (fun _ => true) q) r) : PCalls P f args r := by
  obtain ⟨r', h', hcall, hs⟩ := hF.acalls (Q := fun r' h' => VSub (unT h' (fun _ => true) r') r) hl hw
  exact (hcall.frz _).pure0 (allPure_ok _ ha) hs (isPure_ok _ hp)
end
end Go.Av
end
section
set_option linter.unusedVariables false
set_option linter.unusedSimpArgs false
namespace Go.Av
section
variable {P : Program} {N : Nat} {o : Oper} {t : Tm} {h : H} {en : Ent}
theorem shaped_or {x : AV} (h : shaped x = true) : isCell x = true ∨ ∃ cs, x = .agg cs := by
  unfold shaped at h
  simp only [Bool.or_eq_true] at h
  rcases h with h | h
  · exact .inl h
  · cases x <;> simp at h
    exact .inr ⟨_, rfl⟩
theorem rels_of_elems {G : Ghost} {w : World} {sz : Nat} : ∀ {els : List AV} {vs : List Value}, VElems G w sz els vs → els.all shaped = true → VRels G w (els.flatMap cellsOf) vs
  | [], vs, h, _ => by simpa [VElems, VRels] using h
  | x :: els, vs, h, ha => by
    simp only [VElems] at h
    obtain ⟨v, us, rfl, h1, h2, h3⟩ := h
    simp only [List.all_cons, Bool.and_eq_true] at ha
    rw [List.flatMap_cons]
    exact (cells_of h2 (shaped_or ha.1)).append (rels_of_elems h3 ha.2)
theorem appT_loc {c : Call} {zs zx : Operand} {ys yx : Opd} {T U e : TypeId} {d : TypeDesc} {i : TypeInfo} {s : Nat} {els : List AV} (hop : o.op = .call c) (hc : c.callee = .builtin .append) (ha : c.args.toList = [zs, zx]) (hta : c.argTypes.toList = [T, U])
    (hT : P.underlying T = some (.slice e)) (hU : P.underlying U = some d) (hd : (∃ e', d = .slice e') ∨ d = .string) (hi : P.info? e = some i) (hz : i.zero.any (fun z => z.cells.size == i.size) = true) (hsz : 0 < i.size)
    (hys : opd P T zs = some ys) (hyx : opd P U zx = some yx) (hs : ev t ys = .sl s [] (.exact 0)) (hx : ∃ s' c', ev t yx = .sl s' els c' ∧ s' = i.size) (hsh : els.all shaped = true) (hne : 0 < els.length)
    (hb : els.length * i.bytes ≤ 140737488355328) (hlen : els.length < 4611686018427387904) :
    Loc P o t h (.tsl i.size h.n 0 els.length none) { h with objs := upd h.objs h.n (some (.cells (els.flatMap cellsOf))), n := h.n + 1 } ⟨[], [h.n], []⟩ := by
  have ha' : c.args = #[zs, zx] := by rw [← Array.toArray_toList (xs := c.args), ha]
  have hta' : c.argTypes = #[T, U] := by rw [← Array.toArray_toList (xs := c.argTypes), hta]
  obtain ⟨z, hz1, hz2⟩ : ∃ z, i.zero = some z ∧ z.cells.size = i.size := by
    cases hzz : i.zero with
    | none => rw [hzz] at hz; simp at hz
    | some z => rw [hzz] at hz; exact ⟨z, rfl, by simpa using hz⟩
  refine ⟨_, _, touch_new h _, fun G w a ht R F => ?_⟩
  have r1 := opd_rel hys ht
  have r2 := opd_rel hyx ht
  rw [hs] at r1
  obtain ⟨s', c', hx, hs'⟩ := hx
  rw [hx] at r2
  obtain ⟨news, n1, n2, n3⟩ := src_slice (P := P) (.inl hs') r2
  have hbase : ∃ a0, a.eval zs = .slice a0 0 0 := by
    simp only [VRel, CapOk] at r1
    rcases r1 with ⟨-, h, -⟩ | ⟨B, off, C, vs, q1, -, -, -, -, q6⟩
    · exact h
    · subst q6; exact ⟨_, by simpa using q1⟩
  obtain ⟨a0, ha0⟩ := hbase
  obtain ⟨w', C, rest, e1, e2, e3, e4⟩ := run_append_grows (ty := o.type) hT hU hd hi hz1 hz2 hsz n1 (src_none a0) (by omega) (Nat.le_refl _) (by simpa using hb) (by simpa using hlen)
  rw [List.nil_append] at e2
  simp only [Nat.zero_add] at e1 e3 e4
  have hnl := n2.length
  obtain ⟨G', T1, R1, V⟩ := new_tsl (m := h.m) (sz := i.size) e2 (rels_of_elems n2 hsh) n3 (fresh_n F (by simp [H.only])) e3 (by omega)
  refine ⟨.value _, _, w', G', ?_, .inl rfl, T1, R1, V⟩
  simp [execOp, hop, resolve, hc, ha', hta', invoke, builtin, ha0, e1]
theorem buildSlT_loc {ty e : TypeId} {len : Nat} {parts : Array (Nat × Operand)} {ys : List Opd} {z : Value} (hop : o.op = .buildSlice ty len parts) (hu : P.underlying ty = some (.slice e)) (hi : (P.info? e).isSome = true) (hn : parts.size = len) (hpos : 0 < P.cellsOf e)
    (hz : (P.info? e).bind (·.zero) = some z) (hzs : z.cells.size = P.cellsOf e)
    (hys : elemsOf P e 0 parts.toList = some ys) (hs : ∀ y ∈ ys, (cellsOf (ev t y)).length = P.cellsOf e ∧ shaped (ev t y) = true) (hle : ys.length * P.cellsOf e ≤ 16777216) :
    Loc P o t h (.tsl (P.cellsOf e) h.n 0 ys.length none) { h with objs := upd h.objs h.n (some (.cells ((ys.map (ev t)).flatMap cellsOf))), n := h.n + 1 } ⟨[], [h.n], []⟩ := by
  refine ⟨_, _, touch_new h _, fun G w a ht R F => ?_⟩
  obtain ⟨r1, r2, r3⟩ := opdVals_rel ht hys
  simp only [Array.length_toList, hn] at r2 r3
  have hsz : ∀ v ∈ parts.toList.map (fun p => a.eval p.2), v.cells.size = P.cellsOf e ∧ ∀ u ∈ v.cells.toList, One u := by
    intro v hv
    obtain ⟨k, hk⟩ := List.getElem?_of_mem hv
    have hlt : k < (parts.toList.map (fun p => a.eval p.2)).length := by
      rcases Nat.lt_or_ge k (parts.toList.map (fun p => a.eval p.2)).length with h | h
      · exact h
      · rw [List.getElem?_eq_none h] at hk; cases hk
    have hlt' : k < ys.length := by simp at hlt; omega
    obtain ⟨u, hu1, hu2⟩ := r1.get (i := k) (x := ev t ys[k]) (by simp [List.getElem?_eq_getElem hlt'])
    have e : u = v := Option.some.inj (hu1.symm.trans hk)
    subst e
    obtain ⟨s1, s2⟩ := hs ys[k] (List.getElem_mem hlt')
    obtain ⟨c1, c2⟩ := shaped_cells hu2 s2
    have := c1.length
    exact ⟨by simpa [s1] using this, cells_one c1 c2⟩
  generalize hV : parts.toList.map (fun p => a.eval p.2) = vals at *
  have hvl : vals.length = len := by rw [← hV]; simp [hn]
  have he := elems_of_rels r1 fun v hv => (hsz v hv).1
  have hfl : (vals.flatMap (·.cells.toList)).length = len * P.cellsOf e := by
    have := he.length; rw [this]; simp [r3]
  have hfill : ∀ cells : Array Value, cells.size = len * P.cellsOf e → Instr.fill (fun i => some (i * P.cellsOf e, P.cellsOf e)) cells ((parts.map fun (i, x) => (i, a.eval x)).toList) = some (vals.flatMap (·.cells.toList)).toArray := by
    intro cells hc
    have hz : (parts.map fun (i, x) => (i, a.eval x)).toList = (List.range' 0 vals.length).zip vals := by
      have : ∀ l : List (Nat × Operand), l.map (fun (i, x) => (i, a.eval x)) = (l.map (·.1)).zip (l.map fun p => a.eval p.2) := by
        intro l; induction l with
        | nil => rfl
        | cons p l ih => simp [ih]
      rw [Array.toList_map, this, r2, hV, hvl]
    rw [hz]
    have := fill_elems (sz := P.cellsOf e) (cells := cells) vals 0 [] cells (by simp) (by simp) (by rw [hc, hvl]; simp) (fun v hv => (hsz v hv).1)
    simpa using this
  have hle' : ¬ (len * P.cellsOf e > 16777216) := by rw [← r3]; omega
  obtain ⟨G', T1, R1, V⟩ := new_tsl (m := h.m) (sz := P.cellsOf e) (len := len) (C := len) (rest := []) (vs := vals.flatMap fun v : Value => v.cells.toList) (pushed_alloc w (.cells ((vals.flatMap fun v : Value => v.cells.toList) ++ []).toArray e (0, 0))) (rels_of_elems he (by
    rw [List.all_map]
    exact List.all_eq_true.2 fun y hy => (hs y hy).2)) (by
    intro u hu
    obtain ⟨v, hv, hu'⟩ := List.mem_flatMap.1 hu
    exact (hsz v hv).2 u hu') (fresh_n F (by simp [H.only])) ⟨Nat.le_refl _, by
    have := Nat.le_mul_of_pos_right len hpos
    omega⟩ (by rw [hfl]; simp)
  rw [List.append_nil] at T1 R1 V
  refine ⟨.value (.slice (some ⟨w.heap.size, 0, none⟩) len len), _, _, G', ?_, .inl rfl, T1, R1, by rw [r3]; exact V⟩
  obtain ⟨i, hi1, hi2⟩ := Option.bind_eq_some_iff.1 hz
  have hle2 : ¬ (16777216 < len * P.cellsOf e) := by omega
  have hmap : ∀ (zc : Array Value), ((Array.range (len * P.cellsOf e)).map (zc[· % zc.size]!)).size = len * P.cellsOf e := by intro zc; simp
  have hrz : (zeroValue e).run P w = .ok z w := by simp [zeroValue, typeInfo, hi1, hi2]
  simp only [execOp, hop, Sem.run_bind, Instr.buildSlice, run_underlying hu, Result.andThen_ok, run_size P w e hi, if_neg hle2, Sem.run_pure, Sem.run_ite, hrz, hfill _ (hmap _)]
  by_cases h0 : len * P.cellsOf e = 0
  · rw [if_pos h0]; simp [newRow]
  · rw [if_neg h0]; simp [newRow]
theorem app0_loc {c : Call} {zs zx : Operand} {ys yx : Opd} {T U e : TypeId} {d : TypeDesc} {i : TypeInfo} {s s' : Nat} {xs : List AV} {cp c' : Cap} (hop : o.op = .call c) (hc : c.callee = .builtin .append) (ha : c.args.toList = [zs, zx]) (hta : c.argTypes.toList = [T, U])
    (hT : P.underlying T = some (.slice e)) (hU : P.underlying U = some d) (hd : (∃ e', d = .slice e') ∨ d = .string) (hi : P.info? e = some i)
    (hys : opd P T zs = some ys) (hyx : opd P U zx = some yx) (hs : ev t ys = .sl s xs cp) (hx : ev t yx = .sl s' [] c') : Loc P o t h (.sl s xs cp) h ent0 := by
  have ha' : c.args = #[zs, zx] := by rw [← Array.toArray_toList (xs := c.args), ha]
  have hta' : c.argTypes = #[T, U] := by rw [← Array.toArray_toList (xs := c.argTypes), hta]
  refine Loc.plain fun G w a ht => ?_
  have r1 := opd_rel hys ht
  have r2 := opd_rel hyx ht
  rw [hs] at r1
  rw [hx] at r2
  obtain ⟨news, n1, n2, -⟩ := src_slice (P := P) (sz := i.size) (.inr rfl) r2
  have hnn : news = [] := by simpa [VElems] using n2
  subst hnn
  obtain ⟨base, len, C, hv, hlC⟩ : ∃ base len C, a.eval zs = .slice base len C ∧ len ≤ C := by
    simp only [VRel] at r1
    rcases r1 with ⟨-, ⟨a0, h⟩, -⟩ | ⟨B, off, C, vs, q1, q2, -⟩
    · exact ⟨_, _, _, h, Nat.le_refl _⟩
    · exact ⟨_, _, _, q1, q2⟩
  have hrun := run_append_fits (ty := o.type) (base := base) (sLen := len) (sCap := C) (w' := w) hT hU hd hi n1 (by simpa using hlC) (by cases base <;> simp [storeCells])
  refine ⟨a.eval zs, ?_, r1⟩
  simp [execOp, hop, resolve, hc, ha', hta', invoke, builtin, hv] at hrun ⊢
  rw [hrun]
  rfl
def aopT (ρ : Opd → AV) (h : H) : AOp → Option (AV × H × Ent)
  | .app false sz bytes s x => match ρ s, ρ x with
    | .sl s xs c, .sl _ [] _ => some (.sl s xs c, h, ent0)
    | .sl _ [] (.exact 0), .sl s' els _ => if s' = sz ∧ els.all shaped = true ∧ 0 < els.length ∧ els.length * bytes ≤ 140737488355328 ∧ els.length < 4611686018427387904 then
        some (.tsl sz h.n 0 els.length none, { h with objs := upd h.objs h.n (some (.cells (els.flatMap cellsOf))), n := h.n + 1 }, ⟨[], [h.n], []⟩) else none
    | _, _ => none
  | .buildSl sz parts => if parts.all (fun x => (cellsOf (ρ x)).length = sz ∧ shaped (ρ x)) = true ∧ parts.length * sz ≤ 16777216 then
      some (.tsl sz h.n 0 parts.length none, { h with objs := upd h.objs h.n (some (.cells ((parts.map ρ).flatMap cellsOf))), n := h.n + 1 }, ⟨[], [h.n], []⟩) else none
  | _ => none
theorem cOp_app {sz bytes : Nat} {ys yx : Opd} (h : cOp P o = some (.app false sz bytes ys yx)) : ∃ c zs zx T U e e' i, o.op = .call c ∧ c.callee = .builtin .append ∧ c.args.toList = [zs, zx] ∧ c.argTypes.toList = [T, U] ∧
    opd P T zs = some ys ∧ opd P U zx = some yx ∧ P.underlying T = some (.slice e) ∧ P.underlying U = some (.slice e') ∧ P.info? e = some i ∧ 0 < i.size ∧ (i.zero.any fun z => z.cells.size == i.size) = true ∧ i.size = sz ∧ i.bytes = bytes := by
  unfold cOp at h
  split at h
  case h_28 c hop =>
    split at h
    case h_7 hcal =>
      split at h
      · rename_i zs zx T U ha hta
        split at h
        · split at h
          · split at h
            · rename_i hq
              cases h
              exact ⟨c, zs, zx, T, U, _, _, _, hop, hcal, ha, hta, ‹_›, ‹_›, ‹_›, ‹_›, ‹_›, hq.1, hq.2, rfl, rfl⟩
            · cases h
          · cases h
        · (repeat' split at h) <;> (try cases h) <;> simp at h
        · (repeat' split at h) <;> (try cases h) <;> simp at h
        · cases h
      · cases h
    all_goals first
      | (cases h; done)
      | ((repeat' split at h) <;> (try cases h) <;> simp at h)
  all_goals first
    | (cases h; done)
    | (simp at h; done)
    | ((repeat' split at h) <;> (try cases h) <;> (try simp at h) ; done)
    | skip
theorem cOp_buildSl {sz : Nat} {ys : List Opd} (h : cOp P o = some (.buildSl sz ys)) : ∃ ty e len parts z, o.op = .buildSlice ty len parts ∧ P.underlying ty = some (.slice e) ∧ (P.info? e).isSome = true ∧ parts.size = len ∧ 0 < P.cellsOf e ∧ (P.info? e).bind (·.zero) = some z ∧ z.cells.size = P.cellsOf e ∧
    elemsOf P e 0 parts.toList = some ys ∧ sz = P.cellsOf e := by
  unfold cOp at h
  split at h
  case h_7 ty len parts hop =>
    split at h
    · split at h
      · rename_i hq
        simp only [Option.map_eq_some_iff] at h
        obtain ⟨l, h1, h2⟩ := h
        cases h2
        obtain ⟨q1, q2, q3, q4⟩ := hq
        cases hz : (P.info? _).bind (·.zero) with
        | none => rw [hz] at q4; simp at q4
        | some z => rw [hz] at q4; exact ⟨ty, _, len, parts, z, hop, ‹_›, q2, q1, q3, hz, by simpa using q4, h1, rfl⟩
      · cases h
    · cases h
  all_goals first
    | (cases h; done)
    | (simp at h; done)
    | ((repeat' split at h) <;> (try cases h) <;> (try simp at h) ; done)
    | skip
theorem aopT_loc {op : AOp} {x : AV} {h' : H} (hc : cOp P o = some op) (hx : aopT (ev t) h op = some (x, h', en)) : Loc P o t h x h' en := by
  cases op <;> (try (simp [aopT] at hx; done))
  case app str sz bytes s x0 =>
    cases str <;> (try (simp [aopT] at hx; done))
    obtain ⟨c, zs, zx, T, U, e, e', i, hop, hcal, ha, hta, hys, hyx, hT, hU, hi, hs1, hs2, rfl, rfl⟩ := cOp_app hc
    simp only [aopT] at hx
    split at hx
    · cases hx
      exact app0_loc hop hcal ha hta hT hU (.inl ⟨_, rfl⟩) hi hys hyx ‹_› ‹_›
    · split at hx
      · rename_i hq
        cases hx
        exact appT_loc hop hcal ha hta hT hU (.inl ⟨_, rfl⟩) hi hs2 hs1 hys hyx ‹_› ⟨_, _, ‹_›, hq.1⟩ hq.2.1 hq.2.2.1 hq.2.2.2.1 hq.2.2.2.2
      · cases hx
    · cases hx
  case buildSl sz parts =>
    obtain ⟨ty, e, len, ps, z, hop, hu, hi, hn, hpos, hz, hzs, hys, rfl⟩ := cOp_buildSl hc
    simp only [aopT] at hx
    split at hx
    · rename_i hq
      cases hx
      exact buildSlT_loc hop hu hi hn hpos hz hzs hys (fun y hy => by simpa using List.all_eq_true.1 hq.1 y hy) hq.2
    · cases hx
theorem aopT_congr {ρ ρ' : Opd → AV} {op : AOp} (hx : ∀ y ∈ opdsOf op, ρ y = ρ' y) : aopT ρ h op = aopT ρ' h op := by
  cases op <;> (try rfl)
  case app str sz bytes s x0 =>
    cases str
    · simp only [aopT, hx s (by simp [opdsOf]), hx x0 (by simp [opdsOf])]
    · rfl
  case buildSl sz parts =>
    have e1 : parts.map ρ = parts.map ρ' := List.map_congr_left fun y hy => hx y (by simpa [opdsOf] using hy)
    have e2 : parts.all (fun x => (cellsOf (ρ x)).length = sz ∧ shaped (ρ x)) = parts.all (fun x => (cellsOf (ρ' x)).length = sz ∧ shaped (ρ' x)) := by
      refine Bool.eq_iff_iff.2 ?_
      simp only [List.all_eq_true]
      exact ⟨fun h y hy => by rw [← hx y (by simpa [opdsOf] using hy)]; exact h y hy, fun h y hy => by rw [hx y (by simpa [opdsOf] using hy)]; exact h y hy⟩
    simp only [aopT, e1, e2]
theorem itrun_opT {ops : Array Oper} {i : Nat} {o : Oper} {it : AItem} {t : Tm} {h h' : H} {x : AV} {en : Ent} (ho : ops[i]? = some o) (hit : cItem P N ops o = some it) (hg : guardOf t it.guard = some true) (hx : aopT (ev t) h it.op = some (x, h', en)) :
    ∃ h1 h1', Touch h h1 h1' h' en ∧ ItRun P ops i o t h1 x h1' := by
  unfold cItem at hit
  split at hit
  · rename_i op g hop hgd
    split at hit <;> cases hit
    rename_i hcond
    simp only [Bool.and_eq_true] at hcond
    have hop := cOpD_of hop (by rintro rfl; simp [aopT] at hx) (by cases op <;> first | rfl | (simp [aopT] at hx))
    have hx' : aopT (ev (cutTo (names ops o) t)) h op = some (x, h', en) := by
      rw [aopT_congr (cut_ev hcond.2)]; exact hx
    obtain ⟨h1, h1', tc, loc⟩ := aopT_loc hop hx'
    refine ⟨h1, h1', tc, fun G w a ht R F K Q hK ro => ?_⟩
    obtain ⟨nx, v, w', G', e1, e2, T1, R1, V⟩ := loc G w a (cut_rel ht) R F
    unfold wpOpIn
    rw [ho]
    simp only [guard_wanted hgd ht hg, if_true]
    refine ⟨fun _ _ => trivial, ?_⟩
    rw [Oper.semAt_eq _ _ _ (cOp_plain hop), e1]
    rcases e2 with rfl | ⟨rfl, rfl⟩
    · rw [Oper.uponIn_value]; exact hK G' w' v T1 R1 V
    · rw [Oper.uponIn_skip]; exact hK G' w' undef T1 R1 V
  · cases hit
theorem WpItems.opT {dst : Option Nat} {g : Option (Nat × Bool)} {op : AOp} {its : List AItem} {t : Tm} {h h' : H} {log : List Ent} {en : Ent} {K : Tm → H → List Ent → Prop} {x : AV} (hg : guardOf t g = some true) (hx : aopT (ev t) h op = some (x, h', en)) (ht : touchy op = true)
    (rest : WpItems P N its (putT t dst x) h' (en :: log) K) : WpItems P N (⟨dst, g, op⟩ :: its) t h log K := by
  intro ops i hi hc
  obtain ⟨o, ho, hit, hi', hc'⟩ := items_cons hi hc
  obtain ⟨h1, h1', tc, run⟩ := itrun_opT ho hit hg hx
  obtain ⟨recs, t', hh', ch, hk, hen⟩ := rest ops (i + 1) hi' hc'
  have hdst : dst = o.dst := by
    unfold cItem at hit
    split at hit
    · split at hit <;> cases hit; rfl
    · cases hit
  refine ⟨⟨t, h, h1, h1', h', x, en⟩ :: recs, t', hh', .cons ho rfl rfl tc (fun _ => run) (by rw [← hdst]; exact ch), by simpa using hk, ?_⟩
  intro k r it' hr hit' ht'
  cases k with
  | zero =>
    simp at hr hit'; subst hr hit'
    rw [ht] at ht'; cases ht'
  | succ k => simp at hr hit'; exact hen k r it' hr hit' ht'
theorem cloneT_gen {f : FuncId} {sz bytes : Nat} (hF : FnIs P f 8 (cloneC sz bytes) [.tmp 2]) (x : AV) (xs : List AV) (hsh : (x :: xs).all shaped = true) (hb : (xs.length + 1) * bytes ≤ 140737488355328) (hl : xs.length + 1 < 4611686018427387904) (n m : Nat) :
    ACalls P f [.sl sz (x :: xs) .any] (H0 n m) (.tsl sz n 0 (xs.length + 1) none) (.only (upd none' n (some (.cells ((x :: xs).flatMap cellsOf)))) [] (n + 1) m) := by
  obtain ⟨r, h', hc, rfl, rfl⟩ := hF.acalls (args := [.sl sz (x :: xs) .any]) (h := H0 n m) (Q := fun r h' => r = .tsl sz n 0 (xs.length + 1) none ∧ h' = .only (upd none' n (some (.cells ((x :: xs).flatMap cellsOf)))) [] (n + 1) m) (by simp) (by
    unfold cloneC
    refine Wp.seqReg (by simp only [go_sem, reduceIte, Nat.reduceEqDiff, Nat.reduceAdd, bx]; exact rfl) (by trivial) ?_
    refine Wp.seq ?_
    refine Wp.seqReg (by simp only [go_sem, reduceIte, Nat.reduceEqDiff, Nat.reduceAdd, bx]; exact rfl) (by trivial) ?_
    refine Wp.cond_false (by simp only [go_sem, reduceIte, Nat.reduceEqDiff, Nat.reduceAdd, bx]) ?_
    refine Wp.skip ?_
    refine Wp.seq (Wp.reg ?_)
    refine WpItems.part 2 (by simp only [go_sem, reduceIte, Nat.reduceEqDiff, Nat.reduceAdd, bx, Nat.zero_mul, Nat.zero_le, and_self, if_true]; exact rfl) ?_
    simp only [List.drop_succ_cons, List.drop_zero, List.drop_nil]
    refine WpItems.opT (by simp only [go_sem, reduceIte, Nat.reduceEqDiff, Nat.reduceAdd, bx]) (by simp only [aopT, go_sem, reduceIte, Nat.reduceEqDiff, Nat.reduceAdd, bx, hsh, hb, hl, List.length_cons, and_self, if_true, Nat.zero_lt_succ]; exact rfl) rfl ?_
    refine WpItems.eval (by simp only [go_sem, reduceIte, Nat.reduceEqDiff, Nat.reduceAdd, bx]; exact rfl) ?_
    refine WpItems.nil ⟨by trivial, ?_⟩
    refine Wp.ret ⟨trivial, _, rfl, rfl, ?_⟩
    rfl)
  exact hc
theorem touch_drop (h : H) {id : Nat} {ob : Obj} (ho : h.objs id = some ob) : Touch h (.only (upd none' id (some ob)) [] h.n h.m) (H0 h.n h.m) { h with objs := fun j => if j = id then none else h.objs j } ⟨[], [id], []⟩ where
  sub := (touch_read h ho).sub
  n := rfl
  m := rfl
  eq := H.ext (fun j => by
    simp only [H.patch, H0, H.only, upd, none']
    by_cases e : j = id
    · subst e; simp
    · simp [e]; omega) rfl (by simp [H.patch, H0, H.only, filter_tt]) rfl
  rd j x := by
    simp only [H.only, upd, none'] at x
    split at x
    · rename_i e; subst e; simp
    · cases x
  wr id a b := by simp only [H0, H.only] at a b; omega
  chg j x hj := by
    simp only [H.only, upd, none'] at x
    split at x
    · rename_i e; subst e; simp at hj
    · cases x
  tk t x := by simp [H.only] at x
  tn t x := by simp [H0, H.only] at x
  le := Nat.le_refl _
  lem := Nat.le_refl _
theorem cloneE_gen {f : FuncId} {sz bytes : Nat} (hF : FnIs P f 8 (cloneC sz bytes) [.tmp 2]) : PCalls P f [.sl sz [] .any] (.sl sz [] (.exact 0)) := by
  intro n m
  refine ACalls.split_empty fun a C hC => ?_
  have : PCalls P f [.sc (.slice a 0 C)] (.sl sz [] (.exact 0)) := by
    refine hF.pcalls (by simp) (allPure_ok _ rfl) (isPure_ok _ rfl) fun n m => ?_
    unfold cloneC
    refine Wp.seqReg (by simp only [go_sem, reduceIte, Nat.reduceEqDiff, Nat.reduceAdd, bx]; exact rfl) (by trivial) ?_
    refine Wp.seq ?_
    refine Wp.seqReg (by simp only [go_sem, reduceIte, Nat.reduceEqDiff, Nat.reduceAdd, bx]; exact rfl) (by trivial) ?_
    cases ha : a.isNone with
    | true =>
      refine Wp.cond_true (by simp only [go_sem, reduceIte, Nat.reduceEqDiff, Nat.reduceAdd, bx, ha]) ?_
      refine Wp.seqReg (by simp only [go_sem, reduceIte, Nat.reduceEqDiff, Nat.reduceAdd, bx]; exact rfl) (by trivial) ?_
      refine Wp.ret ⟨trivial, _, rfl, ?_⟩
      simp only [go_sem, reduceIte, Nat.reduceEqDiff, Nat.reduceAdd, bx]
      exact VSub.refl _
    | false =>
      refine Wp.cond_false (by simp only [go_sem, reduceIte, Nat.reduceEqDiff, Nat.reduceAdd, bx, ha]) ?_
      refine Wp.skip ?_
      refine Wp.le (s' := ⟨tm [(0, .sl sz [] .any)], _⟩) (StLe.tm ⟨VSub.sc_empty hC, trivial⟩) ?_
      refine Wp.seq (Wp.reg ?_)
      refine WpItems.part 2 (by simp only [go_sem, reduceIte, Nat.reduceEqDiff, Nat.reduceAdd, bx, Nat.zero_mul, Nat.zero_le, and_self, if_true]; exact rfl) ?_
      simp only [List.drop_succ_cons, List.drop_zero, List.drop_nil]
      refine WpItems.opT (by simp only [go_sem, reduceIte, Nat.reduceEqDiff, Nat.reduceAdd, bx]) (by simp only [aopT, go_sem, reduceIte, Nat.reduceEqDiff, Nat.reduceAdd, bx]; exact rfl) rfl ?_
      refine WpItems.eval (by simp only [go_sem, reduceIte, Nat.reduceEqDiff, Nat.reduceAdd, bx]; exact rfl) ?_
      refine WpItems.nil ⟨by trivial, ?_⟩
      refine Wp.ret ⟨trivial, _, rfl, ?_⟩
      simp only [go_sem, reduceIte, Nat.reduceEqDiff, Nat.reduceAdd, bx]
      exact VSub.refl _
  exact this n m
def WpItemsN (P : Program) (N : Nat) (items : List AItem) (t : Tm) (h : H) (K : Tm → H → Prop) : Prop :=
  ∀ ops i, i ≤ ops.size → cItems P N ops (ops.toList.drop i) = some items → ∃ recs t' h', Chain P ops i recs t h t' h' ∧ K t' h'
theorem WpItems.toN {items : List AItem} {t : Tm} {h : H} {log : List Ent} {K : Tm → H → Prop} (hw : WpItems P N items t h log fun t h _ => K t h) : WpItemsN P N items t h K := by
  intro ops i hi hc
  obtain ⟨recs, t', h', ch, hk, -⟩ := hw ops i hi hc
  exact ⟨recs, t', h', ch, hk⟩
theorem WpItemsN.step {it : AItem} {its : List AItem} {t : Tm} {h h' : H} {x : AV} {en : Ent} {K : Tm → H → Prop}
    (run : ∀ (ops : Array Oper) i o, ops[i]? = some o → cItem P N ops o = some it → ∃ h1 h1', Touch h h1 h1' h' en ∧ ItRun P ops i o t h1 x h1') (rest : WpItemsN P N its (putT t it.dst x) h' K) : WpItemsN P N (it :: its) t h K := by
  intro ops i hi hc
  obtain ⟨o, ho, hit, hi', hc'⟩ := items_cons hi hc
  obtain ⟨h1, h1', tc, run⟩ := run ops i o ho hit
  obtain ⟨recs, t', hh', ch, hk⟩ := rest ops (i + 1) hi' hc'
  have hdst : it.dst = o.dst := by
    unfold cItem at hit
    split at hit
    · split at hit <;> cases hit; rfl
    · cases hit
  exact ⟨⟨t, h, h1, h1', h', x, en⟩ :: recs, t', hh', .cons ho rfl rfl tc (fun _ => run) (by rw [← hdst]; exact ch), hk⟩
theorem WpItemsN.op {dst : Option Nat} {g : Option (Nat × Bool)} {op : AOp} {its : List AItem} {t : Tm} {h h' : H} {en : Ent} {K : Tm → H → Prop} {x : AV} (hg : guardOf t g = some true) (hx : aop (ev t) h op = some (x, h', en))
    (rest : WpItemsN P N its (putT t dst x) h' K) : WpItemsN P N (⟨dst, g, op⟩ :: its) t h K :=
  WpItemsN.step (fun ops i o ho hit => itrun_op ho hit hg hx) rest
theorem WpItemsN.opT {dst : Option Nat} {g : Option (Nat × Bool)} {op : AOp} {its : List AItem} {t : Tm} {h h' : H} {en : Ent} {K : Tm → H → Prop} {x : AV} (hg : guardOf t g = some true) (hx : aopT (ev t) h op = some (x, h', en))
    (rest : WpItemsN P N its (putT t dst x) h' K) : WpItemsN P N (⟨dst, g, op⟩ :: its) t h K :=
  WpItemsN.step (fun ops i o ho hit => itrun_opT ho hit hg hx) rest
theorem WpItemsN.acall {dst : Option Nat} {g : Option (Nat × Bool)} {f : FuncId} {l : List Opd} {its : List AItem} {t : Tm} {h h' h1 h1' : H} {en : Ent} {K : Tm → H → Prop} {vals : List AV} {r : AV} (hg : guardOf t g = some true) (hs : VSubs (l.map (ev t)) vals) (hc : ACalls P f vals h1 r h1')
    (tc : Touch h h1 h1' h' en) (rest : WpItemsN P N its (putT t dst r) h' K) : WpItemsN P N (⟨dst, g, .call f l⟩ :: its) t h K :=
  WpItemsN.step (fun ops i o ho hit => ⟨h1, h1', tc, itrun_call ho hit hg rfl hs hc⟩) rest
theorem WpItemsN.pcall {dst : Option Nat} {g : Option (Nat × Bool)} {f : FuncId} {l : List Opd} {its : List AItem} {t : Tm} {h : H} {K : Tm → H → Prop} {vals : List AV} {r : AV} (hg : guardOf t g = some true) (hs : VSubs (l.map (ev t)) vals) (hc : PCalls P f vals r)
    (rest : WpItemsN P N its (putT t dst r) h K) : WpItemsN P N (⟨dst, g, .call f l⟩ :: its) t h K :=
  WpItemsN.acall hg hs (hc h.n h.m) (touch_none h) rest
theorem Wp.regN {items : List AItem} {s : St} {Q : AExit → St → Prop} (h : WpItemsN P N items s.t s.h fun t' h' => Q .normal ⟨t', h'⟩) : Wp P N (.reg items none) s Q := by
  intro code hc
  obtain ⟨id, ops, draw, rfl, hi, hd⟩ := code_reg hc
  obtain ⟨recs, t', h', ch, hq⟩ := h ops 0 (Nat.zero_le _) (by simpa using hi)
  obtain ⟨nm, -, -⟩ := chain_nm ch
  obtain ⟨cl, ci⟩ := cItems_len hi
  have hN : ∀ (i : Nat) o d, ops[i]? = some o → o.dst = some d → d < N := by
    intro i o d ho hdd
    have hlt : i < ops.size := (Array.getElem?_eq_some_iff.1 ho).1
    have hit : i < items.length := by rw [cl]; simpa using hlt
    have := ci i o items[i] (by simpa using ho) (List.getElem?_eq_getElem hit)
    generalize items[i] = it at this
    unfold cItem at this
    split at this
    · split at this <;> cases this
      rename_i hcond
      simp only [Bool.and_eq_true] at hcond
      have := hcond.1
      rw [hdd] at this
      simpa using this
    · cases this
  refine ⟨.normal, ⟨t', h'⟩, ⟨nm, fun ro okc G w a r F => ?_⟩, hq⟩
  rcases hd with ⟨rfl, -⟩ | ⟨-, -, -, hn⟩
  · refine wpIn_region ?_
    rw [List.range_eq_range']
    have := chain_seq ro (Q := fun e' a' w' => AExit.normal.says e' ∧ NewM w a.defers a'.defers ∧ ∃ G', Trans G w s.h G' w' h' ∧ Rel N ⟨t', h'⟩ G' w' a') hN ch G w a r.size r.t r.h F
      (fun G' w' a' T1 t1 R1 s1 d1 => ⟨trivial, by rw [d1]; exact .refl, G', T1, ⟨s1, t1, R1, by rw [d1]; exact r.df.mono T1⟩⟩)
    simpa using this
  · cases hn
end
end Go.Av
end
section
set_option linter.unusedVariables false
set_option linter.unusedSimpArgs false
namespace Go.Av
variable {P : Program} {N : Nat} {s : St} {Q : AExit → St → Prop}
def AExit.noGoto (Q : AExit → St → Prop) : AExit → St → Prop
  | .goto _, _ => False
  | e, s => Q e s
theorem Wp.straight {c : AC} (h : Wp P N c s (AExit.noGoto Q)) : Wp P N (.scope c) s Q := by
  refine Wp.scope (WpS.step (Wp.mono h ?_))
  intro e s' h
  cases e with
  | normal => exact h
  | exit id => exact h
  | goto l => exact h.elim
  | ret => exact h
  | panic v => exact h
theorem StLe.tmN {t : Tm} {f f' : Nat → Option Obj} {n n' m : Nat} {k : List Nat} {l : List (Nat × AV)} (hn : n ≤ n') (ho : OLe f f') (h : AllSub t l) : StLe ⟨t, ⟨f, n, k, m⟩⟩ ⟨Go.Av.tm l, ⟨f', n', k, m⟩⟩ :=
  StLe.trans (StLe.tm h) (StLe.of (fun i => VSub.refl _) ho (fun x hx => hx) hn (Nat.le_refl _))
theorem OLe.skip {f : Nat → Option Obj} {i : Nat} {o : Option Obj} (h : f i = Option.none) : OLe (Go.Av.upd f i o) f := by
  intro j p hp
  refine ⟨p, ?_, OSub.refl p⟩
  simp only [Go.Av.upd]
  split
  · rename_i e; subst e; rw [h] at hp; cases hp
  · exact hp
theorem OLe.at {g : Nat → Option Obj} {k : Nat} {A : Obj} (h : g k = some A) : OLe g (Go.Av.upd none' k (some A)) := by
  intro j p hp
  simp only [Go.Av.upd, none'] at hp
  split at hp
  · rename_i e; subst e; cases hp; exact ⟨_, h, OSub.refl _⟩
  · cases hp
theorem Wp.loopN {β : Type} (L : List Nat) {K : List (Nat × AV)} {c : AC} {h : H} {t : Tm} (hK : (L.map fun i => (i, t i)) = K) (ch : β → List (Nat × AV)) (I : β → Prop) (μ : β → Nat) (b0 : β) (h0 : I b0) (hs : AllSub t (ch b0))
    (round : ∀ b n, h.n ≤ n → I b → Wp P N c ⟨tm (K ++ ch b), { h with n := n }⟩ (AExit.andThen (fun s' => ∃ b' n', h.n ≤ n' ∧ I b' ∧ μ b' < μ b ∧ StLe s' ⟨tm (K ++ ch b'), { h with n := n' }⟩) Q)) : Wp P N (.loop c) ⟨t, h⟩ Q := by
  refine Wp.loopH (β := β × Nat) L hK (fun j => ch j.1) (fun j => { h with n := j.2 }) (fun j => h.n ≤ j.2 ∧ I j.1) (fun j => μ j.1) (b0, h.n) ⟨Nat.le_refl _, h0⟩ rfl hs ?_
  rintro ⟨b, n⟩ ⟨hn, hb⟩
  refine Wp.mono (round b n hn hb) ?_
  intro e s' h
  cases e with
  | normal => obtain ⟨b', n', h1, h2, h3, h4⟩ := h; exact ⟨(b', n'), ⟨h1, h2⟩, h3, h4⟩
  | exit id => exact h
  | goto l => exact h
  | ret => exact h
  | panic v => exact h
end Go.Av
end
section
set_option linter.unusedVariables false
set_option linter.unusedSimpArgs false
namespace Go.Av
section
variable {P : Program} {N : Nat} {Q : AExit → St → Prop}
theorem Wp.frz {c : AC} {t : Tm} {h : H} (d : Nat → Bool) (l : List (Nat × AV)) (h' : H) (hs : AllSub (fun i => unT h d (t i)) l) (ho : OLe (h.drop d).objs h'.objs) (hk : ∀ x ∈ h'.toks, x ∈ h.toks) (hn : h.n ≤ h'.n) (hm : h.m ≤ h'.m) (k : Wp P N c ⟨tm l, h'⟩ Q) : Wp P N c ⟨t, h⟩ Q :=
  Wp.le (StLe.trans (frz_le t h d) (StLe.trans (StLe.tm hs) (StLe.of (f := (h.drop d).objs) (n := h.n) (m := h.m) (k := h.toks) (fun i => VSub.refl _) ho hk hn hm))) k
theorem only_T0 {G : Ghost} {f : Nat → Option Obj} {n m : Nat} (B : Nat) : ¬ (H.only f [] n m).T G B := fun ⟨t, ht, _⟩ => by simp [H.only] at ht
theorem PCalls.look {f : FuncId} {xs args : List AV} {r : AV} (hc : PCalls P f (.sl 1 xs .any :: args) r) (hr : ∀ G G' w v, VRel G w r v → VRel G' w r v) (c : Option Nat) (id : Nat) : RCalls P f (.tsl 1 id 0 xs.length c :: args) (upd none' id (some (.cells xs))) r := by
  intro n m G w vs hv R F
  have ho : (H.only (upd none' id (some (.cells xs))) [] n m).objs id = some (.cells xs) := by simp [H.only, upd]
  have hv' : VRels (G.frz (H.only (upd none' id (some (.cells xs))) [] n m) fun _ => true) w (.sl 1 xs .any :: args) vs := by
    simp only [VRels] at hv ⊢
    obtain ⟨v, us, e, h1, h2⟩ := hv
    refine ⟨v, us, e, ?_, VRels.mono R (frz_trans _) _ _ h2⟩
    have := frz_tsl R (d := fun _ => true) ho rfl (by omega) h1
    simpa using this
  refine (hc n m _ w vs hv' only_rep ⟨fun j h1 h2 => by simp only [H0, H.only] at h1 h2; omega, fun j h1 h2 => by simp only [H0, H.only] at h1 h2; omega⟩).mono ?_
  rintro e w' ⟨v, G', rfl, T, R', V⟩
  obtain ⟨q1, q2, q3, q4⟩ := R.obj id _ ho
  have hne : ∀ B, ¬ (H.only (upd none' id (some (.cells xs))) [] n m).O G B → B ≠ G.ι id := fun B h1 e => h1 ⟨id, _, ho, e.symm⟩
  have hDO : ∀ B, ¬ (H.only (upd none' id (some (.cells xs))) [] n m).O G B → ¬ (H.only (upd none' id (some (.cells xs))) [] n m).DO G (fun _ => true) B := fun B h1 h2 => h1 (DO_O h2)
  have hT : ∀ {G : Ghost} B, ¬ (H0 n m).T G B := fun B ⟨t, ht, _⟩ => by simp [H0, H.only] at ht
  let G3 : Ghost := { own := fun B => B = G.ι id ∨ G'.own B, lim := fun B => if B = G.ι id then G.lim B else G'.lim B, dom := G.dom, ι := G.ι, tdom := G.tdom, τ := G.τ }
  have T3 : Trans G w (H.only (upd none' id (some (.cells xs))) [] n m) G3 w' (H.only (upd none' id (some (.cells xs))) [] n m) := by
    constructor
    · exact fun _ x => x
    · exact fun _ => .inl
    · exact fun _ _ => rfl
    · exact fun _ x => x
    · exact fun _ => .inl
    · exact fun _ _ => rfl
    · exact Nat.le_refl _
    · exact Nat.le_refl _
    · exact T.size_le
    · exact T.os
    · exact T.output
    · exact T.form
    · exact fun B hB _ _ => T.keep B hB (only_O B) (hT B)
    · intro B hB h1
      have e1 := T.own_keep B hB (only_O B)
      have e2 := hDO B h1
      have e3 := hne B h1
      simp only [G3, e3, false_or, e1, Ghost.frz, e2, not_false_eq_true, and_true]
    · intro B hB h1 _
      have e1 := T.lim_keep B hB (only_O B) (hT B)
      have e2 := hDO B h1
      have e3 := hne B h1
      simp only [G3, e3, if_false, e1, Ghost.frz, e2]
    · exact fun B hB x => absurd x (only_T0 B)
    · exact fun B _ x => x
    · exact fun B _ x => absurd x (only_T0 B)
    · exact fun j o x => .inl ⟨o, x⟩
    · exact fun t x => by simp [H.only] at x
  refine ⟨v, G3, rfl, T3, ?_, hr G' G3 w' v V⟩
  refine ⟨fun j o hj => ?_, fun i j o o' a b e => R.inj _ _ _ _ a b e, fun t ht => by simp [H.only] at ht, fun t ht => by simp [H.only] at ht⟩
  obtain ⟨p1, p2, p3, p4⟩ := R.obj j o hj
  have hj' : j = id := by
    simp only [H.only, upd, none'] at hj
    split at hj
    · assumption
    · cases hj
  subst hj'
  refine ⟨p1, .inl rfl, Nat.lt_of_lt_of_le p3 T.size_le, ?_⟩
  have hk : w'.heap[G.ι j]? = w.heap[G.ι j]? := T.keep _ p3 (only_O _) (hT _)
  show ORel G3 w' o w'.heap[G.ι j]?
  rw [hk]
  cases o with
  | cells cs =>
    obtain ⟨vs, rest, T', fr, y1, y2, y3⟩ := p4
    exact ⟨vs, rest, T', fr, y1, VRels.mono R T3 _ _ y2, y3⟩
  | map es =>
    obtain ⟨en, clock, y1, y2⟩ := p4
    exact ⟨en, clock, y1, Entries.mono R T3 _ _ y2⟩
  | loop N t ps asg body st pend =>
    obtain ⟨r, y1, y2, y3, y4⟩ := p4
    exact ⟨r, y1, y2, fun i => VRel.mono R T3 _ _ (y3 i), y4⟩
def DCalls (P : Program) (f : FuncId) (cells : List AV) (len : Nat) (args : List AV) (r : AV) : Prop :=
  ∀ id n m, id < n → ACalls P f (.tsl 1 id 0 len none :: args) (.only (upd none' id (some (.cells cells))) [] n m) r (H0 n m)
theorem FnIs.dcalls {f : FuncId} {ac : AC} {cells args : List AV} {len : Nat} {ds : List RV} {r : AV} (hF : FnIs P f N ac ds) (hl : args.length + 1 ≤ N) (hcp : allPure cells = true) (ha : allPure args = true) (hp : isPure r = true)
    (hw : Wp P N ac ⟨initT (.tsl 1 0 0 len none :: args), .only (upd none' 0 (some (.cells cells))) [] 1 0⟩ fun e s' => isEnd e ∧ ∃ q, resOf ds s'.t s'.h = some q ∧ VSub (unT s'.h (fun _ => true) q) r) : DCalls P f cells len args r := by
  obtain ⟨r', h', hcall0, hs⟩ := hF.acalls (Q := fun r' h' => VSub (unT h' (fun _ => true) r') r) (by simpa using hl) hw
  have hcall := hcall0.frz (fun _ => true)
  intro id n m hid G w vs hv R F
  have ho : (H.only (upd none' id (some (.cells cells))) [] n m).objs id = some (.cells cells) := by simp [H.only, upd]
  obtain ⟨q1, q2, q3, q4⟩ := R.obj id _ ho
  let G0 : Ghost := { G with dom := fun j => j = 0, ι := fun _ => G.ι id, tdom := fun _ => False }
  have hv0 : VRels G0 w (.tsl 1 0 0 len none :: args) vs := by
    simp only [VRels] at hv ⊢
    obtain ⟨v, us, e, h1, h2⟩ := hv
    refine ⟨v, us, e, ?_, allPure_ok _ ha G G0 w us rfl rfl h2⟩
    simp only [VRel] at h1 ⊢
    exact ⟨rfl, h1.2⟩
  have R0 : RepH G0 (.only (upd none' 0 (some (.cells cells))) [] 1 0) w := by
    have e0 : ∀ {j o}, (H.only (upd none' 0 (some (.cells cells))) [] 1 0).objs j = some o → j = 0 ∧ o = .cells cells := by
      intro j o hj
      simp only [H.only, upd, none'] at hj
      split at hj
      · cases hj; exact ⟨by assumption, rfl⟩
      · cases hj
    refine ⟨fun j o hj => ?_, fun i j o o' a b _ => by rw [(e0 a).1, (e0 b).1], fun t ht => by simp [H.only] at ht, fun t ht => by simp [H.only] at ht⟩
    obtain ⟨rfl, rfl⟩ := e0 hj
    refine ⟨rfl, q2, q3, ?_⟩
    obtain ⟨ws, rest, T, fr, y1, y2, y3⟩ := q4
    exact ⟨ws, rest, T, fr, y1, allPure_ok _ hcp G G0 w ws rfl rfl y2, y3⟩
  refine (hcall G0 w vs hv0 R0 ⟨fun j h1 h2 h3 => by simp only [G0] at h3; simp only [H.only] at h1; omega, fun _ _ _ h => h⟩).mono ?_
  rintro e w' ⟨v, G', rfl, T, R', V⟩
  refine ⟨v, { G' with dom := G.dom, ι := G.ι, tdom := G.tdom, τ := G.τ }, rfl, ?_, only_rep, isPure_ok _ hp G' _ w' v rfl rfl (hs G' w' v V)⟩
  have hO : ∀ B, ¬ (H.only (upd none' id (some (.cells cells))) [] n m).O G B → ¬ (H.only (upd none' 0 (some (.cells cells))) [] 1 0).O G0 B := by
    rintro B h1 ⟨j, o, a, b⟩
    exact h1 ⟨id, _, ho, b⟩
  constructor
  · exact fun _ x => x
  · exact fun _ => .inl
  · exact fun _ _ => rfl
  · exact fun _ x => x
  · exact fun _ => .inl
  · exact fun _ _ => rfl
  · exact Nat.le_refl _
  · exact Nat.le_refl _
  · exact T.size_le
  · exact T.os
  · exact T.output
  · exact T.form
  · exact fun B hB h1 _ => T.keep B hB (hO B h1) (only_T0 B)
  · exact fun B hB h1 => T.own_keep B hB (hO B h1)
  · exact fun B hB h1 _ => T.lim_keep B hB (hO B h1) (only_T0 B)
  · exact fun B hB x => absurd x (only_T0 B)
  · exact fun B _ x => absurd x (only_O B)
  · exact fun B _ x => absurd x (only_T0 B)
  · exact fun j o x => by simp [H0, H.only, none'] at x
  · exact fun t x => by simp [H0, H.only] at x
theorem WpItems.dcall {dst : Option Nat} {g : Option (Nat × Bool)} {f : FuncId} {l : List Opd} {its : List AItem} {t : Tm} {h : H} {log : List Ent} {K : Tm → H → List Ent → Prop} {cells args : List AV} {len : Nat} {r : AV} (id : Nat) (hg : guardOf t g = some true) (hs : VSubs (l.map (ev t)) (.tsl 1 id 0 len none :: args))
    (hc : DCalls P f cells len args r) (ho : h.objs id = some (.cells cells)) (hid : id < h.n)
    (rest : WpItems P N its (putT t dst r) { h with objs := fun j => if j = id then none else h.objs j } (⟨[], [id], []⟩ :: log) K) : WpItems P N (⟨dst, g, .call f l⟩ :: its) t h log K :=
  WpItems.acall hg hs (hc id h.n h.m hid) (touch_drop h ho) rest
def H.turn (h : H) (id : Nat) (o : Obj) : H := { h with objs := upd (fun j => if j = id then none else h.objs j) h.n (some o), n := h.n + 1 }
theorem row_new {G : Ghost} {h : H} {w w' : World} {id B C : Nat} {cs xs : List AV} {vs rest : List Value} {T0 : TypeId} {fr : Nat × Nat} (R : RepH G h w) (ho : h.objs id = some (.cells cs)) (ht : h.toks = []) (hn : ¬ G.dom h.n) (hs : w.heap.size ≤ w'.heap.size) (hos : w'.os = w.os) (hou : w'.output = w.output)
    (hk : ∀ b, b < w.heap.size → b ≠ G.ι id → w'.heap[b]? = w.heap[b]?) (hf : SameForm w.heap[G.ι id]? w'.heap[G.ι id]?) (hB : B = G.ι id ∨ w.heap.size ≤ B) (hC : xs.length ≤ C ∧ C ≤ 9223372036854775807) (hl : vs.length = xs.length) (hE : ∀ G w, VRels G w xs vs)
    (h1 : ∀ v ∈ vs, One v) (hg : w'.heap[B]? = some (.cells (vs ++ rest).toArray T0 fr)) (hroom : C ≤ vs.length + rest.length) (hfr : fr.1 = fr.2) :
    ∃ G', Trans G w h G' w' (h.turn id (.cells xs)) ∧ RepH G' (h.turn id (.cells xs)) w' ∧ VRel G' w' (.tsl 1 h.n 0 xs.length none) (.slice (some ⟨B, 0, none⟩) xs.length C) := by
  obtain ⟨i1, i2, i3, i4⟩ := R.obj id _ ho
  let G' : Ghost := { G with dom := fun j => G.dom j ∨ j = h.n, ι := upd G.ι h.n B, own := fun b => b = B ∨ (G.own b ∧ b ≠ G.ι id ∧ b < w.heap.size), lim := fun b => if b = G.ι id ∨ w.heap.size ≤ b then none else G.lim b }
  have hO : ∀ b, ¬ h.O G b → b ≠ G.ι id := fun b hh e => hh ⟨id, _, ho, e.symm⟩
  have hOB : ∀ b, b < w.heap.size → ¬ h.O G b → b ≠ B := by
    intro b hb hh e
    rcases hB with e' | e'
    · exact hO b hh (e.trans e')
    · omega
  have hιn : G'.ι h.n = B := by simp [G', upd]
  have hι : ∀ j, j ≠ h.n → G'.ι j = G.ι j := fun j hj => by simp [G', upd, hj]
  have hd : ∀ {j o}, (h.turn id (.cells xs)).objs j = some o → (j = h.n ∧ o = .cells xs) ∨ (j ≠ h.n ∧ h.objs j = some o ∧ j ≠ id) := by
    intro j o a
    simp only [H.turn, upd] at a
    split at a
    · cases a; exact .inl ⟨by assumption, rfl⟩
    · rename_i e
      split at a
      · cases a
      · exact .inr ⟨e, a, ‹_›⟩
  have T : Trans G w h G' w' (h.turn id (.cells xs)) := by
    constructor
    · exact fun _ x => .inl x
    · rintro j (x | x)
      · exact .inl x
      · exact .inr ⟨by omega, by simp only [H.turn]; omega⟩
    · intro j x
      exact hι j fun e => hn (e ▸ x)
    · exact fun _ x => x
    · exact fun _ => .inl
    · exact fun _ _ => rfl
    · exact Nat.le_succ _
    · exact Nat.le_refl _
    · exact hs
    · exact hos
    · exact hou
    · intro b hb
      by_cases e : b = G.ι id
      · subst e; exact hf
      · rw [hk b hb e]; exact SameForm.refl _
    · exact fun b hb h _ => hk b hb (hO b h)
    · intro b hb h
      simp only [G', hb, hO b h, hOB b hb h, false_or, and_true, ne_eq, not_false_eq_true]
    · intro b hb h _
      simp only [G']
      rw [if_neg]
      rintro (e | e)
      · exact hO b h e
      · omega
    · rintro b hb ⟨t, htt, _⟩
      simp [ht] at htt
    · rintro b hb ⟨j, o, a, e⟩
      rcases hd a with ⟨rfl, -⟩ | ⟨x1, x2, x3⟩
      · rw [hιn] at e
        rcases hB with e' | e'
        · exact ⟨id, _, ho, e'.symm.trans e⟩
        · omega
      · rw [hι j x1] at e
        exact ⟨j, o, x2, e⟩
    · rintro b _ ⟨t, htt, _⟩
      simp [H.turn, ht] at htt
    · intro j o a
      rcases hd a with ⟨rfl, -⟩ | ⟨x1, x2, x3⟩
      · exact .inr ⟨Nat.le_refl _, Nat.lt_succ_self _⟩
      · exact .inl ⟨o, x2⟩
    · exact fun t x => by simp [H.turn, ht] at x
  have hBs : B < w'.heap.size := by
    rcases Nat.lt_or_ge B w'.heap.size with h | h
    · exact h
    · rw [Array.getElem?_eq_none h] at hg; cases hg
  refine ⟨G', T, ?_, ?_⟩
  · constructor
    · intro j o a
      rcases hd a with ⟨rfl, rfl⟩ | ⟨x1, x2, x3⟩
      · rw [hιn]
        exact ⟨.inr rfl, .inl rfl, hBs, vs, rest, T0, fr, hg, hE _ _, hfr, h1⟩
      · obtain ⟨r1, r2, r3, r4⟩ := R.obj j o x2
        have hne : G.ι j ≠ G.ι id := fun e => x3 (R.inj _ _ _ _ x2 ho e)
        rw [hι j x1]
        refine ⟨.inl r1, .inr ⟨r2, hne, r3⟩, Nat.lt_of_lt_of_le r3 hs, ?_⟩
        rw [hk _ r3 hne]
        cases o with
        | cells cs =>
          obtain ⟨vs, rest, T', fr, y1, y2, y3⟩ := r4
          exact ⟨vs, rest, T', fr, y1, VRels.mono R T _ _ y2, y3⟩
        | map es =>
          obtain ⟨en, clock, y1, y2⟩ := r4
          exact ⟨en, clock, y1, Entries.mono R T _ _ y2⟩
        | loop N t ps asg body st pend =>
          obtain ⟨r, y1, y2, y3, y4⟩ := r4
          exact ⟨r, y1, y2, fun i => VRel.mono R T _ _ (y3 i), y4⟩
    · intro i j o o' a b e
      have hcl : ∀ {k p}, k ≠ h.n → h.objs k = some p → k ≠ id → G.ι k ≠ B := by
        intro k p _ y2 y3 e
        rcases hB with e' | e'
        · exact y3 (R.inj _ _ _ _ y2 ho (e.trans e'))
        · have := (R.obj k p y2).2.2.1; omega
      rcases hd a with ⟨rfl, rfl⟩ | ⟨x1, x2, x3⟩ <;> rcases hd b with ⟨rfl, rfl⟩ | ⟨y1, y2, y3⟩
      · rfl
      · rw [hιn, hι j y1] at e; exact absurd e.symm (hcl y1 y2 y3)
      · rw [hιn, hι i x1] at e; exact absurd e (hcl x1 x2 x3)
      · rw [hι i x1, hι j y1] at e; exact R.inj _ _ _ _ x2 y2 e
    · exact fun t x => by simp [H.turn, ht] at x
    · exact fun t x => by simp [H.turn, ht] at x
  · unfold VRel
    refine ⟨.inr rfl, .inl ⟨C, (vs ++ rest).toArray, T0, fr, by rw [hιn], hC, (fun _ h => by cases h), by rw [hιn]; exact hg, by simpa using hroom⟩⟩
theorem touch_turn (h : H) {id : Nat} {ob o : Obj} (ho : h.objs id = some ob) (hid : id < h.n) : Touch h (.only (upd none' id (some ob)) [] h.n h.m) ((H.only (upd none' id (some ob)) [] h.n h.m).turn id o) (h.turn id o) ⟨[], [id, h.n], []⟩ where
  sub := (touch_read h ho).sub
  n := rfl
  m := rfl
  eq := H.ext (fun j => by
    simp only [H.patch, H.turn, H.only, upd, none']
    by_cases e : j = id
    · subst e; simp
    · by_cases e2 : j = h.n
      · subst e2; simp
      · simp [e, e2]; omega) rfl (by simp [H.patch, H.turn, H.only, filter_tt]) rfl
  rd j x := by
    simp only [H.only, upd, none'] at x
    split at x
    · rename_i e; subst e; simp
    · cases x
  wr j a b := by
    simp only [H.turn, H.only] at a b
    have : j = h.n := by omega
    subst this; simp
  chg j x hj := by
    simp only [H.only, upd, none'] at x
    split at x
    · rename_i e; subst e; simp at hj
    · cases x
  tk t x := by simp [H.only] at x
  tn t x := by simp [H.turn, H.only] at x
  le := Nat.le_succ _
  lem := Nat.le_refl _
theorem touch_turn2 (h : H) {id id2 : Nat} {ob ob2 o : Obj} (ho : h.objs id = some ob) (ho2 : h.objs id2 = some ob2) (hne : id ≠ id2) (hid : id < h.n) (hid2 : id2 < h.n) :
    Touch h (.only (upd (upd none' id (some ob)) id2 (some ob2)) [] h.n h.m) ((H.only (upd (upd none' id (some ob)) id2 (some ob2)) [] h.n h.m).turn id o) (h.turn id o) ⟨[id2], [id, h.n], []⟩ where
  sub := ⟨fun j p x => by
    simp only [H.only, upd, none'] at x
    split at x
    · rename_i e; subst e; cases x; exact ho2
    · split at x
      · rename_i e; subst e; cases x; exact ho
      · exact absurd x (by simp), fun t x => by simp [H.only] at x⟩
  n := rfl
  m := rfl
  eq := H.ext (fun j => by
    simp only [H.patch, H.turn, H.only, upd, none']
    by_cases e : j = id
    · subst e; simp [hne]
    · by_cases e2 : j = h.n
      · subst e2; simp
      · by_cases e3 : j = id2
        · subst e3; simp [e, e2, ho2]
        · simp [e, e2, e3]; omega) rfl (by simp [H.patch, H.turn, H.only, filter_tt]) rfl
  rd j x := by
    simp only [H.only, upd, none'] at x
    split at x
    · rename_i e; subst e; simp
    · split at x
      · rename_i e; subst e; simp
      · cases x
  wr j a b := by
    simp only [H.turn, H.only] at a b
    have : j = h.n := by omega
    subst this; simp
  chg j x hj := by
    simp only [H.only, upd, none'] at x
    simp only [List.mem_cons, List.not_mem_nil, or_false, not_or] at hj
    split at x
    · rename_i e; subst e
      simp only [H.turn, H.only, upd]
      simp [hj.1, hj.2]
    · split at x
      · rename_i e; subst e; exact absurd rfl hj.1
      · cases x
  tk t x := by simp [H.only] at x
  tn t x := by simp [H.turn, H.only] at x
  le := Nat.le_succ _
  lem := Nat.le_refl _
end
end Go.Av
end
section
set_option linter.unusedVariables false
set_option linter.unusedSimpArgs false
namespace Go.Av
abbrev Objs := Nat → Option Obj
structure Fr where
  o : Objs
  k : List Nat
def lay : List Fr → Objs
  | [] => none'
  | F :: l => fun j => (F.o j).or (lay l j)
def ks (l : List Fr) : List Nat := l.flatMap (·.k)
def ob (i : Nat) (o : Obj) : Fr := ⟨upd none' i (some o), []⟩
def fr0 : Fr := ⟨none', []⟩
structure Ok (l : List Fr) (n : Nat) (T : List Nat) (m : Nat) : Prop where
  bd : ∀ F ∈ l, ∀ j, n ≤ j → F.o j = none
  dj : l.Pairwise fun F F' => ∀ j, F.o j = none ∨ F'.o j = none
  tk : ∀ t ∈ ks l, t ∈ T
  td : l.Pairwise fun F F' => ∀ t ∈ F.k, t ∉ F'.k
  tb : ∀ t ∈ T, t < m
theorem lay_none {l : List Fr} {j : Nat} : lay l j = none ↔ ∀ F ∈ l, F.o j = none := by
  induction l with
  | nil => simp [lay, none']
  | cons F l ih => simp [lay, Option.or_eq_none_iff, ih]
theorem Ok.nil {n m : Nat} : Ok [] n [] m := ⟨by simp, by simp, by simp [ks], by simp, by simp⟩
theorem Ok.put {F : Fr} {l : List Fr} {n m i : Nat} {T : List Nat} {o : Obj} (h : Ok (F :: l) n T m) (hi : lay l i = none) (hn : i < n) : Ok (⟨upd F.o i (some o), F.k⟩ :: l) n T m where
  bd F' hF j hj := by
    rcases List.mem_cons.1 hF with rfl | hF
    · simp only [upd]
      rw [if_neg (by omega)]
      exact h.bd F (by simp) j hj
    · exact h.bd F' (by simp [hF]) j hj
  dj := by
    refine List.pairwise_cons.2 ⟨fun F' hF j => ?_, (List.pairwise_cons.1 h.dj).2⟩
    simp only [upd]
    by_cases e : j = i
    · subst e; exact .inr (lay_none.1 hi F' hF)
    · rw [if_neg e]; exact (List.pairwise_cons.1 h.dj).1 F' hF j
  tk t ht := h.tk t (by simpa [ks] using ht)
  td := List.pairwise_cons.2 ⟨(List.pairwise_cons.1 h.td).1, (List.pairwise_cons.1 h.td).2⟩
  tb := h.tb
theorem Ok.start {l : List Fr} {n m : Nat} {T : List Nat} (h : Ok l n T m) : Ok (fr0 :: l) n T m :=
  ⟨fun F hF j hj => by rcases List.mem_cons.1 hF with rfl | hF; exact rfl; exact h.bd F hF j hj, List.pairwise_cons.2 ⟨fun F' _ j => .inl rfl, h.dj⟩, fun t ht => h.tk t (by simpa [ks, fr0] using ht), List.pairwise_cons.2 ⟨fun F' _ t ht => by simp [fr0] at ht, h.td⟩, h.tb⟩
theorem Ok.old {F : Fr} {l : List Fr} {n m : Nat} {T : List Nat} (h : Ok (F :: l) n T m) {i : Nat} (hi : (F.o i).isSome = true) : lay l i = none :=
  lay_none.2 fun F' hF => by
    rcases (List.pairwise_cons.1 h.dj).1 F' hF i with e | e
    · rw [e] at hi; cases hi
    · exact e
section
variable {P : Program} {N : Nat}
def GCalls (P : Program) (f : FuncId) (args : List AV) (l : List Fr) (Q : AV → List Fr → Prop) : Prop :=
  ∀ n m, Ok l n (ks l) m → ∃ r l' n' m', ACalls P f args ⟨lay l, n, ks l, m⟩ r ⟨lay l', n', ks l', m'⟩ ∧ n ≤ n' ∧ m ≤ m' ∧ Ok l' n' (ks l') m' ∧ (∀ j, n ≤ j ∨ (lay l j).isSome = true ∨ lay l' j = none) ∧ (∀ t ∈ ks l', t ∈ ks l ∨ m ≤ t) ∧ Q r l'
theorem GCalls.mono {f : FuncId} {args : List AV} {l : List Fr} {Q Q' : AV → List Fr → Prop} (h : GCalls P f args l Q) (hq : ∀ r l', Q r l' → Q' r l') : GCalls P f args l Q' := by
  intro n m ok
  obtain ⟨r, l', n', m', h1, h2, h3, h4, h5, h6, h7⟩ := h n m ok
  exact ⟨r, l', n', m', h1, h2, h3, h4, h5, h6, hq _ _ h7⟩
theorem PCalls.g {f : FuncId} {args : List AV} {r : AV} (h : PCalls P f args r) : GCalls P f args [] (fun r' l' => r' = r ∧ l' = []) := fun n m _ =>
  ⟨r, [], n, m, h n m, Nat.le_refl _, Nat.le_refl _, Ok.nil, fun j => .inr (.inr rfl), by simp [ks], rfl, rfl⟩
theorem Wp.nm {c : AC} {s : St} {Q : AExit → St → Prop} (h : Wp P N c s Q) : Wp P N c s fun e s' => Q e s' ∧ s.h.n ≤ s'.h.n ∧ s.h.m ≤ s'.h.m := by
  intro code hc
  obtain ⟨e, s', r, q⟩ := h code hc
  exact ⟨e, s', r, q, r.1⟩
theorem ACalls.le {f : FuncId} {args : List AV} {h h' h'' : H} {r r' : AV} (hc : ACalls P f args h r h') (hs : VSub r r') (hl : HLe h' h'') (n : h'.n = h''.n) (m : h'.m = h''.m) : ACalls P f args h r' h'' := by
  intro G w vs hv R F
  refine (hc G w vs hv R (by unfold Fresh at F ⊢; rwa [n, m])).mono ?_
  rintro e w' ⟨v, G', rfl, T, R', V⟩
  exact ⟨v, G', rfl, T.trans R R' (Trans.le hl (by omega) (by omega)), R'.le hl, hs G' w' v V⟩
structure Ends (l : List Fr) (n m : Nat) (Q : AV → List Fr → Prop) (q : AV) (h : H) (r : AV) (l' : List Fr) : Prop where
  sub : VSub q r
  ole : OLe h.objs (lay l')
  tk : ∀ t ∈ ks l', t ∈ h.toks
  ok : Ok l' h.n (Go.Av.ks l') h.m
  new : ∀ j, n ≤ j ∨ (lay l j).isSome = true ∨ lay l' j = none
  knew : ∀ t ∈ Go.Av.ks l', t ∈ Go.Av.ks l ∨ m ≤ t
  q : Q r l'
def fin (h : H) (ids toks : List Nat) : Ent := ⟨[], ids, toks⟩
def Wi (l0 : List Fr) (n0 : Nat) (l : List Fr) : Prop := ∀ j, n0 ≤ j ∨ (lay l0 j).isSome = true ∨ lay l j = none
def Ki (l0 : List Fr) (m0 : Nat) (l : List Fr) : Prop := ∀ t ∈ ks l, t ∈ ks l0 ∨ m0 ≤ t
theorem Wi.refl {l : List Fr} {n : Nat} : Wi l n l := fun j => by
  cases h : lay l j with
  | none => exact .inr (.inr rfl)
  | some o => exact .inr (.inl rfl)
theorem Ki.refl {l : List Fr} {m : Nat} : Ki l m l := fun t h => .inl h
theorem Wi.trans {l0 l l' : List Fr} {n0 n : Nat} (a : Wi l0 n0 l) (hn : n0 ≤ n) (b : Wi l n l') : Wi l0 n0 l' := fun j => by
  rcases b j with h | h | h
  · exact .inl (by omega)
  · rcases a j with h' | h' | h'
    · exact .inl h'
    · exact .inr (.inl h')
    · rw [h'] at h; cases h
  · exact .inr (.inr h)
theorem Ki.trans {l0 l l' : List Fr} {m0 m : Nat} (a : Ki l0 m0 l) (hm : m0 ≤ m) (b : Ki l m l') : Ki l0 m0 l' := fun t ht => by
  rcases b t ht with h | h
  · exact a t h
  · exact .inr (by omega)
end
end Go.Av
end
section
set_option linter.unusedVariables false
set_option linter.unusedSimpArgs false
namespace Go.Av
section
variable {P : Program} {N : Nat} {s : St} {Q : AExit → St → Prop}
def LoopWp (F : Fence) (n : Nat) (P : Program) (c : Code) (Q : Exit → Act → World → Prop) (a : Act) (w : World) : Prop :=
  ∀ (b : Frame) (k : List Item) (cs : List Frame), b.roundOf = F.round → F.fn b.fn → F.room (cs.length + 1 + n) →
    ∃ e a' w', Q e a' w' ∧ ArrivesIn (Machine.fenced P F) P (lone (b.atR a (.code c :: .inLoop c :: k)) cs w) b k cs e a' w'
theorem LoopWp.start {F : Fence} {n : Nat} {c : Code} {Q : Exit → Act → World → Prop} {a : Act} {w : World} (h : LoopWp F n P c Q a w) : (Code.loop c).wpIn F n P Q a w := by
  intro b k cs hro hb hr
  obtain ⟨e, a₁, w₁, hq, harr⟩ := h b k cs hro hb hr
  exact ⟨e, a₁, w₁, hq, .of_steps (.one (fenced_calm hb hr rfl) stepR_loop) harr⟩
theorem LoopWp.step {F : Fence} {n : Nat} {c : Code} {Q : Exit → Act → World → Prop} {a : Act} {w : World} (h : c.wpIn F n P (Exit.then (LoopWp F n P c Q) Q) a w) : LoopWp F n P c Q a w := by
  intro b k cs hro hb hr
  obtain ⟨e, a₁, w₁, hq, harr⟩ := h b (.inLoop c :: k) cs hro hb hr
  cases e with
  | normal =>
    obtain ⟨e₂, a₂, w₂, hq₂, harr₂⟩ := hq b k cs hro hb hr
    exact ⟨e₂, a₂, w₂, hq₂, .of_steps (StepsIn.trans harr (.one (fenced_calm hb hr rfl) stepR_inLoop)) harr₂⟩
  | exit id => exact ⟨_, a₁, w₁, hq, .pass (x := .inLoop c) rfl (fun _ _ => .inl (by simp)) harr⟩
  | goto l => exact ⟨_, a₁, w₁, hq, .pass (x := .inLoop c) rfl (fun _ _ => .inl (by simp)) harr⟩
  | ret => exact ⟨_, a₁, w₁, hq, .pass (x := .inLoop c) rfl (fun _ _ => .inl (by simp)) harr⟩
  | panic ch => exact ⟨_, a₁, w₁, hq, .pass (x := .inLoop c) rfl (fun _ _ => .inl (by simp)) harr⟩
  | outgrown => exact ⟨_, a₁, w₁, hq, .pass (x := .inLoop c) rfl (fun _ _ => .inl (by simp)) harr⟩
def RunL (P : Program) (N : Nat) (c : Code) (s : St) (e : AExit) (s' : St) : Prop :=
  (s.h.n ≤ s'.h.n ∧ s.h.m ≤ s'.h.m) ∧ ∀ ro, okR c ro → ∀ G w a, Rel N s G w a → Fresh G s.h s'.h → LoopWp (rd ro) 0 P c (fun e' a' w' => e.says e' ∧ NewM w a.defers a'.defers ∧ ∃ G', Trans G w s.h G' w' s'.h ∧ Rel N s' G' w' a') a w
def WpL (P : Program) (N : Nat) (c : AC) (s : St) (Q : AExit → St → Prop) : Prop :=
  ∀ code, cCode P N code = some c → ∃ e s', RunL P N code s e s' ∧ Q e s'
theorem WpL.next {c : AC} (h : Wp P N c s (AExit.andThen (fun s' => WpL P N c s' Q) Q)) : WpL P N c s Q := by
  intro x hx
  obtain ⟨e, s1, r1, q1⟩ := h x hx
  cases e with
  | normal =>
    obtain ⟨e2, s2, r2, q2⟩ := q1 x hx
    obtain ⟨⟨l1, l2⟩, r1⟩ := r1
    obtain ⟨⟨l3, l4⟩, r2⟩ := r2
    refine ⟨e2, s2, ⟨⟨by omega, by omega⟩, fun ro okc G w ac r F => .step (wpIn_mono (r1 ro okc G w ac r (F.sub (Nat.le_refl _) l3 (Nat.le_refl _) l4)) ?_)⟩, q2⟩
    rintro e' a' w' ⟨h1, h2, G', T1, r'⟩
    cases e' <;> simp only [AExit.says] at h1
    intro b k cs hro hb hr
    obtain ⟨e'', a'', w'', ⟨k1, k2, G'', T2, r''⟩, harr⟩ := r2 ro okc G' w' a' r' (F.step T1) b k cs hro hb hr
    exact ⟨e'', a'', w'', ⟨k1, h2.trans T1.size_le k2, G'', T1.trans r.h r'.h T2, r''⟩, harr⟩
  | exit id =>
    refine ⟨.exit id, s1, ⟨r1.1, fun ro okc G w ac r F => .step (wpIn_mono (r1.2 ro okc G w ac r F) ?_)⟩, q1⟩
    rintro e' a' w' ⟨h1, h2⟩
    cases e' <;> simp only [AExit.says] at h1
    exact ⟨h1, h2⟩
  | goto l =>
    refine ⟨.goto l, s1, ⟨r1.1, fun ro okc G w ac r F => .step (wpIn_mono (r1.2 ro okc G w ac r F) ?_)⟩, q1⟩
    rintro e' a' w' ⟨h1, h2⟩
    cases e' <;> simp only [AExit.says] at h1
    exact ⟨h1, h2⟩
  | ret =>
    refine ⟨.ret, s1, ⟨r1.1, fun ro okc G w ac r F => .step (wpIn_mono (r1.2 ro okc G w ac r F) ?_)⟩, q1⟩
    rintro e' a' w' ⟨h1, h2⟩
    cases e' <;> simp only [AExit.says] at h1
    exact ⟨trivial, h2⟩
  | panic v =>
    refine ⟨.panic v, s1, ⟨r1.1, fun ro okc G w ac r F => .step (wpIn_mono (r1.2 ro okc G w ac r F) ?_)⟩, q1⟩
    rintro e' a' w' ⟨h1, h2⟩
    cases e' <;> simp only [AExit.says] at h1
    exact ⟨h1, h2⟩
def evalR : List AItem → Tm → H → List Ent → Option (List AItem × Tm × H × List Ent)
  | [], t, h, l => some ([], t, h, l)
  | it :: its, t, h, l => match guardOf t it.guard with
    | some true => (match aop (ev t) h it.op with
      | some (x, h', en) => evalR its (putT t it.dst x) h' (en :: l)
      | none => some (it :: its, t, h, l))
    | some false => evalR its (putT t it.dst (.sc undef)) h (ent0 :: l)
    | none => some (it :: its, t, h, l)
theorem evalR_ok : ∀ {items : List AItem} {t : Tm} {h : H} {l : List Ent} {r : List AItem × Tm × H × List Ent}, evalR items t h l = some r → evalOps items t h l = r
  | [], t, h, l, r, he => by simpa [evalR, evalOps] using he
  | it :: its, t, h, l, r, he => by
    simp only [evalR] at he
    simp only [evalOps]
    cases hg : guardOf t it.guard with
    | none => rw [hg] at he; simpa using he
    | some g =>
      rw [hg] at he
      cases g with
      | false => exact evalR_ok he
      | true =>
        simp only at he ⊢
        cases hx : aop (ev t) h it.op with
        | none => rw [hx] at he; simpa using he
        | some p =>
          obtain ⟨x, h', en⟩ := p
          rw [hx] at he
          exact evalR_ok he
theorem WpItems.evR {items its : List AItem} {t t' : Tm} {h h' : H} {log log' : List Ent} {K : Tm → H → List Ent → Prop} (he : evalR items t h log = some (its, t', h', log')) (hw : WpItems P N its t' h' log' K) : WpItems P N items t h log K := WpItems.eval (evalR_ok he) hw
theorem Wp.seqItemsR {items its : List AItem} {p : Option (List (Nat × Nat))} {y : AC} {t' : Tm} {h' : H} {log : List Ent} (he : evalR items s.t s.h [] = some (its, t', h', log)) (h : WpItems P N its t' h' log fun t h l => pairsQ p l ∧ Wp P N y ⟨t, h⟩ Q) : Wp P N (.seq (.reg items p) y) s Q := Wp.seqItems (evalR_ok he) h
theorem Wp.itemsR {items its : List AItem} {p : Option (List (Nat × Nat))} {t' : Tm} {h' : H} {log : List Ent} (he : evalR items s.t s.h [] = some (its, t', h', log)) (h : WpItems P N its t' h' log fun t h l => pairsQ p l ∧ Q .normal ⟨t, h⟩) : Wp P N (.reg items p) s Q := Wp.items (evalR_ok he) h
def evalU : List AItem → Tm → H → List Ent → List AItem × Tm × H × List Ent
  | [], t, h, l => ([], t, h, l)
  | it :: its, t, h, l => match it.guard with
    | some _ => (it :: its, t, h, l)
    | none => (match aop (ev t) h it.op with
      | some (x, h', en) => evalU its (putT t it.dst x) h' (en :: l)
      | none => (it :: its, t, h, l))
end
attribute [go_sem] evalU evalR
def VSubL : List AV → List AV → Prop
  | [], [] => True
  | x :: xs, y :: ys => VSub x y ∧ VSubL xs ys
  | _, _ => False
theorem VSubL.refl : ∀ l, VSubL l l
  | [] => trivial
  | x :: l => ⟨VSub.refl x, VSubL.refl l⟩
theorem VSubL.len : ∀ {xs ys : List AV}, VSubL xs ys → xs.length = ys.length
  | [], [], _ => rfl
  | _ :: _, _ :: _, h => by simp [VSubL.len h.2]
  | [], _ :: _, h => h.elim
  | _ :: _, [], h => h.elim
theorem VSubL.els {G : Ghost} {w : World} {sz : Nat} : ∀ {xs ys : List AV} {vs : List Value}, VSubL xs ys → VElems G w sz xs vs → VElems G w sz ys vs
  | [], [], _, _, h => h
  | x :: xs, y :: ys, vs, h, hv => by
    simp only [VElems] at hv ⊢
    obtain ⟨v, us, e, h1, h2, h3⟩ := hv
    exact ⟨v, us, e, h1, h.1 G w v h2, VSubL.els h.2 h3⟩
  | [], _ :: _, _, h, _ => h.elim
  | _ :: _, [], _, h, _ => h.elim
theorem VSub.sl {sz : Nat} {xs ys : List AV} {c : Cap} (h : VSubL xs ys) : VSub (.sl sz xs c) (.sl sz ys .any) := by
  intro G w v hv
  have hl := h.len
  simp only [VRel] at hv ⊢
  rcases hv with ⟨rfl, a, _⟩ | ⟨B, off, C, vs, h1, h2, h3, h4, h5, h6⟩
  · cases ys with
    | nil => exact .inl ⟨rfl, a, by simp [CapNil]⟩
    | cons y ys => simp at hl
  · exact .inr ⟨B, off, C, vs, by rw [← hl]; exact h1, by rw [← hl]; exact h2, by rw [← hl]; exact h3, h.els h4, h5, by simp [CapOk]⟩
theorem VSub.slc {sz : Nat} {xs ys : List AV} {c : Cap} (h : VSubL xs ys) : VSub (.sl sz xs c) (.sl sz ys c) := by
  intro G w v hv
  have hl := h.len
  simp only [VRel] at hv ⊢
  rcases hv with ⟨rfl, a, b⟩ | ⟨B, off, C, vs, h1, h2, h3, h4, h5, h6⟩
  · cases ys with
    | nil => exact .inl ⟨rfl, a, b⟩
    | cons y ys => simp at hl
  · exact .inr ⟨B, off, C, vs, by rw [← hl]; exact h1, by rw [← hl]; exact h2, by rw [← hl]; exact h3, h.els h4, h5, by rw [← hl]; exact h6⟩
theorem getD_el {α : Type} {l : List α} {i : Nat} {d : α} (h : i < l.length) : l.getD i d = l[i] := by
  rw [List.getD_eq_getElem?_getD, List.getElem?_eq_getElem h]; rfl
theorem take_snoc {α : Type} {l : List α} {j : Nat} (d : α) (h : j < l.length) : l.take (j + 1) = l.take j ++ [l.getD j d] := by
  rw [List.take_succ_eq_append_getElem h, getD_el h]
theorem enc_at {α : Type} [Inhabited α] (f : α → AV) (l : List α) (k : Nat) (d : AV) (h : k < l.length) : (l.map f).getD k d = f (l.getD k default) := by
  simp [List.getD, List.getElem?_map, List.getElem?_eq_getElem h]
end Go.Av
end
