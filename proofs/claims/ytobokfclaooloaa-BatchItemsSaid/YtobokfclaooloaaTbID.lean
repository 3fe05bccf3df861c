/- Parts of a proof: a layer of abstract values over the model, the functions' walks, plain laws. -/
import Derived.Deep.CondSized
import Derived.IntWalk
import Derived.KernelRfl
import Derived.Laws.Append
import Derived.Laws.AppendOwn
import Derived.Laws.BytesArg
import Derived.Laws.Cover3
import Derived.Laws.Entries
import Derived.Laws.IdiomCopy
import Derived.Laws.IdiomStrings
import Derived.Laws.Pointers
import Derived.Laws.Small
import Derived.Laws.Strings
import Derived.Laws.StructEq
import Derived.Lib.Small
import Derived.Lib.Walk
import Derived.MapKept
import Derived.OpenShut
import Derived.Orders
import Derived.OrdersIn
import Derived.ProofKit
import Derived.RangeFuncRecord
import Derived.RangeFuncSeq
import Derived.ReadAgain
import Derived.Scope
import Derived.Shelf.Lay
import Derived.Shelf.SlSortCmp.InsertionK
import Derived.Shelf.SlSortCmp.WholeK
import Derived.Shelf.Slices.Cells
import Derived.Shelf.Slices.Delete
import Derived.Shelf.Sort.Plain
import Derived.Shelf.Spec.SlicesInsertGrow
import Derived.SizedLaws
import Derived.Sort.Walk0
import Derived.Test.YtobokfclaooloaaRows
import Derived.WalkKit
import Derived.Test.YtobokfclaooloaaTbIC
section
set_option linter.unusedVariables false
set_option linter.unusedSimpArgs false
namespace Go.Av
variable {P : Program} {N : Nat} {s : St} {Q : AExit → St → Prop}
theorem StLe.tmN {t : Tm} {f f' : Nat → Option Obj} {n n' m : Nat} {k : List Nat} {l : List (Nat × AV)} (hn : n ≤ n') (ho : OLe f f') (h : AllSub t l) : StLe ⟨t, ⟨f, n, k, m⟩⟩ ⟨Go.Av.tm l, ⟨f', n', k, m⟩⟩ :=
  StLe.trans (StLe.tm h) (StLe.of (fun i => VSub.refl _) ho (fun x hx => hx) hn (Nat.le_refl _))
theorem OLe.skip {f : Nat → Option Obj} {i : Nat} {o : Option Obj} (h : f i = Option.none) : OLe (Go.Av.upd f i o) f := by
  intro j p hp
  refine ⟨p, ?_, OSub.refl p⟩
  simp only [Go.Av.upd]
  split
  · rename_i e; subst e; rw [h] at hp; cases hp
  · exact hp
theorem OLe.at {g : Nat → Option Obj} {k : Nat} {A : Obj} (h : g k = some A) : OLe g (Go.Av.upd none' k (some A)) := by
  intro j p hp
  simp only [Go.Av.upd, none'] at hp
  split at hp
  · rename_i e; subst e; cases hp; exact ⟨_, h, OSub.refl _⟩
  · cases hp
theorem Wp.loopN {β : Type} (L : List Nat) {K : List (Nat × AV)} {c : AC} {h : H} {t : Tm} (hK : (L.map fun i => (i, t i)) = K) (ch : β → List (Nat × AV)) (I : β → Prop) (μ : β → Nat) (b0 : β) (h0 : I b0) (hs : AllSub t (ch b0))
    (round : ∀ b n, h.n ≤ n → I b → Wp P N c ⟨tm (K ++ ch b), { h with n := n }⟩ (AExit.andThen (fun s' => ∃ b' n', h.n ≤ n' ∧ I b' ∧ μ b' < μ b ∧ StLe s' ⟨tm (K ++ ch b'), { h with n := n' }⟩) Q)) : Wp P N (.loop c) ⟨t, h⟩ Q := by
  refine Wp.loopH (β := β × Nat) L hK (fun j => ch j.1) (fun j => { h with n := j.2 }) (fun j => h.n ≤ j.2 ∧ I j.1) (fun j => μ j.1) (b0, h.n) ⟨Nat.le_refl _, h0⟩ rfl hs ?_
  rintro ⟨b, n⟩ ⟨hn, hb⟩
  refine Wp.mono (round b n hn hb) ?_
  intro e s' h
  cases e with
  | normal => obtain ⟨b', n', h1, h2, h3, h4⟩ := h; exact ⟨(b', n'), ⟨h1, h2⟩, h3, h4⟩
  | exit id => exact h
  | goto l => exact h
  | ret => exact h
  | panic v => exact h
theorem Wp.loopTokN {β : Type} (L : List Nat) {K : List (Nat × AV)} {c : AC} {h : H} {t : Tm} (hK : (L.map fun i => (i, t i)) = K) (ch : β → Nat → List (Nat × AV)) (I : β → Prop) (μ : β → Nat) (b0 : β) (tk : Nat) (h0 : I b0) (hh : h.toks = [tk]) (hs : AllSub t (ch b0 tk))
    (round : ∀ b tk n m, h.n ≤ n → I b → Wp P N c ⟨tm (K ++ ch b tk), ⟨h.objs, n, [tk], m⟩⟩ (AExit.andThen (fun s' => ∃ b' tk' n' m', h.n ≤ n' ∧ I b' ∧ μ b' < μ b ∧ StLe s' ⟨tm (K ++ ch b' tk'), ⟨h.objs, n', [tk'], m'⟩⟩) Q)) : Wp P N (.loop c) ⟨t, h⟩ Q := by
  refine Wp.loopH (β := β × Nat × Nat × Nat) L hK (fun j => ch j.1 j.2.1) (fun j => ⟨h.objs, j.2.2.1, [j.2.1], j.2.2.2⟩) (fun j => h.n ≤ j.2.2.1 ∧ I j.1) (fun j => μ j.1) (b0, tk, h.n, h.m) ⟨Nat.le_refl _, h0⟩ (by cases h; simp only at hh; subst hh; rfl) hs ?_
  rintro ⟨b, tk, n, m⟩ ⟨hn, hb⟩
  refine Wp.mono (round b tk n m hn hb) ?_
  intro e s' h
  cases e with
  | normal => obtain ⟨b', tk', n', m', h1, h2, h3, h4⟩ := h; exact ⟨(b', tk', n', m'), ⟨h1, h2⟩, h3, h4⟩
  | exit id => exact h
  | goto l => exact h
  | ret => exact h
  | panic v => exact h
end Go.Av
end
section
set_option linter.unusedVariables false
set_option linter.unusedSimpArgs false
namespace Go.Av
section
variable {P : Program} {N : Nat} {Q : AExit → St → Prop}
theorem Wp.frz {c : AC} {t : Tm} {h : H} (d : Nat → Bool) (l : List (Nat × AV)) (h' : H) (hs : AllSub (fun i => unT h d (t i)) l) (ho : OLe (h.drop d).objs h'.objs) (hk : ∀ x ∈ h'.toks, x ∈ h.toks) (hn : h.n ≤ h'.n) (hm : h.m ≤ h'.m) (k : Wp P N c ⟨tm l, h'⟩ Q) : Wp P N c ⟨t, h⟩ Q :=
  Wp.le (StLe.trans (frz_le t h d) (StLe.trans (StLe.tm hs) (StLe.of (f := (h.drop d).objs) (n := h.n) (m := h.m) (k := h.toks) (fun i => VSub.refl _) ho hk hn hm))) k
theorem only_T0 {G : Ghost} {f : Nat → Option Obj} {n m : Nat} (B : Nat) : ¬ (H.only f [] n m).T G B := fun ⟨t, ht, _⟩ => by simp [H.only] at ht
def H.turn (h : H) (id : Nat) (o : Obj) : H := { h with objs := upd (fun j => if j = id then none else h.objs j) h.n (some o), n := h.n + 1 }
end
end Go.Av
end
section
set_option linter.unusedVariables false
set_option linter.unusedSimpArgs false
namespace Go.Av
abbrev Objs := Nat → Option Obj
structure Fr where
  o : Objs
  k : List Nat
def lay : List Fr → Objs
  | [] => none'
  | F :: l => fun j => (F.o j).or (lay l j)
def ks (l : List Fr) : List Nat := l.flatMap (·.k)
def ob (i : Nat) (o : Obj) : Fr := ⟨upd none' i (some o), []⟩
def fr0 : Fr := ⟨none', []⟩
structure Ok (l : List Fr) (n : Nat) (T : List Nat) (m : Nat) : Prop where
  bd : ∀ F ∈ l, ∀ j, n ≤ j → F.o j = none
  dj : l.Pairwise fun F F' => ∀ j, F.o j = none ∨ F'.o j = none
  tk : ∀ t ∈ ks l, t ∈ T
  td : l.Pairwise fun F F' => ∀ t ∈ F.k, t ∉ F'.k
  tb : ∀ t ∈ T, t < m
theorem lay_cons (F : Fr) (l : List Fr) (j : Nat) : lay (F :: l) j = (F.o j).or (lay l j) := rfl
theorem ob_o (i : Nat) (o : Obj) (j : Nat) : (ob i o).o j = if j = i then some o else none := rfl
theorem lay_append (l m : List Fr) (j : Nat) : lay (l ++ m) j = (lay l j).or (lay m j) := by
  induction l with
  | nil => simp [lay, none']
  | cons F l ih => simp [lay, ih, Option.or_assoc]
theorem lay_none {l : List Fr} {j : Nat} : lay l j = none ↔ ∀ F ∈ l, F.o j = none := by
  induction l with
  | nil => simp [lay, none']
  | cons F l ih => simp [lay, Option.or_eq_none_iff, ih]
theorem Ok.lay_bd {l : List Fr} {n m : Nat} {T : List Nat} (h : Ok l n T m) {j : Nat} (hj : n ≤ j) : lay l j = none := lay_none.2 fun F hF => h.bd F hF j hj
theorem Ok.nil {n m : Nat} : Ok [] n [] m := ⟨by simp, by simp, by simp [ks], by simp, by simp⟩
theorem Ok.grow {l : List Fr} {n m n' m' : Nat} {T : List Nat} (h : Ok l n T m) (hn : n ≤ n') (hm : m ≤ m') : Ok l n' T m' :=
  ⟨fun F hF j hj => h.bd F hF j (by omega), h.dj, h.tk, h.td, fun t ht => Nat.lt_of_lt_of_le (h.tb t ht) hm⟩
theorem Ok.put {F : Fr} {l : List Fr} {n m i : Nat} {T : List Nat} {o : Obj} (h : Ok (F :: l) n T m) (hi : lay l i = none) (hn : i < n) : Ok (⟨upd F.o i (some o), F.k⟩ :: l) n T m where
  bd F' hF j hj := by
    rcases List.mem_cons.1 hF with rfl | hF
    · simp only [upd]
      rw [if_neg (by omega)]
      exact h.bd F (by simp) j hj
    · exact h.bd F' (by simp [hF]) j hj
  dj := by
    refine List.pairwise_cons.2 ⟨fun F' hF j => ?_, (List.pairwise_cons.1 h.dj).2⟩
    simp only [upd]
    by_cases e : j = i
    · subst e; exact .inr (lay_none.1 hi F' hF)
    · rw [if_neg e]; exact (List.pairwise_cons.1 h.dj).1 F' hF j
  tk t ht := h.tk t (by simpa [ks] using ht)
  td := List.pairwise_cons.2 ⟨(List.pairwise_cons.1 h.td).1, (List.pairwise_cons.1 h.td).2⟩
  tb := h.tb
theorem Ok.start {l : List Fr} {n m : Nat} {T : List Nat} (h : Ok l n T m) : Ok (fr0 :: l) n T m :=
  ⟨fun F hF j hj => by rcases List.mem_cons.1 hF with rfl | hF; exact rfl; exact h.bd F hF j hj, List.pairwise_cons.2 ⟨fun F' _ j => .inl rfl, h.dj⟩, fun t ht => h.tk t (by simpa [ks, fr0] using ht), List.pairwise_cons.2 ⟨fun F' _ t ht => by simp [fr0] at ht, h.td⟩, h.tb⟩
theorem Ok.old {F : Fr} {l : List Fr} {n m : Nat} {T : List Nat} (h : Ok (F :: l) n T m) {i : Nat} (hi : (F.o i).isSome = true) : lay l i = none :=
  lay_none.2 fun F' hF => by
    rcases (List.pairwise_cons.1 h.dj).1 F' hF i with e | e
    · rw [e] at hi; cases hi
    · exact e
section
variable {P : Program} {N : Nat}
def GCalls (P : Program) (f : FuncId) (args : List AV) (l : List Fr) (Q : AV → List Fr → Prop) : Prop :=
  ∀ n m, Ok l n (ks l) m → ∃ r l' n' m', ACalls P f args ⟨lay l, n, ks l, m⟩ r ⟨lay l', n', ks l', m'⟩ ∧ n ≤ n' ∧ m ≤ m' ∧ Ok l' n' (ks l') m' ∧ (∀ j, n ≤ j ∨ (lay l j).isSome = true ∨ lay l' j = none) ∧ (∀ t ∈ ks l', t ∈ ks l ∨ m ≤ t) ∧ Q r l'
theorem GCalls.mono {f : FuncId} {args : List AV} {l : List Fr} {Q Q' : AV → List Fr → Prop} (h : GCalls P f args l Q) (hq : ∀ r l', Q r l' → Q' r l') : GCalls P f args l Q' := by
  intro n m ok
  obtain ⟨r, l', n', m', h1, h2, h3, h4, h5, h6, h7⟩ := h n m ok
  exact ⟨r, l', n', m', h1, h2, h3, h4, h5, h6, hq _ _ h7⟩
theorem PCalls.g {f : FuncId} {args : List AV} {r : AV} (h : PCalls P f args r) : GCalls P f args [] (fun r' l' => r' = r ∧ l' = []) := fun n m _ =>
  ⟨r, [], n, m, h n m, Nat.le_refl _, Nat.le_refl _, Ok.nil, fun j => .inr (.inr rfl), by simp [ks], rfl, rfl⟩
theorem Wp.nm {c : AC} {s : St} {Q : AExit → St → Prop} (h : Wp P N c s Q) : Wp P N c s fun e s' => Q e s' ∧ s.h.n ≤ s'.h.n ∧ s.h.m ≤ s'.h.m := by
  intro code hc
  obtain ⟨e, s', r, q⟩ := h code hc
  exact ⟨e, s', r, q, r.1⟩
theorem ACalls.le {f : FuncId} {args : List AV} {h h' h'' : H} {r r' : AV} (hc : ACalls P f args h r h') (hs : VSub r r') (hl : HLe h' h'') (n : h'.n = h''.n) (m : h'.m = h''.m) : ACalls P f args h r' h'' := by
  intro G w vs hv R F
  refine (hc G w vs hv R (by unfold Fresh at F ⊢; rwa [n, m])).mono ?_
  rintro e w' ⟨v, G', rfl, T, R', V⟩
  exact ⟨v, G', rfl, T.trans R R' (Trans.le hl (by omega) (by omega)), R'.le hl, hs G' w' v V⟩
structure Ends (l : List Fr) (n m : Nat) (Q : AV → List Fr → Prop) (q : AV) (h : H) (r : AV) (l' : List Fr) : Prop where
  sub : VSub q r
  ole : OLe h.objs (lay l')
  tk : ∀ t ∈ ks l', t ∈ h.toks
  ok : Ok l' h.n (Go.Av.ks l') h.m
  new : ∀ j, n ≤ j ∨ (lay l j).isSome = true ∨ lay l' j = none
  knew : ∀ t ∈ Go.Av.ks l', t ∈ Go.Av.ks l ∨ m ≤ t
  q : Q r l'
def fin (h : H) (ids toks : List Nat) : Ent := ⟨[], ids, toks⟩
def Wi (l0 : List Fr) (n0 : Nat) (l : List Fr) : Prop := ∀ j, n0 ≤ j ∨ (lay l0 j).isSome = true ∨ lay l j = none
def Ki (l0 : List Fr) (m0 : Nat) (l : List Fr) : Prop := ∀ t ∈ ks l, t ∈ ks l0 ∨ m0 ≤ t
theorem Wi.refl {l : List Fr} {n : Nat} : Wi l n l := fun j => by
  cases h : lay l j with
  | none => exact .inr (.inr rfl)
  | some o => exact .inr (.inl rfl)
theorem Ki.refl {l : List Fr} {m : Nat} : Ki l m l := fun t h => .inl h
theorem Wi.trans {l0 l l' : List Fr} {n0 n : Nat} (a : Wi l0 n0 l) (hn : n0 ≤ n) (b : Wi l n l') : Wi l0 n0 l' := fun j => by
  rcases b j with h | h | h
  · exact .inl (by omega)
  · rcases a j with h' | h' | h'
    · exact .inl h'
    · exact .inr (.inl h')
    · rw [h'] at h; cases h
  · exact .inr (.inr h)
theorem Ki.trans {l0 l l' : List Fr} {m0 m : Nat} (a : Ki l0 m0 l) (hm : m0 ≤ m) (b : Ki l m l') : Ki l0 m0 l' := fun t ht => by
  rcases b t ht with h | h
  · exact a t h
  · exact .inr (by omega)
end
end Go.Av
end
section
set_option linter.unusedVariables false
set_option linter.unusedSimpArgs false
namespace Go.Av
section
variable {P : Program} {N : Nat} {s : St} {Q : AExit → St → Prop}
theorem Wp.cond_dec {c : Opd} {x y : AC} {p : Prop} {_ : Decidable p} (hb : ev s.t c = .bool (decide p)) (ht : p → Wp P N x s Q) (hf : ¬ p → Wp P N y s Q) : Wp P N (.cond c x y) s Q :=
  Wp.cond_split hb (fun h => ht (of_decide_eq_true h)) (fun h => hf (of_decide_eq_false h))
theorem Wp.cond_ndec {c : Opd} {x y : AC} {p : Prop} {_ : Decidable p} (hb : ev s.t c = .bool (!decide p)) (ht : ¬ p → Wp P N x s Q) (hf : p → Wp P N y s Q) : Wp P N (.cond c x y) s Q :=
  Wp.cond_split hb (fun h => ht (by simpa using h)) (fun h => hf (by simpa using h))
def LoopWp (F : Fence) (n : Nat) (P : Program) (c : Code) (Q : Exit → Act → World → Prop) (a : Act) (w : World) : Prop :=
  ∀ (b : Frame) (k : List Item) (cs : List Frame), b.roundOf = F.round → F.fn b.fn → F.room (cs.length + 1 + n) →
    ∃ e a' w', Q e a' w' ∧ ArrivesIn (Machine.fenced P F) P (lone (b.atR a (.code c :: .inLoop c :: k)) cs w) b k cs e a' w'
theorem LoopWp.start {F : Fence} {n : Nat} {c : Code} {Q : Exit → Act → World → Prop} {a : Act} {w : World} (h : LoopWp F n P c Q a w) : (Code.loop c).wpIn F n P Q a w := by
  intro b k cs hro hb hr
  obtain ⟨e, a₁, w₁, hq, harr⟩ := h b k cs hro hb hr
  exact ⟨e, a₁, w₁, hq, .of_steps (.one (fenced_calm hb hr rfl) stepR_loop) harr⟩
theorem LoopWp.step {F : Fence} {n : Nat} {c : Code} {Q : Exit → Act → World → Prop} {a : Act} {w : World} (h : c.wpIn F n P (Exit.then (LoopWp F n P c Q) Q) a w) : LoopWp F n P c Q a w := by
  intro b k cs hro hb hr
  obtain ⟨e, a₁, w₁, hq, harr⟩ := h b (.inLoop c :: k) cs hro hb hr
  cases e with
  | normal =>
    obtain ⟨e₂, a₂, w₂, hq₂, harr₂⟩ := hq b k cs hro hb hr
    exact ⟨e₂, a₂, w₂, hq₂, .of_steps (StepsIn.trans harr (.one (fenced_calm hb hr rfl) stepR_inLoop)) harr₂⟩
  | exit id => exact ⟨_, a₁, w₁, hq, .pass (x := .inLoop c) rfl (fun _ _ => .inl (by simp)) harr⟩
  | goto l => exact ⟨_, a₁, w₁, hq, .pass (x := .inLoop c) rfl (fun _ _ => .inl (by simp)) harr⟩
  | ret => exact ⟨_, a₁, w₁, hq, .pass (x := .inLoop c) rfl (fun _ _ => .inl (by simp)) harr⟩
  | panic ch => exact ⟨_, a₁, w₁, hq, .pass (x := .inLoop c) rfl (fun _ _ => .inl (by simp)) harr⟩
  | outgrown => exact ⟨_, a₁, w₁, hq, .pass (x := .inLoop c) rfl (fun _ _ => .inl (by simp)) harr⟩
def RunL (P : Program) (N : Nat) (c : Code) (s : St) (e : AExit) (s' : St) : Prop :=
  (s.h.n ≤ s'.h.n ∧ s.h.m ≤ s'.h.m) ∧ ∀ ro, okR c ro → ∀ G w a, Rel N s G w a → Fresh G s.h s'.h → LoopWp (rd ro) 0 P c (fun e' a' w' => e.says e' ∧ NewM w a.defers a'.defers ∧ ∃ G', Trans G w s.h G' w' s'.h ∧ Rel N s' G' w' a') a w
def WpL (P : Program) (N : Nat) (c : AC) (s : St) (Q : AExit → St → Prop) : Prop :=
  ∀ code, cCode P N code = some c → ∃ e s', RunL P N code s e s' ∧ Q e s'
theorem WpL.next {c : AC} (h : Wp P N c s (AExit.andThen (fun s' => WpL P N c s' Q) Q)) : WpL P N c s Q := by
  intro x hx
  obtain ⟨e, s1, r1, q1⟩ := h x hx
  cases e with
  | normal =>
    obtain ⟨e2, s2, r2, q2⟩ := q1 x hx
    obtain ⟨⟨l1, l2⟩, r1⟩ := r1
    obtain ⟨⟨l3, l4⟩, r2⟩ := r2
    refine ⟨e2, s2, ⟨⟨by omega, by omega⟩, fun ro okc G w ac r F => .step (wpIn_mono (r1 ro okc G w ac r (F.sub (Nat.le_refl _) l3 (Nat.le_refl _) l4)) ?_)⟩, q2⟩
    rintro e' a' w' ⟨h1, h2, G', T1, r'⟩
    cases e' <;> simp only [AExit.says] at h1
    intro b k cs hro hb hr
    obtain ⟨e'', a'', w'', ⟨k1, k2, G'', T2, r''⟩, harr⟩ := r2 ro okc G' w' a' r' (F.step T1) b k cs hro hb hr
    exact ⟨e'', a'', w'', ⟨k1, h2.trans T1.size_le k2, G'', T1.trans r.h r'.h T2, r''⟩, harr⟩
  | exit id =>
    refine ⟨.exit id, s1, ⟨r1.1, fun ro okc G w ac r F => .step (wpIn_mono (r1.2 ro okc G w ac r F) ?_)⟩, q1⟩
    rintro e' a' w' ⟨h1, h2⟩
    cases e' <;> simp only [AExit.says] at h1
    exact ⟨h1, h2⟩
  | goto l =>
    refine ⟨.goto l, s1, ⟨r1.1, fun ro okc G w ac r F => .step (wpIn_mono (r1.2 ro okc G w ac r F) ?_)⟩, q1⟩
    rintro e' a' w' ⟨h1, h2⟩
    cases e' <;> simp only [AExit.says] at h1
    exact ⟨h1, h2⟩
  | ret =>
    refine ⟨.ret, s1, ⟨r1.1, fun ro okc G w ac r F => .step (wpIn_mono (r1.2 ro okc G w ac r F) ?_)⟩, q1⟩
    rintro e' a' w' ⟨h1, h2⟩
    cases e' <;> simp only [AExit.says] at h1
    exact ⟨trivial, h2⟩
  | panic v =>
    refine ⟨.panic v, s1, ⟨r1.1, fun ro okc G w ac r F => .step (wpIn_mono (r1.2 ro okc G w ac r F) ?_)⟩, q1⟩
    rintro e' a' w' ⟨h1, h2⟩
    cases e' <;> simp only [AExit.says] at h1
    exact ⟨h1, h2⟩
def evalR : List AItem → Tm → H → List Ent → Option (List AItem × Tm × H × List Ent)
  | [], t, h, l => some ([], t, h, l)
  | it :: its, t, h, l => match guardOf t it.guard with
    | some true => (match aop (ev t) h it.op with
      | some (x, h', en) => evalR its (putT t it.dst x) h' (en :: l)
      | none => some (it :: its, t, h, l))
    | some false => evalR its (putT t it.dst (.sc undef)) h (ent0 :: l)
    | none => some (it :: its, t, h, l)
theorem evalR_ok : ∀ {items : List AItem} {t : Tm} {h : H} {l : List Ent} {r : List AItem × Tm × H × List Ent}, evalR items t h l = some r → evalOps items t h l = r
  | [], t, h, l, r, he => by simpa [evalR, evalOps] using he
  | it :: its, t, h, l, r, he => by
    simp only [evalR] at he
    simp only [evalOps]
    cases hg : guardOf t it.guard with
    | none => rw [hg] at he; simpa using he
    | some g =>
      rw [hg] at he
      cases g with
      | false => exact evalR_ok he
      | true =>
        simp only at he ⊢
        cases hx : aop (ev t) h it.op with
        | none => rw [hx] at he; simpa using he
        | some p =>
          obtain ⟨x, h', en⟩ := p
          rw [hx] at he
          exact evalR_ok he
theorem WpItems.evR {items its : List AItem} {t t' : Tm} {h h' : H} {log log' : List Ent} {K : Tm → H → List Ent → Prop} (he : evalR items t h log = some (its, t', h', log')) (hw : WpItems P N its t' h' log' K) : WpItems P N items t h log K := WpItems.eval (evalR_ok he) hw
theorem Wp.seqItemsR {items its : List AItem} {p : Option (List (Nat × Nat))} {y : AC} {t' : Tm} {h' : H} {log : List Ent} (he : evalR items s.t s.h [] = some (its, t', h', log)) (h : WpItems P N its t' h' log fun t h l => pairsQ p l ∧ Wp P N y ⟨t, h⟩ Q) : Wp P N (.seq (.reg items p) y) s Q := Wp.seqItems (evalR_ok he) h
theorem Wp.itemsR {items its : List AItem} {p : Option (List (Nat × Nat))} {t' : Tm} {h' : H} {log : List Ent} (he : evalR items s.t s.h [] = some (its, t', h', log)) (h : WpItems P N its t' h' log fun t h l => pairsQ p l ∧ Q .normal ⟨t, h⟩) : Wp P N (.reg items p) s Q := Wp.items (evalR_ok he) h
def evalU : List AItem → Tm → H → List Ent → List AItem × Tm × H × List Ent
  | [], t, h, l => ([], t, h, l)
  | it :: its, t, h, l => match it.guard with
    | some _ => (it :: its, t, h, l)
    | none => (match aop (ev t) h it.op with
      | some (x, h', en) => evalU its (putT t it.dst x) h' (en :: l)
      | none => (it :: its, t, h, l))
theorem evalU_ok : ∀ {items its : List AItem} {t t' : Tm} {h h' : H} {log log' : List Ent} {K : Tm → H → List Ent → Prop}, evalU items t h log = (its, t', h', log') → WpItems P N its t' h' log' K → WpItems P N items t h log K
  | [], its, t, t', h, h', log, log', K, he, hw => by
    simp only [evalU, Prod.mk.injEq] at he
    obtain ⟨rfl, rfl, rfl, rfl⟩ := he
    exact hw
  | ⟨dst, g, op⟩ :: items, its, t, t', h, h', log, log', K, he, hw => by
    simp only [evalU] at he
    cases g with
    | some g =>
      simp only [Prod.mk.injEq] at he
      obtain ⟨rfl, rfl, rfl, rfl⟩ := he
      exact hw
    | none =>
      simp only at he
      cases hx : aop (ev t) h op with
      | none =>
        rw [hx] at he
        simp only [Prod.mk.injEq] at he
        obtain ⟨rfl, rfl, rfl, rfl⟩ := he
        exact hw
      | some p =>
        obtain ⟨x, h1, en⟩ := p
        rw [hx] at he
        simp only at he
        have r := evalU_ok he hw
        refine WpItems.part 1 (items := ⟨dst, none, op⟩ :: items) (t' := putT t dst x) (h' := h1) (log' := en :: log) ?_ r
        simp [evalOps, guardOf, hx]
theorem WpItems.evU {dst : Option Nat} {op : AOp} {items its : List AItem} {t t' : Tm} {h h1 h' : H} {log log' : List Ent} {K : Tm → H → List Ent → Prop} {x : AV} {en : Ent} (hx : aop (ev t) h op = some (x, h1, en))
    (he : evalU items (putT t dst x) h1 (en :: log) = (its, t', h', log')) (hw : WpItems P N its t' h' log' K) : WpItems P N (⟨dst, none, op⟩ :: items) t h log K :=
  evalU_ok (by simp only [evalU, hx]; exact he) hw
theorem upd_self {t : Tm} {d : Nat} {x : AV} (h : t d = x) : upd t d x = t := by
  funext j
  simp only [upd]
  split
  · rename_i e; rw [e, h]
  · rfl
theorem WpItems.gsplit {dst : Option Nat} {d : Nat} {wn : Bool} {op : AOp} {its : List AItem} {t : Tm} {h : H} {log : List Ent} {K : Tm → H → List Ent → Prop} {b : Bool} (hb : t d = .bool b)
    (ht : b = true → WpItems P N (⟨dst, some (d, wn), op⟩ :: its) (upd t d (.bool true)) h log K) (hf : b = false → WpItems P N (⟨dst, some (d, wn), op⟩ :: its) (upd t d (.bool false)) h log K) : WpItems P N (⟨dst, some (d, wn), op⟩ :: its) t h log K := by
  cases b
  · have := hf rfl; rwa [upd_self hb] at this
  · have := ht rfl; rwa [upd_self hb] at this
theorem WpItems.gsplit_dec {dst : Option Nat} {d : Nat} {wn : Bool} {op : AOp} {its : List AItem} {t : Tm} {h : H} {log : List Ent} {K : Tm → H → List Ent → Prop} {p : Prop} {_ : Decidable p} (hb : t d = .bool (decide p))
    (ht : p → WpItems P N (⟨dst, some (d, wn), op⟩ :: its) (upd t d (.bool true)) h log K) (hf : ¬ p → WpItems P N (⟨dst, some (d, wn), op⟩ :: its) (upd t d (.bool false)) h log K) : WpItems P N (⟨dst, some (d, wn), op⟩ :: its) t h log K :=
  WpItems.gsplit hb (fun h => ht (of_decide_eq_true h)) (fun h => hf (of_decide_eq_false h))
theorem WpItems.gsplit_ndec {dst : Option Nat} {d : Nat} {wn : Bool} {op : AOp} {its : List AItem} {t : Tm} {h : H} {log : List Ent} {K : Tm → H → List Ent → Prop} {p : Prop} {_ : Decidable p} (hb : t d = .bool (!decide p))
    (ht : ¬ p → WpItems P N (⟨dst, some (d, wn), op⟩ :: its) (upd t d (.bool true)) h log K) (hf : p → WpItems P N (⟨dst, some (d, wn), op⟩ :: its) (upd t d (.bool false)) h log K) : WpItems P N (⟨dst, some (d, wn), op⟩ :: its) t h log K :=
  WpItems.gsplit hb (fun h => ht (by simpa using h)) (fun h => hf (by simpa using h))
theorem Wp.regS {items : List AItem} {p : Option (List (Nat × Nat))} {t : Tm} {h : H} (hw : WpItems P N items t h [] fun t' h' log => pairsQ p log ∧ Q .normal ⟨t', h'⟩) : Wp P N (.reg items p) ⟨t, h⟩ Q := Wp.reg hw
theorem Wp.seqRegS {items : List AItem} {p : Option (List (Nat × Nat))} {y : AC} {t : Tm} {h : H} (hw : WpItems P N items t h [] fun t' h' log => pairsQ p log ∧ Wp P N y ⟨t', h'⟩ Q) : Wp P N (.seq (.reg items p) y) ⟨t, h⟩ Q := Wp.seq (Wp.reg hw)
end
attribute [go_sem] evalU evalR
def VSubL : List AV → List AV → Prop
  | [], [] => True
  | x :: xs, y :: ys => VSub x y ∧ VSubL xs ys
  | _, _ => False
theorem VSubL.refl : ∀ l, VSubL l l
  | [] => trivial
  | x :: l => ⟨VSub.refl x, VSubL.refl l⟩
theorem VSubL.len : ∀ {xs ys : List AV}, VSubL xs ys → xs.length = ys.length
  | [], [], _ => rfl
  | _ :: _, _ :: _, h => by simp [VSubL.len h.2]
  | [], _ :: _, h => h.elim
  | _ :: _, [], h => h.elim
theorem VSubL.els {G : Ghost} {w : World} {sz : Nat} : ∀ {xs ys : List AV} {vs : List Value}, VSubL xs ys → VElems G w sz xs vs → VElems G w sz ys vs
  | [], [], _, _, h => h
  | x :: xs, y :: ys, vs, h, hv => by
    simp only [VElems] at hv ⊢
    obtain ⟨v, us, e, h1, h2, h3⟩ := hv
    exact ⟨v, us, e, h1, h.1 G w v h2, VSubL.els h.2 h3⟩
  | [], _ :: _, _, h, _ => h.elim
  | _ :: _, [], _, h, _ => h.elim
theorem VSub.sl {sz : Nat} {xs ys : List AV} {c : Cap} (h : VSubL xs ys) : VSub (.sl sz xs c) (.sl sz ys .any) := by
  intro G w v hv
  have hl := h.len
  simp only [VRel] at hv ⊢
  rcases hv with ⟨rfl, a, _⟩ | ⟨B, off, C, vs, h1, h2, h3, h4, h5, h6⟩
  · cases ys with
    | nil => exact .inl ⟨rfl, a, by simp [CapNil]⟩
    | cons y ys => simp at hl
  · exact .inr ⟨B, off, C, vs, by rw [← hl]; exact h1, by rw [← hl]; exact h2, by rw [← hl]; exact h3, h.els h4, h5, by simp [CapOk]⟩
theorem VSub.slc {sz : Nat} {xs ys : List AV} {c : Cap} (h : VSubL xs ys) : VSub (.sl sz xs c) (.sl sz ys c) := by
  intro G w v hv
  have hl := h.len
  simp only [VRel] at hv ⊢
  rcases hv with ⟨rfl, a, b⟩ | ⟨B, off, C, vs, h1, h2, h3, h4, h5, h6⟩
  · cases ys with
    | nil => exact .inl ⟨rfl, a, b⟩
    | cons y ys => simp at hl
  · exact .inr ⟨B, off, C, vs, by rw [← hl]; exact h1, by rw [← hl]; exact h2, by rw [← hl]; exact h3, h.els h4, h5, by rw [← hl]; exact h6⟩
theorem all_step {p : Nat → Bool} {j : Nat} (h : ∀ i, i < j → p i = true) (hj : p j = true) : ∀ i, i < j + 1 → p i = true := by
  intro i hi
  by_cases e : i = j
  · subst e; exact hj
  · exact h i (by omega)
theorem all_no {p : Nat → Bool} {n j : Nat} (h : j < n) (hp : p j = false) : (List.range n).all p = false := List.all_eq_false.2 ⟨j, List.mem_range.2 h, by simp [hp]⟩
theorem all_yes {p : Nat → Bool} {n : Nat} (h : ∀ i, i < n → p i = true) : (List.range n).all p = true := List.all_eq_true.2 fun i hi => h i (List.mem_range.1 hi)
theorem getD_el {α : Type} {l : List α} {i : Nat} {d : α} (h : i < l.length) : l.getD i d = l[i] := by
  rw [List.getD_eq_getElem?_getD, List.getElem?_eq_getElem h]; rfl
theorem take_snoc {α : Type} {l : List α} {j : Nat} (d : α) (h : j < l.length) : l.take (j + 1) = l.take j ++ [l.getD j d] := by
  rw [List.take_succ_eq_append_getElem h, getD_el h]
theorem enc_at {α : Type} [Inhabited α] (f : α → AV) (l : List α) (k : Nat) (d : AV) (h : k < l.length) : (l.map f).getD k d = f (l.getD k default) := by
  simp [List.getD, List.getElem?_map, List.getElem?_eq_getElem h]
end Go.Av
end
section
set_option linter.unusedVariables false
set_option linter.unusedSimpArgs false
namespace Go.Av
section
variable {P : Program} {N : Nat}
def YCalls (P : Program) (id : Nat) (args : List AV) (h : H) (r : AV) (h' : H) : Prop :=
  ∀ G w vs, G.dom id → VRels G w args vs → RepH G h w → Fresh G h h' → YieldAt Fence.wide 0 P (G.ι id) vs.toArray w fun e w' => ∃ v G', e = .returned v ∧ Trans G w h G' w' h' ∧ RepH G' h' w' ∧ VRel G' w' r v
inductive RoundEnd : AExit → Bool → LoopState → Option Code → Prop where
  | normal : RoundEnd .normal true .ready none
  | ret : RoundEnd .ret false .done (some .ret)
  | exit (i : Nat) : RoundEnd (.exit i) false .done (some (.exit i))
  | goto (l : Nat) : RoundEnd (.goto l) false .done (some (.goto l))
theorem code_rfun {code : Code} {g : Opd} {ps : List Nat} {x y : AC} (h : cCode P N code = some (.rfun g ps x y)) : ∃ z qs a b, code = .rangeFunc z qs a b ∧ opd P 0 z = some g ∧ qs.toList = ps ∧ cCode P N a = some x ∧ cCode P N b = some y ∧ noRF a = true ∧ noRF b = true := by
  cases code with
  | rangeFunc z qs a b =>
    simp only [cCode] at h
    split at h
    · rename_i g' x' y' h1 h2 h3
      split at h
      · rename_i hcc
        cases h
        have hcc' : noRF a = true ∧ noRF b = true := by simpa using hcc
        exact ⟨_, _, _, _, rfl, h1, rfl, h2, h3, hcc'.1, hcc'.2⟩
      · cases h
    · cases h
  | _ =>
    simp only [cCode] at h
    first | (simp at h; done) | (cases h; done) | ((repeat' split at h) <;> cases h; done)
inductive LoopEnd : Option Code → AExit → Prop where
  | none : LoopEnd none .normal
  | ret : LoopEnd (some .ret) .ret
  | exit (i : Nat) : LoopEnd (some (.exit i)) (.exit i)
  | goto (l : Nat) : LoopEnd (some (.goto l)) (.goto l)
theorem Wp.rfun {g : Opd} {ps : List Nat} {x y : AC} {t : Tm} {f : Objs} {n m : Nat} {T : List Nat} {Q : AExit → St → Prop} {fi : FuncId} {fn : Func} {first caps : List AV} (hg : ev t g = .clo (.func fi) first caps) (hf : P.funcs[fi]? = some fn) (hfb : fn.body.isSome = true) (hfn : fn.name ≠ "runtime.NumGoroutine")
    (hfresh : f n = none)
    (hw : ∀ asg body, cCode P N asg = some x → cCode P N body = some y → noRF asg = true → noRF body = true → ∃ r f2 n2 T2 m2 t2 st pend e,
      ACalls P fi (first ++ [.yld n] ++ caps) ⟨upd f n (some (.loop N t ps asg body .ready none)), n + 1, T, m⟩ r ⟨f2, n2, T2, m2⟩ ∧ n + 1 ≤ n2 ∧ m ≤ m2 ∧ f2 n = some (.loop N t2 ps asg body st pend) ∧ st ≠ .busy ∧ LoopEnd pend e ∧
      Q e ⟨t, ⟨fun j => if j = n then none else f2 j, n2, T2, m2⟩⟩) : Wp P N (.rfun g ps x y) ⟨t, ⟨f, n, T, m⟩⟩ Q := by
  intro code hc
  obtain ⟨z, qs, asg, body, rfl, c1, c2, c3, c4, c5, c6⟩ := code_rfun hc
  obtain ⟨r, f2, n2, T2, m2, t2, st, pend, e, hcall, hn2, hm2, ho2, hst, hle, hq⟩ := hw asg body c3 c4 c5 c6
  refine ⟨e, _, ⟨⟨by simp only; omega, by simp only; omega⟩, fun ro okc G w a rel F => ?_⟩, hq⟩
  obtain rfl : ro = none := by
    rcases okc with h | h
    · exact h
    · simp [noRF] at h
  have hz : VRel G w (.clo (.func fi) first caps) (a.eval z) := by rw [← hg]; exact opd_rel c1 rel.t
  simp only [VRel] at hz
  obtain ⟨vs, us, hz, hv1, hv2⟩ := hz
  refine wpIn_rangeFunc (F := rd none) (n := 0) fun fid _ => ?_
  let D := w.heap.size
  let rec0 : Loop := { state := .ready, pending := none, fn := fid, tmps := a.tmps, params := qs, assign := asg, body := body, defers := w.heap.size }
  let w1 := (w.alloc (.deferred (some []))).alloc (.loop rec0)
  have hD1 : w1.heap[D]? = some (.deferred (some [])) := by
    show ((w.heap.push (.deferred (some []))).push (.loop rec0))[w.heap.size]? = _
    rw [Array.getElem?_push, if_neg (by simp), Array.getElem?_push, if_pos rfl]
  have hL1 : w1.heap[D + 1]? = some (.loop rec0) := by
    show ((w.heap.push (.deferred (some []))).push (.loop rec0))[w.heap.size + 1]? = _
    rw [Array.getElem?_push, if_pos (by simp)]
  have hsz1 : w1.heap.size = w.heap.size + 2 := by show ((w.heap.push (.deferred (some []))).push (.loop rec0)).size = _; simp
  have hold : ∀ B, B < w.heap.size → w1.heap[B]? = w.heap[B]? := by
    intro B hB
    show ((w.heap.push (.deferred (some []))).push (.loop rec0))[B]? = _
    rw [Array.getElem?_push, if_neg (by rw [Array.size_push]; omega), Array.getElem?_push, if_neg (by omega)]
  have hndom : ¬ G.dom n := F.1 n (Nat.le_refl _) (by simp only; omega)
  let G1 : Ghost := { G with dom := fun j => G.dom j ∨ j = n, ι := upd G.ι n (D + 1), own := fun B => G.own B ∨ B = D + 1 }
  have hι1 : ∀ j, G.dom j → G1.ι j = G.ι j := fun j hj => by
    simp only [G1, upd]; rw [if_neg]; rintro rfl; exact hndom hj
  have hιn : G1.ι n = D + 1 := by simp [G1, upd]
  have hne : ∀ j o, f j = some o → j ≠ n := fun j o h e => by subst e; rw [hfresh] at h; cases h
  have hO : ∀ B, B < w.heap.size → H.O ⟨upd f n (some (.loop N t ps asg body .ready none)), n + 1, T, m⟩ G1 B → H.O ⟨f, n, T, m⟩ G B := by
    rintro B hB ⟨j, o, h1, h2⟩
    by_cases e' : j = n
    · subst e'; rw [hιn] at h2; omega
    · have h1' : f j = some o := by simpa [upd, e'] using h1
      exact ⟨j, o, h1', by rw [← hι1 j (rel.h.obj j o h1').1]; exact h2⟩
  have Tr1 : Trans G w ⟨f, n, T, m⟩ G1 w1 ⟨upd f n (some (.loop N t ps asg body .ready none)), n + 1, T, m⟩ := by
    constructor
    · exact fun _ x => .inl x
    · rintro j (h | rfl)
      · exact .inl h
      · exact .inr ⟨Nat.le_refl _, Nat.lt_succ_self _⟩
    · exact hι1
    · exact fun _ x => x
    · exact fun _ => .inl
    · exact fun _ _ => rfl
    · exact Nat.le_succ _
    · exact Nat.le_refl _
    · rw [hsz1]; omega
    · rfl
    · rfl
    · intro B hB; rw [hold B hB]; exact SameForm.refl _
    · exact fun B hB _ _ => hold B hB
    · intro B hB _
      exact ⟨fun h => h.resolve_right (by omega), .inl⟩
    · exact fun _ _ _ _ => rfl
    · intro B hB h1 h2 e' he'
      refine ⟨fun j hj => ?_, fun e'' he'' => ?_⟩
      · have := hold B hB
        unfold World.cell?
        simp only [this]
      · have he2 : G.lim B = some e'' := he''
        rw [he'] at he2; cases he2; exact Nat.le_refl _
    · exact hO
    · exact fun _ _ h => h
    · intro j o h
      by_cases e' : j = n
      · subst e'; exact .inr ⟨Nat.le_refl _, Nat.lt_succ_self _⟩
      · exact .inl ⟨o, by simpa [upd, e'] using h⟩
    · exact fun _ => .inl
  have R1 : RepH G1 ⟨upd f n (some (.loop N t ps asg body .ready none)), n + 1, T, m⟩ w1 := by
    refine ⟨fun j o h => ?_, fun i j o o' h1 h2 h3 => ?_, fun k hk => ⟨(rel.h.tok k hk).1, fun B e' he' => ?_⟩, rel.h.tinj⟩
    · by_cases e' : j = n
      · subst e'
        have : o = .loop N t ps asg body .ready none := by simpa [upd] using h.symm
        subst this
        refine ⟨.inr rfl, by rw [hιn]; exact .inr rfl, by rw [hιn, hsz1]; show w.heap.size + 1 < _; omega, rec0, by rw [hιn]; exact hL1, rel.size, fun i => VRel.mono rel.h Tr1 _ _ (rel.t i), c2, rfl, rfl, rfl, rfl⟩
      · have h' : f j = some o := by simpa [upd, e'] using h
        obtain ⟨a1, a2, a3, a4⟩ := rel.h.obj j o h'
        refine ⟨.inl a1, by rw [hι1 j a1]; exact .inl a2, by rw [hι1 j a1, hsz1]; omega, ?_⟩
        rw [hι1 j a1, hold _ a3]
        exact a4.mono rel.h Tr1
    · have low : ∀ k p, f k = some p → G1.ι k < w.heap.size := fun k p hk => by rw [hι1 k (rel.h.obj k p hk).1]; exact (rel.h.obj k p hk).2.2.1
      by_cases e1 : i = n
      · by_cases e2 : j = n
        · rw [e1, e2]
        · have := low j o' (by simpa [upd, e2] using h2)
          rw [← h3, e1, hιn] at this
          omega
      · have hi : f i = some o := by simpa [upd, e1] using h1
        by_cases e2 : j = n
        · have := low i o hi
          rw [h3, e2, hιn] at this
          omega
        · have hj : f j = some o' := by simpa [upd, e2] using h2
          exact rel.h.inj i j o o' hi hj (by rw [← hι1 i (rel.h.obj i o hi).1, ← hι1 j (rel.h.obj j o' hj).1]; exact h3)
    · obtain ⟨b1, b2, b3⟩ := (rel.h.tok k hk).2 B e' he'
      refine ⟨b1, ?_, by rw [hsz1]; omega⟩
      rintro (h | h)
      · exact b2 h
      · omega
  have F1 : Fresh G1 ⟨upd f n (some (.loop N t ps asg body .ready none)), n + 1, T, m⟩ ⟨f2, n2, T2, m2⟩ := F.step Tr1
  have hargs : VRels G1 w1 (first ++ [.yld n] ++ caps) (vs ++ [Value.func (.yield (D + 1)) #[] #[]] ++ us) := by
    refine VRels.append (VRels.append (VRels.mono rel.h Tr1 _ _ hv1) ?_) (VRels.mono rel.h Tr1 _ _ hv2)
    simp only [VRels, VRel]
    exact ⟨_, [], rfl, ⟨.inr rfl, by rw [hιn]⟩, rfl⟩
  refine ⟨D + 1, [{ target := .collected D, args := #[] }], w1, { target := .fn (.func fi) us.toArray, args := vs.toArray ++ #[Value.func (.yield (D + 1)) #[] #[]] }, w1, fi, (vs ++ [Value.func (.yield (D + 1)) #[] #[]] ++ us).toArray, w1, ?_, ?_, fun _ _ => trivial, ?_, fun h => by simp [rd, Fence.wide] at h, callsIn_rd ?_⟩
  · exact run_enterLoop_outer fid a.tmps qs asg body
  · have he : ∀ v, a.eval (.const v) = v := fun _ => rfl
    simp [resolve, rangeCall, hz, Deferred.ofValue, he]
  · simp [invoke, run_callFunc w1 hf hfb hfn]
  · refine (hcall G1 w1 _ hargs R1 F1).mono ?_
    rintro e' w3 ⟨v, G3, rfl, T3, R3, V3⟩
    obtain ⟨b1, b2, b3, ⟨st3, pend3, fn3, tmps3, params3, asg3, body3, df3⟩, b4, b5, b6, b7, b8, b9, b10, b11⟩ := R3.obj n _ ho2
    simp only at b10 b11
    subst b11
    have hι3 : G3.ι n = D + 1 := (T3.ι_eq n (.inr rfl)).trans hιn
    rw [hι3] at b3 b4
    have hDO1 : ¬ H.O ⟨upd f n (some (.loop N t ps asg body .ready none)), n + 1, T, m⟩ G1 D := by
      rintro ⟨j, o, h1, h2⟩
      by_cases e' : j = n
      · subst e'; rw [hιn] at h2; omega
      · have h1' : f j = some o := by simpa [upd, e'] using h1
        have := (rel.h.obj j o h1').2.2.1
        rw [hι1 j (rel.h.obj j o h1').1] at h2
        omega
    have hDT1 : ¬ H.T ⟨upd f n (some (.loop N t ps asg body .ready none)), n + 1, T, m⟩ G1 D := by
      rintro ⟨k, hk, e', he'⟩
      have := ((rel.h.tok k hk).2 D e' he').2.2
      omega
    have hDlt : D < w1.heap.size := by rw [hsz1]; show w.heap.size < _; omega
    have hD3 : w3.heap[D]? = some (.deferred (some [])) := (T3.keep D hDlt hDO1 hDT1).trans hD1
    have hDO3 : ¬ H.O ⟨f2, n2, T2, m2⟩ G3 D := fun h => hDO1 (T3.O_new D hDlt h)
    have hDT3 : ¬ H.T ⟨f2, n2, T2, m2⟩ G3 D := fun h => hDT1 (T3.T_new D hDlt h)
    refine ⟨pend3, _, run_endLoop b4 (by simp only; rw [b10]; exact hst), ?_⟩
    let w4 := w3.putObj (D + 1) (.loop ⟨.exhausted, pend3, fn3, tmps3, params3, asg3, body3, df3⟩)
    have tu : Turned (D + 1) w3 w4 := ⟨by simp [w4], fun B hB => World.putObj_heap_other hB, fun c T fr e => absurd (b4.symm.trans e) (by simp), rfl, rfl⟩
    have hle3 : HLe ⟨f2, n2, T2, m2⟩ ⟨fun j => if j = n then none else f2 j, n2, T2, m2⟩ := by
      refine ⟨fun j o' hj => ?_, fun t h => h⟩
      simp only at hj
      split at hj
      · cases hj
      · exact ⟨o', hj, OSub.refl _⟩
    have T03 : Trans G w ⟨f, n, T, m⟩ G3 w3 ⟨fun j => if j = n then none else f2 j, n2, T2, m2⟩ := (Tr1.trans rel.h R1 T3).trans rel.h R3 (Trans.le hle3 (Nat.le_refl _) (Nat.le_refl _))
    have R03 := R3.le hle3
    have hLO : ¬ H.O ⟨fun j => if j = n then none else f2 j, n2, T2, m2⟩ G3 (D + 1) := by
      rintro ⟨j, o, h1, h2⟩
      simp only at h1
      split at h1
      · cases h1
      · rename_i hjn
        exact hjn (R3.inj j n o _ h1 ho2 (by rw [h2, hι3]))
    have T04 := T03.turn tu (by show w.heap.size ≤ w.heap.size + 1; omega)
    have R04 := R03.turn tu hLO
    have hD4 : w4.heap[D]? = some (.deferred (some [])) := by rw [tu.same D (by omega)]; exact hD3
    have relEnd : Rel N ⟨t, ⟨fun j => if j = n then none else f2 j, n2, T2, m2⟩⟩ G3 w4 { a with defers := [({ target := .collected D, args := #[] } : Deferred)] ++ a.defers } := by
      refine ⟨rel.size, fun i => VRel.turn tu _ _ (VRel.mono rel.h T03 _ _ (rel.t i)), R04, ?_, ?_⟩
      · show ([({ target := .collected D, args := #[] } : Deferred)] ++ a.defers).Nodup
        rw [List.singleton_append, List.nodup_cons]
        refine ⟨fun hm => ?_, rel.df.1⟩
        obtain ⟨D', e', h1, -⟩ := rel.df.2 _ hm
        simp only [Deferred.mk.injEq, Target.collected.injEq, and_true] at e'
        have := heap_lt h1
        rw [← e'] at this
        exact absurd this (Nat.lt_irrefl _)
      · intro d hd
        rcases List.mem_append.1 hd with hd | hd
        · rw [List.mem_singleton.1 hd]
          exact ⟨D, rfl, hD4, fun ⟨j, o, h1, h2⟩ => by
            simp only at h1
            split at h1
            · cases h1
            · exact hDO3 ⟨j, o, h1, h2⟩, hDT3⟩
        · exact (rel.df.mono T04).2 d hd
    have hnew : NewM w a.defers ([({ target := .collected D, args := #[] } : Deferred)] ++ a.defers) := by
      intro d hd
      rcases List.mem_append.1 hd with hd | hd
      · rw [List.mem_singleton.1 hd]; exact .inr ⟨D, Nat.le_refl _, rfl⟩
      · exact .inl hd
    cases hle with
    | none => exact ⟨trivial, hnew, G3, T04, relEnd⟩
    | ret => exact wpIn_ret ⟨trivial, hnew, G3, T04, relEnd⟩
    | exit i => exact wpIn_exit ⟨rfl, hnew, G3, T04, relEnd⟩
    | goto l => exact wpIn_goto ⟨rfl, hnew, G3, T04, relEnd⟩
end
end Go.Av
end
section
set_option linter.unusedVariables false
set_option linter.unusedSimpArgs false
namespace Go.Av
section
variable {P : Program} {N : Nat} {o : Oper} {t : Tm} {h : H} {en : Ent}
end
end Go.Av
end
section
set_option linter.unusedSimpArgs false
set_option linter.unusedVariables false
set_option maxRecDepth 10000
namespace Go.Proofs.Ytobokfclaooloaa.Space
open Go Go.Av Go.Proofs Go.Proofs.Ytobokfclaooloaa.C Go.Proofs.Ytobokfclaooloaa.Batch
abbrev Bs := List UInt8
structure Ver where
  t : Int
  v : Bs
  d : Bool
  deriving DecidableEq
instance : Inhabited Ver := ⟨⟨0, [], false⟩⟩
def encV (x : Ver) : AV := .agg [.int .i64 x.t, .str x.v, .bool x.d]
theorem encV_pure (x : Ver) : isPure (encV x) = true := rfl
theorem vers_pure (l : List Ver) : allPure (l.map encV) = true := Av.allPure_map encV_pure l
def okV (x : Ver) : Bool := decide (1 ≤ x.t) && decide (x.t ≤ 1152921504606846976) && decide ((x.v.length : Int) ≤ 200) && (!x.d || decide (x.v = []))
theorem right_p (x : Ver) : PCalls Try.prog 54 [encV x] (.bool (okV x)) := by
  refine f54.pcalls0 (by simp) (by simp [allPure, encV_pure]) rfl ?_
  unfold c54
  repeat' (first
    | (refine WpItems.nil ⟨?_, ?_⟩; (· first | trivial | simp [pairsQ, pairsOk, apart, ent0]))
    | (apply WpItems.evU; (· simp only [go_sem, reduceIte, Nat.reduceEqDiff, Nat.reduceAdd, bx, ax, if_true, if_false, Nat.reduceMul, Nat.reduceLeDiff, encV, List.length_map]; exact rfl); (· simp only [go_sem, reduceIte, Nat.reduceEqDiff, Nat.reduceAdd, bx, ax, if_true, if_false, Nat.reduceMul, Nat.reduceLeDiff, encV, List.length_map]; exact rfl))
    | (apply WpItems.part 1; (· simp only [go_sem, reduceIte, Nat.reduceEqDiff, Nat.reduceAdd, bx, ax, if_true, if_false, Nat.reduceMul, Nat.reduceLeDiff, encV, List.length_map]; exact rfl); (try simp only [List.drop_succ_cons, List.drop_zero, List.drop_nil]))
    | (refine WpItems.gsplit_dec (p := ?_) ?_ (fun hc => ?_) (fun hc => ?_); rotate_left; (· simp only [go_sem, reduceIte, Nat.reduceEqDiff, Nat.reduceAdd, bx, ax, if_true, if_false, Nat.reduceMul, Nat.reduceLeDiff, encV, List.length_map]; exact rfl))
    | (refine WpItems.gsplit_ndec (p := ?_) ?_ (fun hc => ?_) (fun hc => ?_); rotate_left; (· simp only [go_sem, reduceIte, Nat.reduceEqDiff, Nat.reduceAdd, bx, ax, if_true, if_false, Nat.reduceMul, Nat.reduceLeDiff, encV, List.length_map]; exact rfl))
    | (refine WpItems.gsplit (b := ?_) ?_ (fun hc => ?_) (fun hc => ?_); rotate_left; (· simp only [go_sem, reduceIte, Nat.reduceEqDiff, Nat.reduceAdd, bx, ax, if_true, if_false, Nat.reduceMul, Nat.reduceLeDiff, encV, List.length_map]; exact rfl))
    | refine Wp.seqRegS ?_
    | refine Wp.regS ?_
    | (refine Wp.cond_true ?_ ?_; (· simp only [go_sem, reduceIte, Nat.reduceEqDiff, Nat.reduceAdd, bx, ax, if_true, if_false, Nat.reduceMul, Nat.reduceLeDiff, encV, List.length_map]))
    | (refine Wp.cond_false ?_ ?_; (· simp only [go_sem, reduceIte, Nat.reduceEqDiff, Nat.reduceAdd, bx, ax, if_true, if_false, Nat.reduceMul, Nat.reduceLeDiff, encV, List.length_map]))
    | (refine Wp.cond_dec (p := ?_) ?_ (fun hc => ?_) (fun hc => ?_); rotate_left; (· simp only [go_sem, reduceIte, Nat.reduceEqDiff, Nat.reduceAdd, bx, ax, if_true, if_false, Nat.reduceMul, Nat.reduceLeDiff, encV, List.length_map]; exact rfl))
    | (refine Wp.cond_ndec (p := ?_) ?_ (fun hc => ?_) (fun hc => ?_); rotate_left; (· simp only [go_sem, reduceIte, Nat.reduceEqDiff, Nat.reduceAdd, bx, ax, if_true, if_false, Nat.reduceMul, Nat.reduceLeDiff, encV, List.length_map]; exact rfl))
    | (refine Wp.cond_split (b := ?_) ?_ (fun hc => ?_) (fun hc => ?_); rotate_left; (· simp only [go_sem, reduceIte, Nat.reduceEqDiff, Nat.reduceAdd, bx, ax, if_true, if_false, Nat.reduceMul, Nat.reduceLeDiff, encV, List.length_map]; exact rfl))
    | refine Wp.skip ?_
    | refine Wp.label ?_
    | refine Wp.block ?_
    | refine Wp.exit ?_
    | refine Wp.seq ?_)
  all_goals
    refine Wp.ret ⟨trivial, _, rfl, ?_⟩
    simp only [go_sem, reduceIte, Nat.reduceEqDiff, Nat.reduceAdd, bx]
    refine VSub.of_eq ?_
    first | (simp_all [okV]; done) | (simp_all [okV]; intros; exfalso; omega)
def vOk (l : List Ver) (i : Nat) : Bool := okV (l.getD i default) && (decide (i = 0) || decide ((l.getD i default).t < (l.getD (i - 1) default).t))
def chB (l : List Ver) : Bool := (List.range l.length).all (vOk l)
theorem vOk_zero {l : List Ver} {j : Nat} (h : j = 0) : vOk l j = okV (l.getD j default) := by simp [vOk, h]
theorem vOk_pos {l : List Ver} {j : Nat} (h : j ≠ 0) : vOk l j = (okV (l.getD j default) && decide ((l.getD j default).t < (l.getD (j - 1) default).t)) := by simp [vOk, h]
set_option maxHeartbeats 1000000 in
theorem check_p (l : List Ver) (hl : l.length ≤ 1152921504606846976) : PCalls Try.prog 36 [.sl 3 (l.map encV) .any] (.int .i64 (if chB l then 0 else 4)) := by
  refine f36.pcalls0 (by simp) (by simp [allPure, isPure, capPure, vers_pure]) rfl ?_
  unfold c36
  repeat' (first
    | (refine WpItems.nil ⟨?_, ?_⟩; (· first | trivial | simp [pairsQ, pairsOk, apart, ent0]))
    | (apply WpItems.evU; (· simp only [go_sem, reduceIte, Nat.reduceEqDiff, Nat.reduceAdd, bx, ax, if_true, if_false, Nat.reduceMul, Nat.reduceLeDiff, List.length_map]; exact rfl); (· simp only [go_sem, reduceIte, Nat.reduceEqDiff, Nat.reduceAdd, bx, ax, if_true, if_false, Nat.reduceMul, Nat.reduceLeDiff, List.length_map]; exact rfl))
    | (apply WpItems.part 1; (· simp only [go_sem, reduceIte, Nat.reduceEqDiff, Nat.reduceAdd, bx, ax, if_true, if_false, Nat.reduceMul, Nat.reduceLeDiff, List.length_map]; exact rfl); (try simp only [List.drop_succ_cons, List.drop_zero, List.drop_nil]))
    | (refine WpItems.gsplit_dec (p := ?_) ?_ (fun hc => ?_) (fun hc => ?_); rotate_left; (· simp only [go_sem, reduceIte, Nat.reduceEqDiff, Nat.reduceAdd, bx, ax, if_true, if_false, Nat.reduceMul, Nat.reduceLeDiff, List.length_map]; exact rfl))
    | (refine WpItems.gsplit_ndec (p := ?_) ?_ (fun hc => ?_) (fun hc => ?_); rotate_left; (· simp only [go_sem, reduceIte, Nat.reduceEqDiff, Nat.reduceAdd, bx, ax, if_true, if_false, Nat.reduceMul, Nat.reduceLeDiff, List.length_map]; exact rfl))
    | (refine WpItems.gsplit (b := ?_) ?_ (fun hc => ?_) (fun hc => ?_); rotate_left; (· simp only [go_sem, reduceIte, Nat.reduceEqDiff, Nat.reduceAdd, bx, ax, if_true, if_false, Nat.reduceMul, Nat.reduceLeDiff, List.length_map]; exact rfl))
    | refine Wp.seqRegS ?_
    | refine Wp.regS ?_
    | (refine Wp.cond_true ?_ ?_; (· simp only [go_sem, reduceIte, Nat.reduceEqDiff, Nat.reduceAdd, bx, ax, if_true, if_false, Nat.reduceMul, Nat.reduceLeDiff, List.length_map]))
    | (refine Wp.cond_false ?_ ?_; (· simp only [go_sem, reduceIte, Nat.reduceEqDiff, Nat.reduceAdd, bx, ax, if_true, if_false, Nat.reduceMul, Nat.reduceLeDiff, List.length_map]))
    | (refine Wp.cond_dec (p := ?_) ?_ (fun hc => ?_) (fun hc => ?_); rotate_left; (· simp only [go_sem, reduceIte, Nat.reduceEqDiff, Nat.reduceAdd, bx, ax, if_true, if_false, Nat.reduceMul, Nat.reduceLeDiff, List.length_map]; exact rfl))
    | (refine Wp.cond_ndec (p := ?_) ?_ (fun hc => ?_) (fun hc => ?_); rotate_left; (· simp only [go_sem, reduceIte, Nat.reduceEqDiff, Nat.reduceAdd, bx, ax, if_true, if_false, Nat.reduceMul, Nat.reduceLeDiff, List.length_map]; exact rfl))
    | (refine Wp.cond_split (b := ?_) ?_ (fun hc => ?_) (fun hc => ?_); rotate_left; (· simp only [go_sem, reduceIte, Nat.reduceEqDiff, Nat.reduceAdd, bx, ax, if_true, if_false, Nat.reduceMul, Nat.reduceLeDiff, List.length_map]; exact rfl))
    | refine Wp.skip ?_
    | refine Wp.label ?_
    | refine Wp.block ?_
    | refine Wp.exit ?_
    | refine Wp.seq ?_)
  refine Wp.loopN [0, 5, 6] (by simp only [go_sem, reduceIte, Nat.reduceEqDiff, List.map, List.length_map]; exact rfl) (fun j : Nat => [(7, .int .i64 j)]) (fun j => j ≤ l.length ∧ ∀ i, i < j → vOk l i = true) (fun j => l.length - j) 0 ⟨Nat.zero_le _, fun i h => absurd h (by omega)⟩ ?_ ?_
  · simp only [AllSub, go_sem, reduceIte, Nat.reduceEqDiff, Nat.reduceAdd, bx]; and_intros <;> first | exact trivial | exact VSub.refl _ | exact VSub.any _ | (refine VSub.int ?_; omega)
  rintro j n hn ⟨hj, hs⟩
  by_cases hc : j < l.length
  · have g1 : decide (((j : Nat) : Int) < ((l.length : Nat) : Int)) = true := decide_eq_true (by omega)
    have h2 : (0 : Int) ≤ ((j : Nat) : Int) := by omega
    have h3 : ((j : Nat) : Int) < ((l.length : Nat) : Int) := by omega
    have e1 : IntKind.i64.wrap (((j : Nat) : Int) + 1) = ((j + 1 : Nat) : Int) := by rw [IntWalk.i64_in _ (by omega)]; omega
    have hat := enc_at encV l j .any hc
    by_cases hz : j = 0
    · have g2 : decide ((0 : Int) < (j : Int)) = false := decide_eq_false (by omega)
      cases hr : okV (l.getD j default)
      · repeat (first
          | ((first | apply Wp.seqItems | apply Wp.items | ((first
              | (refine WpItems.pcall ?_ ?_ (right_p (l.getD j default)) ?_; (· simp only [go_sem, reduceIte, Nat.reduceEqDiff, Nat.reduceAdd, bx]); (· simp only [go_sem, reduceIte, Nat.reduceEqDiff, Nat.reduceAdd, bx, List.map]; first | exact VSubs.refl _ | (repeat (first | exact VSubs.nil | refine VSubs.cons (by first | exact VSub.refl _ | assumption | exact VSub.cap | exact VSub.any _) ?_))))); apply WpItems.eval)); (· simp only [go_sem, reduceIte, Nat.reduceEqDiff, Nat.reduceAdd, bx, ax, if_true, if_false, Nat.reduceMul, Nat.reduceLeDiff, g1, g2, h2, h3, e1, Int.toNat_natCast, List.length_map, hat, encV, hr]; exact rfl))
          | (refine WpItems.nil ⟨?_, ?_⟩; (· first | trivial | simp [pairsQ, pairsOk, apart, ent0]))
          | (apply Wp.cond_lit; (· simp only [go_sem, reduceIte, Nat.reduceEqDiff, Nat.reduceAdd, bx, ax, if_true, if_false, Nat.reduceMul, Nat.reduceLeDiff, g1, g2, h2, h3, e1, Int.toNat_natCast, List.length_map, hat, encV, hr]; exact rfl); (· rfl))
          | refine Wp.skip ?_
          | refine Wp.label ?_
          | refine Wp.block ?_
          | refine Wp.exit ?_
          | refine Wp.seq ?_)
        refine Wp.ret ⟨trivial, _, rfl, ?_⟩
        simp only [go_sem, reduceIte, Nat.reduceEqDiff, Nat.reduceAdd, bx]
        rw [chB, all_no hc ((vOk_zero hz).trans hr)]; exact VSub.refl _
      · repeat (first
          | ((first | apply Wp.seqItems | apply Wp.items | ((first
              | (refine WpItems.pcall ?_ ?_ (right_p (l.getD j default)) ?_; (· simp only [go_sem, reduceIte, Nat.reduceEqDiff, Nat.reduceAdd, bx]); (· simp only [go_sem, reduceIte, Nat.reduceEqDiff, Nat.reduceAdd, bx, List.map]; first | exact VSubs.refl _ | (repeat (first | exact VSubs.nil | refine VSubs.cons (by first | exact VSub.refl _ | assumption | exact VSub.cap | exact VSub.any _) ?_))))); apply WpItems.eval)); (· simp only [go_sem, reduceIte, Nat.reduceEqDiff, Nat.reduceAdd, bx, ax, if_true, if_false, Nat.reduceMul, Nat.reduceLeDiff, g1, g2, h2, h3, e1, Int.toNat_natCast, List.length_map, hat, encV, hr]; exact rfl))
          | (refine WpItems.nil ⟨?_, ?_⟩; (· first | trivial | simp [pairsQ, pairsOk, apart, ent0]))
          | (apply Wp.cond_lit; (· simp only [go_sem, reduceIte, Nat.reduceEqDiff, Nat.reduceAdd, bx, ax, if_true, if_false, Nat.reduceMul, Nat.reduceLeDiff, g1, g2, h2, h3, e1, Int.toNat_natCast, List.length_map, hat, encV, hr]; exact rfl); (· rfl))
          | refine Wp.skip ?_
          | refine Wp.label ?_
          | refine Wp.block ?_
          | refine Wp.exit ?_
          | refine Wp.seq ?_)
        refine ⟨j + 1, n + 1, by omega, ⟨by omega, all_step hs ((vOk_zero hz).trans hr)⟩, by omega, ?_⟩
        refine StLe.tmN (by omega) (OLe.none _) (by simp only [AllSub, go_sem, reduceIte, Nat.reduceEqDiff, Nat.reduceAdd, bx]; and_intros <;> first | exact trivial | exact VSub.refl _ | exact VSub.any _ | (refine VSub.int ?_; omega))
    · have g2 : decide ((0 : Int) < (j : Int)) = true := decide_eq_true (by omega)
      have e2 : IntKind.i64.wrap ((j : Int) - 1) = ((j - 1 : Nat) : Int) := by rw [IntWalk.i64_in _ (by omega)]; omega
      have h4 : (0 : Int) ≤ ((j - 1 : Nat) : Int) := by omega
      have h5 : ((j - 1 : Nat) : Int) < (l.length : Int) := by omega
      have hat2 := enc_at encV l (j - 1) .any (by omega)
      cases hr : okV (l.getD j default)
      · repeat (first
          | ((first | apply Wp.seqItems | apply Wp.items | ((first
              | (refine WpItems.pcall ?_ ?_ (right_p (l.getD j default)) ?_; (· simp only [go_sem, reduceIte, Nat.reduceEqDiff, Nat.reduceAdd, bx]); (· simp only [go_sem, reduceIte, Nat.reduceEqDiff, Nat.reduceAdd, bx, List.map]; first | exact VSubs.refl _ | (repeat (first | exact VSubs.nil | refine VSubs.cons (by first | exact VSub.refl _ | assumption | exact VSub.cap | exact VSub.any _) ?_))))); apply WpItems.eval)); (· simp only [go_sem, reduceIte, Nat.reduceEqDiff, Nat.reduceAdd, bx, ax, if_true, if_false, Nat.reduceMul, Nat.reduceLeDiff, g1, g2, h2, h3, e1, Int.toNat_natCast, List.length_map, hat, encV, hr]; exact rfl))
          | (refine WpItems.nil ⟨?_, ?_⟩; (· first | trivial | simp [pairsQ, pairsOk, apart, ent0]))
          | (apply Wp.cond_lit; (· simp only [go_sem, reduceIte, Nat.reduceEqDiff, Nat.reduceAdd, bx, ax, if_true, if_false, Nat.reduceMul, Nat.reduceLeDiff, g1, g2, h2, h3, e1, Int.toNat_natCast, List.length_map, hat, encV, hr]; exact rfl); (· rfl))
          | refine Wp.skip ?_
          | refine Wp.label ?_
          | refine Wp.block ?_
          | refine Wp.exit ?_
          | refine Wp.seq ?_)
        refine Wp.ret ⟨trivial, _, rfl, ?_⟩
        simp only [go_sem, reduceIte, Nat.reduceEqDiff, Nat.reduceAdd, bx]
        rw [chB, all_no hc ((vOk_pos hz).trans (by rw [hr]; rfl))]; exact VSub.refl _
      · cases hp : decide ((l.getD (j - 1) default).t ≤ (l.getD j default).t)
        · have hlt : (l.getD j default).t < (l.getD (j - 1) default).t := by simp only [decide_eq_false_iff_not] at hp; omega
          repeat (first
            | ((first | apply Wp.seqItems | apply Wp.items | ((first
                | (refine WpItems.pcall ?_ ?_ (right_p (l.getD j default)) ?_; (· simp only [go_sem, reduceIte, Nat.reduceEqDiff, Nat.reduceAdd, bx]); (· simp only [go_sem, reduceIte, Nat.reduceEqDiff, Nat.reduceAdd, bx, List.map]; first | exact VSubs.refl _ | (repeat (first | exact VSubs.nil | refine VSubs.cons (by first | exact VSub.refl _ | assumption | exact VSub.cap | exact VSub.any _) ?_))))); apply WpItems.eval)); (· simp only [go_sem, reduceIte, Nat.reduceEqDiff, Nat.reduceAdd, bx, ax, if_true, if_false, Nat.reduceMul, Nat.reduceLeDiff, g1, g2, h2, h3, h4, h5, e1, e2, Int.toNat_natCast, List.length_map, hat, hat2, encV, hr, hp]; exact rfl))
            | (refine WpItems.nil ⟨?_, ?_⟩; (· first | trivial | simp [pairsQ, pairsOk, apart, ent0]))
            | (apply Wp.cond_lit; (· simp only [go_sem, reduceIte, Nat.reduceEqDiff, Nat.reduceAdd, bx, ax, if_true, if_false, Nat.reduceMul, Nat.reduceLeDiff, g1, g2, h2, h3, h4, h5, e1, e2, Int.toNat_natCast, List.length_map, hat, hat2, encV, hr, hp]; exact rfl); (· rfl))
            | refine Wp.skip ?_
            | refine Wp.label ?_
            | refine Wp.block ?_
            | refine Wp.exit ?_
            | refine Wp.seq ?_)
          refine ⟨j + 1, n + 1, by omega, ⟨by omega, all_step hs ((vOk_pos hz).trans (by rw [hr]; simpa using hlt))⟩, by omega, ?_⟩
          refine StLe.tmN (by omega) (OLe.none _) (by simp only [AllSub, go_sem, reduceIte, Nat.reduceEqDiff, Nat.reduceAdd, bx]; and_intros <;> first | exact trivial | exact VSub.refl _ | exact VSub.any _ | (refine VSub.int ?_; omega))
        · have hlt : ¬ (l.getD j default).t < (l.getD (j - 1) default).t := by simp only [decide_eq_true_eq] at hp; omega
          repeat (first
            | ((first | apply Wp.seqItems | apply Wp.items | ((first
                | (refine WpItems.pcall ?_ ?_ (right_p (l.getD j default)) ?_; (· simp only [go_sem, reduceIte, Nat.reduceEqDiff, Nat.reduceAdd, bx]); (· simp only [go_sem, reduceIte, Nat.reduceEqDiff, Nat.reduceAdd, bx, List.map]; first | exact VSubs.refl _ | (repeat (first | exact VSubs.nil | refine VSubs.cons (by first | exact VSub.refl _ | assumption | exact VSub.cap | exact VSub.any _) ?_))))); apply WpItems.eval)); (· simp only [go_sem, reduceIte, Nat.reduceEqDiff, Nat.reduceAdd, bx, ax, if_true, if_false, Nat.reduceMul, Nat.reduceLeDiff, g1, g2, h2, h3, h4, h5, e1, e2, Int.toNat_natCast, List.length_map, hat, hat2, encV, hr, hp]; exact rfl))
            | (refine WpItems.nil ⟨?_, ?_⟩; (· first | trivial | simp [pairsQ, pairsOk, apart, ent0]))
            | (apply Wp.cond_lit; (· simp only [go_sem, reduceIte, Nat.reduceEqDiff, Nat.reduceAdd, bx, ax, if_true, if_false, Nat.reduceMul, Nat.reduceLeDiff, g1, g2, h2, h3, h4, h5, e1, e2, Int.toNat_natCast, List.length_map, hat, hat2, encV, hr, hp]; exact rfl); (· rfl))
            | refine Wp.skip ?_
            | refine Wp.label ?_
            | refine Wp.block ?_
            | refine Wp.exit ?_
            | refine Wp.seq ?_)
          refine Wp.ret ⟨trivial, _, rfl, ?_⟩
          simp only [go_sem, reduceIte, Nat.reduceEqDiff, Nat.reduceAdd, bx]
          rw [chB, all_no hc ((vOk_pos hz).trans (by rw [hr]; simpa using hlt))]; exact VSub.refl _
  · obtain rfl : j = l.length := by omega
    have g1 : decide (((l.length : Nat) : Int) < ((l.length : Nat) : Int)) = false := decide_eq_false (by omega)
    repeat (first
      | ((first | apply Wp.seqItems | apply Wp.items); (· simp only [go_sem, reduceIte, Nat.reduceEqDiff, Nat.reduceAdd, bx, ax, if_true, if_false, Nat.reduceMul, Nat.reduceLeDiff, g1, List.length_map]; exact rfl))
      | (refine WpItems.nil ⟨?_, ?_⟩; (· first | trivial | simp [pairsQ, pairsOk, apart, ent0]))
      | (apply Wp.cond_lit; (· simp only [go_sem, reduceIte, Nat.reduceEqDiff, Nat.reduceAdd, bx, ax, if_true, if_false, Nat.reduceMul, Nat.reduceLeDiff, g1, List.length_map]; exact rfl); (· rfl))
      | refine Wp.skip ?_
      | refine Wp.label ?_
      | refine Wp.block ?_
      | refine Wp.exit ?_
      | refine Wp.seq ?_)
    refine Wp.ret ⟨trivial, _, rfl, ?_⟩
    simp only [go_sem, reduceIte, Nat.reduceEqDiff, Nat.reduceAdd, bx]
    rw [chB, all_yes hs]; exact VSub.refl _
end Go.Proofs.Ytobokfclaooloaa.Space
end
section
set_option linter.unusedSimpArgs false
set_option linter.unusedVariables false
set_option maxRecDepth 10000
namespace Go.Proofs.Ytobokfclaooloaa.Space
open Go Go.Av Go.Proofs Go.Proofs.Ytobokfclaooloaa.C Go.Proofs.Ytobokfclaooloaa.Batch
theorem desc {l : List Ver} (h : chB l = true) {i : Nat} : ∀ {j}, i < j → j < l.length → (l.getD j default).t < (l.getD i default).t
  | 0, hij, _ => absurd hij (by omega)
  | j + 1, hij, hj => by
    have h1 := List.all_eq_true.1 h (j + 1) (List.mem_range.2 hj)
    have h2 : (l.getD (j + 1) default).t < (l.getD j default).t := by
      rw [vOk_pos (by omega)] at h1
      simp only [Bool.and_eq_true, decide_eq_true_eq] at h1
      exact h1.2
    by_cases e : i = j
    · subst e; exact h2
    · exact Int.lt_trans h2 (desc h (by omega) (by omega))
end Go.Proofs.Ytobokfclaooloaa.Space
end
section
set_option linter.unusedSimpArgs false
set_option linter.unusedVariables false
set_option maxRecDepth 10000
namespace Go.Proofs.Ytobokfclaooloaa.Space
open Go Go.Av Go.Proofs Go.Proofs.Ytobokfclaooloaa.C Go.Proofs.Ytobokfclaooloaa.Batch
def addB (l : List Ver) (v : Ver) : List Ver × Int := if chB l = false then ([], 4) else if okV v = false then ([], 2) else if 0 < l.length ∧ v.t ≤ (l.getD 0 default).t then ([], 18) else (v :: l, 0)
theorem same_p (a b : List Ver) (ha : a.length ≤ 1152921504606846976) : PCalls Try.prog 27 [.sl 3 (a.map encV) .any, .sl 3 (b.map encV) .any] (.bool (decide (a = b))) := by
  refine f27.pcalls0 (by simp) (by simp [allPure, isPure, capPure, vers_pure]) rfl ?_
  unfold c27
  by_cases hab : a.length = b.length
  · have g0 : decide ((a.length : Int) = (b.length : Int)) = true := decide_eq_true (by omega)
    repeat (first
      | ((first | apply Wp.seqItemsR | apply Wp.itemsR); (· simp only [go_sem, reduceIte, Nat.reduceEqDiff, Nat.reduceAdd, bx, ax, if_true, if_false, Nat.reduceMul, Nat.reduceLeDiff, g0, List.length_map]; exact rfl))
      | (refine WpItems.nil ⟨?_, ?_⟩; (· first | trivial | simp [pairsQ, pairsOk, apart, ent0]))
      | (apply Wp.cond_lit; (· simp only [go_sem, reduceIte, Nat.reduceEqDiff, Nat.reduceAdd, bx, ax, if_true, if_false, Nat.reduceMul, Nat.reduceLeDiff, g0, List.length_map]; exact rfl); (· rfl))
      | refine Wp.skip ?_
      | refine Wp.label ?_
      | refine Wp.block ?_
      | refine Wp.exit ?_
      | refine Wp.seq ?_)
    refine Wp.loopK [0, 1] (by simp only [go_sem, reduceIte, Nat.reduceEqDiff, Nat.reduceAdd, bx, List.map]; exact rfl) (fun j : Nat => [(5, .int .i64 j)]) (fun j => j ≤ a.length ∧ ∀ i, i < j → a.getD i default = b.getD i default) (fun j => a.length - j) 0 ⟨Nat.zero_le _, fun i h => absurd h (by omega)⟩ ?_ ?_
    · simp only [AllSub, go_sem, reduceIte, Nat.reduceEqDiff, Nat.reduceAdd, bx]; and_intros <;> first | exact trivial | exact VSub.refl _ | exact VSub.any _ | (refine VSub.int ?_; omega)
    rintro j ⟨hj, hs⟩
    by_cases hc : j < a.length
    · have g1 : decide (((j : Nat) : Int) < ((a.length : Nat) : Int)) = true := decide_eq_true (by omega)
      have h2 : (0 : Int) ≤ ((j : Nat) : Int) := by omega
      have h3 : ((j : Nat) : Int) < ((a.length : Nat) : Int) := by omega
      have e1 : IntKind.i64.wrap (((j : Nat) : Int) + 1) = ((j + 1 : Nat) : Int) := by rw [IntWalk.i64_in _ (by omega)]; omega
      have h3' : (j : Int) < (b.length : Int) := by omega
      have hat := enc_at encV a j .any hc
      have hat2 := enc_at encV b j .any (by omega)
      have he : ∀ (x y : Ver), (decide (x.t = y.t) && (decide (x.v = y.v) && (x.d == y.d))) = decide (x = y) := by
        rintro ⟨x1, x2, x3⟩ ⟨y1, y2, y3⟩
        rw [Bool.eq_iff_iff]; simp
      cases hp : decide (a.getD j default = b.getD j default) with
      | true =>
        have hp' := (he _ _).trans hp
        repeat (first
          | ((first | apply Wp.seqItemsR | apply Wp.itemsR); (· simp only [go_sem, reduceIte, Nat.reduceEqDiff, Nat.reduceAdd, bx, ax, if_true, if_false, Nat.reduceMul, Nat.reduceLeDiff, g1, h2, h3, h3', e1, hp', Int.toNat_natCast, List.length_map, hat, hat2, encV]; exact rfl))
          | (refine WpItems.nil ⟨?_, ?_⟩; (· first | trivial | simp [pairsQ, pairsOk, apart, ent0]))
          | (apply Wp.cond_lit; (· simp only [go_sem, reduceIte, Nat.reduceEqDiff, Nat.reduceAdd, bx, ax, if_true, if_false, Nat.reduceMul, Nat.reduceLeDiff, g1, h2, h3, h3', e1, hp', Int.toNat_natCast, List.length_map, hat, hat2, encV]; exact rfl); (· rfl))
          | refine Wp.skip ?_
          | refine Wp.label ?_
          | refine Wp.block ?_
          | refine Wp.exit ?_
          | refine Wp.seq ?_)
        refine ⟨j + 1, ⟨by omega, fun i hi => ?_⟩, by omega, ?_⟩
        · by_cases e : i = j
          · subst e; exact of_decide_eq_true hp
          · exact hs i (by omega)
        · refine StLe.tm (by simp only [AllSub, go_sem, reduceIte, Nat.reduceEqDiff, Nat.reduceAdd, bx]; and_intros <;> first | exact trivial | exact VSub.refl _ | exact VSub.any _ | (refine VSub.int ?_; omega))
      | false =>
        have hp' := (he _ _).trans hp
        repeat (first
          | ((first | apply Wp.seqItemsR | apply Wp.itemsR); (· simp only [go_sem, reduceIte, Nat.reduceEqDiff, Nat.reduceAdd, bx, ax, if_true, if_false, Nat.reduceMul, Nat.reduceLeDiff, g1, h2, h3, h3', e1, hp', Int.toNat_natCast, List.length_map, hat, hat2, encV]; exact rfl))
          | (refine WpItems.nil ⟨?_, ?_⟩; (· first | trivial | simp [pairsQ, pairsOk, apart, ent0]))
          | (apply Wp.cond_lit; (· simp only [go_sem, reduceIte, Nat.reduceEqDiff, Nat.reduceAdd, bx, ax, if_true, if_false, Nat.reduceMul, Nat.reduceLeDiff, g1, h2, h3, h3', e1, hp', Int.toNat_natCast, List.length_map, hat, hat2, encV]; exact rfl); (· rfl))
          | refine Wp.skip ?_
          | refine Wp.label ?_
          | refine Wp.block ?_
          | refine Wp.exit ?_
          | refine Wp.seq ?_)
        refine Wp.ret ⟨trivial, _, rfl, ?_⟩
        simp only [go_sem, reduceIte, Nat.reduceEqDiff, Nat.reduceAdd, bx]
        rw [decide_eq_false (fun e => of_decide_eq_false hp (by rw [e]))]; exact VSub.refl _
    · obtain rfl : j = a.length := by omega
      have g1 : decide (((a.length : Nat) : Int) < ((a.length : Nat) : Int)) = false := decide_eq_false (by omega)
      repeat (first
        | ((first | apply Wp.seqItemsR | apply Wp.itemsR); (· simp only [go_sem, reduceIte, Nat.reduceEqDiff, Nat.reduceAdd, bx, ax, if_true, if_false, Nat.reduceMul, Nat.reduceLeDiff, g1, List.length_map]; exact rfl))
        | (refine WpItems.nil ⟨?_, ?_⟩; (· first | trivial | simp [pairsQ, pairsOk, apart, ent0]))
        | (apply Wp.cond_lit; (· simp only [go_sem, reduceIte, Nat.reduceEqDiff, Nat.reduceAdd, bx, ax, if_true, if_false, Nat.reduceMul, Nat.reduceLeDiff, g1, List.length_map]; exact rfl); (· rfl))
        | refine Wp.skip ?_
        | refine Wp.label ?_
        | refine Wp.block ?_
        | refine Wp.exit ?_
        | refine Wp.seq ?_)
      refine Wp.ret ⟨trivial, _, rfl, ?_⟩
      simp only [go_sem, reduceIte, Nat.reduceEqDiff, Nat.reduceAdd, bx]
      have : a = b := by
        refine List.ext_getElem hab fun i h1 h2 => ?_
        have := hs i h1
        rwa [getD_el h1, getD_el h2] at this
      rw [decide_eq_true this]; exact VSub.refl _
  · have g0 : decide ((a.length : Int) = (b.length : Int)) = false := decide_eq_false (by omega)
    repeat (first
      | ((first | apply Wp.seqItemsR | apply Wp.itemsR); (· simp only [go_sem, reduceIte, Nat.reduceEqDiff, Nat.reduceAdd, bx, ax, if_true, if_false, Nat.reduceMul, Nat.reduceLeDiff, g0, List.length_map]; exact rfl))
      | (refine WpItems.nil ⟨?_, ?_⟩; (· first | trivial | simp [pairsQ, pairsOk, apart, ent0]))
      | (apply Wp.cond_lit; (· simp only [go_sem, reduceIte, Nat.reduceEqDiff, Nat.reduceAdd, bx, ax, if_true, if_false, Nat.reduceMul, Nat.reduceLeDiff, g0, List.length_map]; exact rfl); (· rfl))
      | refine Wp.skip ?_
      | refine Wp.label ?_
      | refine Wp.block ?_
      | refine Wp.exit ?_
      | refine Wp.seq ?_)
    refine Wp.ret ⟨trivial, _, rfl, ?_⟩
    simp only [go_sem, reduceIte, Nat.reduceEqDiff, Nat.reduceAdd, bx]
    rw [decide_eq_false (fun e => hab (by rw [e]))]; exact VSub.refl _
end Go.Proofs.Ytobokfclaooloaa.Space
end
section
set_option linter.unusedSimpArgs false
set_option linter.unusedVariables false
set_option maxRecDepth 10000
namespace Go.Proofs.Ytobokfclaooloaa.Reads
open Go Go.Av Go.Proofs Go.Proofs.Ytobokfclaooloaa.C Go.Proofs.Ytobokfclaooloaa.Batch
abbrev Bs := List UInt8
structure Sp where
  f : Bs
  t : Bs
  deriving DecidableEq
instance : Inhabited Sp := ⟨⟨[], []⟩⟩
end Go.Proofs.Ytobokfclaooloaa.Reads
end
section
set_option linter.unusedSimpArgs false
set_option linter.unusedVariables false
set_option maxRecDepth 10000
namespace Go.Proofs.Ytobokfclaooloaa.Reads
open Go Go.Av Go.Proofs Go.Proofs.Ytobokfclaooloaa.C Go.Proofs.Ytobokfclaooloaa.Batch
def ix {α : Type} (p : α → Bool) (l : List α) : Int := if l.any p then (l.findIdx p : Nat) else -1
theorem ix_found {α : Type} {p : α → Bool} {l : List α} {j : Nat} (hj : j < l.length) (h : p l[j] = true) (hs : ∀ i (hi : i < l.length), i < j → p l[i] = false) : ix p l = j := by
  have h1 : l.any p = true := List.any_eq_true.2 ⟨l[j], List.getElem_mem hj, h⟩
  have h2 : l.findIdx p = j := (List.findIdx_eq hj).2 ⟨h, fun i hi => hs i (by omega) hi⟩
  simp [ix, h1, h2]
theorem ix_none {α : Type} {p : α → Bool} {l : List α} (hs : ∀ i (hi : i < l.length), p l[i] = false) : ix p l = -1 := by
  have h1 : l.any p = false := by
    rw [List.any_eq_false]
    intro x hx
    obtain ⟨i, hi, rfl⟩ := List.mem_iff_getElem.1 hx
    simp [hs i hi]
  simp [ix, h1]
theorem ix_nonneg {α : Type} {p : α → Bool} {l : List α} : decide (0 ≤ ix p l) = l.any p := by
  unfold ix
  cases l.any p <;> simp
theorem getD_el {α : Type} {l : List α} {i : Nat} {d : α} (h : i < l.length) : l.getD i d = l[i] := by
  rw [List.getD_eq_getElem?_getD, List.getElem?_eq_getElem h]; rfl
end Go.Proofs.Ytobokfclaooloaa.Reads
end
section
set_option linter.unusedSimpArgs false
set_option linter.unusedVariables false
set_option maxRecDepth 10000
namespace Go.Proofs.Ytobokfclaooloaa.Reads
open Go Go.Av Go.Proofs Go.Proofs.Ytobokfclaooloaa.C Go.Proofs.Ytobokfclaooloaa.Batch
end Go.Proofs.Ytobokfclaooloaa.Reads
end
section
set_option linter.unusedSimpArgs false
set_option linter.unusedVariables false
set_option maxRecDepth 10000
namespace Go.Proofs.Ytobokfclaooloaa.Reads
open Go Go.Av Go.Proofs Go.Proofs.Ytobokfclaooloaa.C Go.Lib Go.RowKit
end Go.Proofs.Ytobokfclaooloaa.Reads
end
section
set_option linter.unusedSimpArgs false
set_option linter.unusedVariables false
set_option maxRecDepth 10000
namespace Go.Proofs.Ytobokfclaooloaa.Space
open Go Go.Av Go.Proofs Go.Proofs.Ytobokfclaooloaa.C Go.Proofs.Ytobokfclaooloaa.Reads Go.Lib Go.RowKit
end Go.Proofs.Ytobokfclaooloaa.Space
end
section
set_option linter.unusedVariables false
set_option linter.unusedSimpArgs false
namespace Go.Av
section
variable {P : Program} {N : Nat}
theorem Ends.same {l : List Fr} {n m : Nat} {Q : AV → List Fr → Prop} {q r : AV} {h : H} (ok : Ok l n (ks l) m) (hs : VSub q r) (hk : ∀ j, j < n → h.objs j = lay l j) (hn : n ≤ h.n) (hm : m ≤ h.m) (ht : ∀ t ∈ ks l, t ∈ h.toks) (hq : Q r l) : Ends l n m Q q h r l where
  sub := hs
  ole j o hj := by
    refine ⟨o, ?_, OSub.refl _⟩
    rcases Nat.lt_or_ge j n with e | e
    · rw [hk j e]; exact hj
    · rw [ok.lay_bd e] at hj; cases hj
  tk := ht
  ok := ok.grow hn hm
  new j := by
    cases h : lay l j with
    | none => exact .inr (.inr rfl)
    | some o => exact .inr (.inl rfl)
  knew t ht := .inl ht
  q := hq
theorem Ok.lt {F : Fr} {l : List Fr} {n m j : Nat} {T : List Nat} {o : Obj} (ok : Ok l n T m) (hF : F ∈ l) (h : F.o j = some o) : j < n := by
  rcases Nat.lt_or_ge j n with e | e
  · exact e
  · rw [ok.bd F hF j e] at h; cases h
theorem Ok.at {F : Fr} {A B : List Fr} {n m j : Nat} {T : List Nat} {o : Obj} (ok : Ok (A ++ F :: B) n T m) (h : F.o j = some o) : lay (A ++ F :: B) j = some o := by
  rw [lay_append, lay_cons, h]
  have : lay A j = none := lay_none.2 fun F' hF' => by
    rcases (List.pairwise_append.1 ok.dj).2.2 F' hF' F (by simp) j with e | e
    · exact e
    · rw [e] at h; cases h
  rw [this]; rfl
def Fr.Fin (F : Fr) : Prop := ∃ ids : List Nat, ∀ id, (F.o id).isSome = true → id ∈ ids
theorem Ok.sub {l : List Fr} {n m : Nat} {T : List Nat} (ok : Ok l n T m) {F : Fr} (hF : F ∈ l) : ∀ j o, F.o j = some o → lay l j = some o := by
  intro j o h
  obtain ⟨A, B, rfl⟩ := List.append_of_mem hF
  exact ok.at h
end
end Go.Av
end
section
set_option linter.unusedSimpArgs false
set_option linter.unusedVariables false
set_option maxRecDepth 10000
namespace Go.Proofs.Ytobokfclaooloaa.Space
open Go Go.Av Go.Proofs Go.Proofs.Ytobokfclaooloaa.C Go.Proofs.Ytobokfclaooloaa.Batch
abbrev It := Bs × List Ver
def vAV (v : List Ver) : AV := .sl 3 (v.map encV) .any
def encM (M : List It) : List (AV × AV) := M.map fun p => (.str p.1, vAV p.2)
def mget : List It → Bs → List Ver
  | [], _ => []
  | p :: M, q => if p.1 = q then p.2 else mget M q
def mput : List It → Bs → List Ver → List It
  | [], q, v => [(q, v)]
  | p :: M, q, v => if p.1 = q then (q, v) :: M else p :: mput M q v
def mdel : List It → Bs → List It
  | [], _ => []
  | p :: M, q => if p.1 = q then M else p :: mdel M q
theorem mget_none (q : Bs) : ∀ M : List It, q ∉ M.map (·.1) → mget M q = []
  | [], _ => rfl
  | p :: M, h => by
    simp only [List.map_cons, List.mem_cons, not_or] at h
    have h1 : ¬ p.1 = q := fun e => h.1 e.symm
    simp only [mget, if_neg h1]
    exact mget_none q M h.2
structure Spc where
  L : List It
  last : Int
  mark : Int
structure MapOk (M L : List It) : Prop where
  nd : (M.map (·.1)).Nodup
  eq : ∀ q, mget M q = mget L q
def keysOf (L : List It) : List Bs := L.map (·.1)
def RowIs (K : AV) (keys : List Bs) (o : Objs) (s c : Nat) : Prop :=
  (K = .sl 1 [] (.exact 0) ∧ keys = []) ∨ ∃ k, K = .tsl 1 k 0 keys.length none ∧ o k = some (.cells (strs keys)) ∧ k ≠ s ∧ k ≠ c
structure SpcF (s : Nat) (S : Spc) (F : Fr) : Prop where
  go : ∃ c M K, MapOk M S.L ∧ s ≠ c ∧ F.o s = some (.cells [K, .mp c, .int .i64 S.last, .int .i64 S.mark]) ∧ F.o c = some (.map (encM M)) ∧ RowIs K (keysOf S.L) F.o s c
  k : F.k = []
  fin : F.Fin
def Small (S : Spc) : Prop := S.L.length ≤ 500000 ∧ ∀ q, (mget S.L q).length ≤ 500000
def Wide (S : Spc) : Prop := S.L.length ≤ 500000 ∧ ∀ q, (mget S.L q).length ≤ 4398046511104
theorem Small.wide {S : Spc} (h : Small S) : Wide S := ⟨h.1, fun q => by have := h.2 q; omega⟩
end Go.Proofs.Ytobokfclaooloaa.Space
end
section
set_option linter.unusedSimpArgs false
set_option linter.unusedVariables false
set_option maxRecDepth 10000
namespace Go.Proofs.Ytobokfclaooloaa.Space
open Go Go.Av Go.Proofs Go.Proofs.Ytobokfclaooloaa.C Go.Proofs.Ytobokfclaooloaa.Batch
def Rise (k : List Bs) : Prop := k.Pairwise fun a b => Op.bytesLess a b = true
def plK (k : List Bs) (q : Bs) : Nat := k.findIdx fun x => !Op.bytesLess x q
def thK (k : List Bs) (q : Bs) : Bool := decide (plK k q < k.length) && decide (k.getD (plK k q) [] = q)
theorem plK_le (k : List Bs) (q : Bs) : plK k q ≤ k.length := List.findIdx_le_length
theorem plK_lt {k : List Bs} {q : Bs} {i : Nat} (h : i < plK k q) : Op.bytesLess (k.getD i []) q = true := by
  have hl : i < k.length := Nat.lt_of_lt_of_le h (plK_le k q)
  have := List.not_of_lt_findIdx h
  rw [getD_el hl]
  simpa using this
theorem Rise.at {k : List Bs} (h : Rise k) {i j : Nat} (hij : i < j) (hj : j < k.length) : Op.bytesLess (k.getD i []) (k.getD j []) = true := by
  rw [getD_el hj, getD_el (by omega)]
  exact List.pairwise_iff_getElem.1 h i j (by omega) hj hij
theorem plK_ge {k : List Bs} (hk : Rise k) {q : Bs} {i : Nat} (h : plK k q ≤ i) (hl : i < k.length) : Op.bytesLess (k.getD i []) q = false := by
  have hp : plK k q < k.length := Nat.lt_of_le_of_lt h hl
  have h1 : Op.bytesLess (k.getD (plK k q) []) q = false := by
    have := List.findIdx_getElem (p := fun x => !Op.bytesLess x q) (xs := k) (w := hp)
    rw [getD_el hp]
    have h2 : (!Op.bytesLess (k[plK k q]'hp) q) = true := this
    simpa using h2
  by_cases e : i = plK k q
  · rw [e]; exact h1
  · have h2 := hk.at (i := plK k q) (j := i) (by omega) hl
    cases hc : Op.bytesLess (k.getD i []) q with
    | false => rfl
    | true => rw [less_trans h2 hc] at h1; cases h1
theorem thK_iff {k : List Bs} (h : Rise k) (q : Bs) : thK k q = decide (q ∈ k) := by
  have hp := plK_le k q
  refine Bool.eq_iff_iff.2 ?_
  simp only [thK, Bool.and_eq_true, decide_eq_true_eq]
  constructor
  · rintro ⟨h1, h2⟩
    rw [getD_el h1] at h2
    rw [← h2]; exact List.getElem_mem h1
  · intro hm
    obtain ⟨i, hi, e⟩ := List.mem_iff_getElem.1 hm
    have he : k.getD i [] = q := by rw [getD_el hi]; exact e
    have h1 : ¬ i < plK k q := by
      intro hlt
      have := plK_lt hlt
      rw [he, less_irrefl] at this; cases this
    have h2 : ¬ plK k q < i := by
      intro hlt
      have a1 := h.at hlt hi
      rw [he] at a1
      have a2 := plK_ge (q := q) h (Nat.le_refl _) (Nat.lt_trans hlt hi)
      rw [a1] at a2; cases a2
    have : plK k q = i := by omega
    rw [this]
    exact ⟨hi, he⟩
def setL (L : List It) (q : Bs) (v : List Ver) : List It :=
  if v = [] then (if thK (keysOf L) q = true then L.take (plK (keysOf L) q) ++ L.drop (plK (keysOf L) q + 1) else L)
  else if thK (keysOf L) q = true then L.take (plK (keysOf L) q) ++ (q, v) :: L.drop (plK (keysOf L) q + 1) else L.take (plK (keysOf L) q) ++ (q, v) :: L.drop (plK (keysOf L) q)
def RiseL (L : List It) : Prop := Rise (keysOf L)
theorem mget_app (q : Bs) : ∀ (A B : List It), mget (A ++ B) q = if q ∈ A.map (·.1) then mget A q else mget B q
  | [], B => by simp
  | p :: A, B => by
    simp only [List.cons_append, mget, List.map_cons, List.mem_cons]
    by_cases h : p.1 = q
    · simp [h]
    · have h' : ¬ q = p.1 := fun e => h e.symm
      simp only [if_neg h, h', false_or, mget_app q A B]
theorem setL_get {L : List It} (h : RiseL L) (q : Bs) (v : List Ver) (q' : Bs) : mget (setL L q v) q' = if q = q' then v else mget L q' := by
  have hp := plK_le (keysOf L) q
  have hlen : (keysOf L).length = L.length := by simp [keysOf]
  have hne : ∀ i (hi : i < L.length), i ≠ plK (keysOf L) q → (L[i]).1 ≠ q ∨ thK (keysOf L) q = false := by
    intro i hi hd
    by_cases ht : thK (keysOf L) q = true
    · left
      intro e
      simp only [thK, Bool.and_eq_true, decide_eq_true_eq] at ht
      have e1 : (keysOf L).getD i [] = q := by rw [getD_el (by omega)]; simpa [keysOf] using e
      rcases Nat.lt_or_gt_of_ne hd with hlt | hlt
      · have := h.at hlt ht.1
        rw [ht.2, e1, less_irrefl] at this; cases this
      · have := h.at hlt (by omega)
        rw [ht.2, e1, less_irrefl] at this; cases this
    · exact .inr (by simpa using ht)
  have memk : ∀ x, x ∈ (L.take (plK (keysOf L) q)).map (·.1) → x ≠ q := by
    intro x hx e
    obtain ⟨p, hp1, hp2⟩ := List.mem_map.1 hx
    obtain ⟨i, hi, rfl⟩ := List.mem_iff_getElem.1 hp1
    rw [List.length_take] at hi
    have h2 := plK_lt (k := keysOf L) (q := q) (i := i) (by omega)
    have h3 : (keysOf L).getD i [] = q := by
      rw [getD_el (by omega)]
      refine Eq.trans ?_ (hp2.trans e)
      simp [keysOf]
    rw [h3, less_irrefl] at h2; cases h2
  have hL : L = L.take (plK (keysOf L) q) ++ L.drop (plK (keysOf L) q) := by simp
  by_cases ht : thK (keysOf L) q = true
  · have ht2 := ht
    simp only [thK, Bool.and_eq_true, decide_eq_true_eq] at ht2
    have hlt : plK (keysOf L) q < L.length := by omega
    have hkey : (L[plK (keysOf L) q]).1 = q := by
      have := ht2.2
      rw [getD_el ht2.1] at this
      simpa [keysOf] using this
    have hd : L.drop (plK (keysOf L) q) = L[plK (keysOf L) q] :: L.drop (plK (keysOf L) q + 1) := List.drop_eq_getElem_cons hlt
    have nomem : q ∉ (L.drop (plK (keysOf L) q + 1)).map (·.1) := by
      intro hx
      obtain ⟨p, hp1, hp2⟩ := List.mem_map.1 hx
      obtain ⟨i, hi, rfl⟩ := List.mem_iff_getElem.1 hp1
      rw [List.length_drop] at hi
      rw [List.getElem_drop] at hp2
      rcases hne (plK (keysOf L) q + 1 + i) (by omega) (by omega) with e | e
      · exact e hp2
      · rw [ht] at e; cases e
    by_cases hv : v = []
    · rw [setL, if_pos hv, if_pos ht, mget_app]
      by_cases he : q = q'
      · subst he
        rw [if_neg (fun hm => memk _ hm rfl), if_pos rfl, hv]
        exact mget_none _ _ nomem
      · rw [if_neg he]
        conv => rhs; rw [hL, mget_app, hd]
        simp only [mget, hkey, if_neg he]
    · rw [setL, if_neg hv, if_pos ht, mget_app]
      by_cases he : q = q'
      · subst he
        rw [if_neg (fun hm => memk _ hm rfl), if_pos rfl]
        simp only [mget, if_true]
      · rw [if_neg he]
        conv => rhs; rw [hL, mget_app, hd]
        simp only [mget, hkey, if_neg he]
  · have hq : mget L q = [] := by
      refine mget_none _ _ fun hm => ?_
      have := thK_iff h q
      rw [decide_eq_true (show q ∈ keysOf L from hm)] at this
      exact ht this
    by_cases hv : v = []
    · rw [setL, if_pos hv, if_neg ht]
      by_cases he : q = q'
      · subst he; rw [if_pos rfl, hv, hq]
      · rw [if_neg he]
    · rw [setL, if_neg hv, if_neg ht, mget_app]
      by_cases he : q = q'
      · subst he
        rw [if_neg (fun hm => memk _ hm rfl), if_pos rfl]
        simp only [mget, if_true]
      · rw [if_neg he]
        conv => rhs; rw [hL, mget_app]
        simp only [mget, if_neg he]
end Go.Proofs.Ytobokfclaooloaa.Space
end
section
set_option linter.unusedSimpArgs false
set_option linter.unusedVariables false
set_option maxRecDepth 10000
namespace Go.Proofs.Ytobokfclaooloaa.Space
open Go Go.Av Go.Proofs Go.Proofs.Ytobokfclaooloaa.C Go.Proofs.Ytobokfclaooloaa.Batch
def setS (S : Spc) (q : Bs) (v : List Ver) : Spc := { S with L := setL S.L q v }
end Go.Proofs.Ytobokfclaooloaa.Space
end
section
set_option linter.unusedVariables false
set_option linter.unusedSimpArgs false
namespace Go.Av
section
variable {P : Program} {N : Nat} {Q : AExit → St → Prop}
structure On (l0 : List Fr) (n0 m0 : Nat) (l : List Fr) (n : Nat) (T : List Nat) (m : Nat) : Prop where
  gn : n0 ≤ n
  gm : m0 ≤ m
  ok : Ok l n T m
  wi : Wi l0 n0 l
  ki : Ki l0 m0 l
theorem On.refl {l : List Fr} {n m : Nat} {T : List Nat} (ok : Ok l n T m) : On l n m l n T m := ⟨Nat.le_refl _, Nat.le_refl _, ok, .refl, .refl⟩
theorem On.step {l0 l l' : List Fr} {n0 m0 n m n' m' : Nat} {T T' : List Nat} (a : On l0 n0 m0 l n T m) (b : On l n m l' n' T' m') : On l0 n0 m0 l' n' T' m' :=
  ⟨Nat.le_trans a.gn b.gn, Nat.le_trans a.gm b.gm, b.ok, a.wi.trans a.gn b.wi, a.ki.trans a.gm b.ki⟩
theorem Ok.more {l : List Fr} {n m : Nat} {T : List Nat} (ok : Ok l n T m) (o : Obj) : Ok (ob n o :: l) (n + 1) T m where
  bd F hF j hj := by
    rcases List.mem_cons.1 hF with rfl | hF
    · rw [ob_o, if_neg (by omega)]
    · exact ok.bd F hF j (by omega)
  dj := List.pairwise_cons.2 ⟨fun F hF j => by
    rw [ob_o]
    by_cases e : j = n
    · exact .inr (ok.bd F hF j (by omega))
    · exact .inl (if_neg e), ok.dj⟩
  tk t ht := ok.tk t (by simpa [ks, ob] using ht)
  td := List.pairwise_cons.2 ⟨fun F hF t ht => by simp [ob] at ht, ok.td⟩
  tb := ok.tb
theorem Ok.alone {i : Nat} {o : Obj} {l : List Fr} {n m : Nat} {T : List Nat} (ok : Ok (ob i o :: l) n T m) : lay l i = none := ok.old (by simp [ob_o])
theorem Ok.turn {i : Nat} {o o' : Obj} {l : List Fr} {n m : Nat} {T : List Nat} (ok : Ok (ob i o :: l) n T m) : Ok (ob i o' :: l) n T m := by
  have hi : i < n := ok.lt (by simp) (j := i) (F := ob i o) (o := o) (by simp [ob_o])
  have := ok.put (i := i) (o := o') ok.alone hi
  have e : (⟨upd (ob i o).o i (some o'), (ob i o).k⟩ : Fr) = ob i o' := by
    simp only [ob, Fr.mk.injEq, and_true]
    funext j
    simp only [upd, none']
    split <;> rfl
  rwa [e] at this
theorem On.put {F : Fr} {l : List Fr} {i : Nat} {o : Obj} {n m : Nat} {T : List Nat} (ok : Ok (F :: l) n T m) (h : (F.o i).isSome = true) : On (F :: l) n m (⟨upd F.o i (some o), F.k⟩ :: l) n T m := by
  have hn : i < n := by
    obtain ⟨x, hx⟩ := Option.isSome_iff_exists.1 h
    exact ok.lt (by simp) hx
  refine ⟨Nat.le_refl _, Nat.le_refl _, ok.put (ok.old h) hn, fun j => ?_, fun t ht => .inl (by simpa [ks] using ht)⟩
  simp only [lay, upd]
  by_cases e : j = i
  · subst e
    right; left
    obtain ⟨x, hx⟩ := Option.isSome_iff_exists.1 h
    rw [hx]; rfl
  · rw [if_neg e]
    cases hh : (F.o j).or (lay l j) with
    | none => exact .inr (.inr rfl)
    | some x => exact .inr (.inl rfl)
theorem YCalls.le {id : Nat} {args : List AV} {h h' h'' : H} {r r' : AV} (hc : YCalls P id args h r h') (hs : VSub r r') (hl : HLe h' h'') (n : h'.n = h''.n) (m : h'.m = h''.m) : YCalls P id args h r' h'' := by
  intro G w vs hd hv R F
  obtain ⟨fn, tmps, assign, body, q1, q2⟩ := hc G w vs hd hv R (by unfold Fresh at F ⊢; rwa [n, m])
  refine ⟨fn, tmps, assign, body, q1, q2.mono ?_⟩
  rintro e w' ⟨v, G', rfl, T, R', V⟩
  exact ⟨v, G', rfl, T.trans R R' (Trans.le hl (by omega) (by omega)), R'.le hl, hs G' w' v V⟩
end
end Go.Av
end
section
set_option linter.unusedSimpArgs false
set_option linter.unusedVariables false
set_option maxRecDepth 10000
namespace Go.Proofs.Ytobokfclaooloaa.Space
open Go Go.Av Go.Proofs Go.Proofs.Ytobokfclaooloaa.C Go.Proofs.Ytobokfclaooloaa.Batch
end Go.Proofs.Ytobokfclaooloaa.Space
end
section
set_option linter.unusedSimpArgs false
set_option linter.unusedVariables false
set_option maxRecDepth 10000
namespace Go.Proofs.Ytobokfclaooloaa.Space
open Go Go.Av Go.Proofs Go.Proofs.Ytobokfclaooloaa.C Go.Proofs.Ytobokfclaooloaa.Batch
end Go.Proofs.Ytobokfclaooloaa.Space
end
section
set_option linter.unusedSimpArgs false
set_option linter.unusedVariables false
set_option maxRecDepth 10000
namespace Go.Proofs.Ytobokfclaooloaa.Batch
open Go Go.Av Go.Proofs Go.Proofs.Ytobokfclaooloaa.C
abbrev Bs := List UInt8
structure Pr where
  k : Bs
  v : Bs
  deriving DecidableEq
structure Ch where
  k : Bs
  v : Bs
  d : Bool
  deriving DecidableEq
instance : Inhabited Pr := ⟨⟨[], []⟩⟩
instance : Inhabited Ch := ⟨⟨[], [], false⟩⟩
def encPr (p : Pr) : AV := .agg [.str p.k, .str p.v]
def prs (l : List Pr) : List AV := l.map encPr
theorem prs_length (l : List Pr) : (prs l).length = l.length := by simp [prs]
theorem prs_getD (l : List Pr) (k : Nat) (d : AV) (h : k < l.length) : (prs l).getD k d = encPr (l.getD k default) := by
  simp [prs, List.getD, List.getElem?_map, List.getElem?_eq_getElem h]
theorem allPure_map {α : Type} {f : α → AV} (h : ∀ x, isPure (f x) = true) : ∀ l : List α, allPure (l.map f) = true
  | [] => rfl
  | x :: l => by simp only [List.map_cons, allPure, h x, Bool.true_and]; exact allPure_map h l
theorem prs_pure (l : List Pr) : allPure (prs l) = true := allPure_map (fun x => by simp [encPr, isPure, allPure]) l
def differ : List Pr → List Pr → List Ch
  | [], b => b.map fun p => ⟨p.k, p.v, false⟩
  | x :: a, [] => ⟨x.k, [], true⟩ :: differ a []
  | x :: a, y :: b =>
    if Op.bytesLess x.k y.k then ⟨x.k, [], true⟩ :: differ a (y :: b)
    else if Op.bytesLess y.k x.k then ⟨y.k, y.v, false⟩ :: differ (x :: a) b
    else if x.v = y.v then differ a b else ⟨y.k, y.v, false⟩ :: differ a b
termination_by a b => a.length + b.length
theorem drop_at {α : Type} [Inhabited α] {l : List α} {i : Nat} (h : i < l.length) : l.drop i = l.getD i default :: l.drop (i + 1) := by
  rw [List.drop_eq_getElem_cons h, List.getD_eq_getElem?_getD, List.getElem?_eq_getElem h]; rfl
theorem differ_del {a b : List Pr} {i k : Nat} (hi : i < a.length) (h : b.length ≤ k ∨ k < b.length ∧ Op.bytesLess (a.getD i default).k (b.getD k default).k = true) :
    differ (a.drop i) (b.drop k) = ⟨(a.getD i default).k, [], true⟩ :: differ (a.drop (i + 1)) (b.drop k) := by
  rw [drop_at hi]
  rcases h with h | ⟨h, hl⟩
  · rw [List.drop_eq_nil_of_le h, differ]
  · rw [drop_at h, differ, if_pos hl]
theorem differ_put {a b : List Pr} {i k : Nat} (hk : k < b.length) (h : a.length ≤ i ∨ i < a.length ∧ Op.bytesLess (a.getD i default).k (b.getD k default).k = false ∧ Op.bytesLess (b.getD k default).k (a.getD i default).k = true) :
    differ (a.drop i) (b.drop k) = ⟨(b.getD k default).k, (b.getD k default).v, false⟩ :: differ (a.drop i) (b.drop (k + 1)) := by
  rw [drop_at hk]
  rcases h with h | ⟨h, hl, hg⟩
  · rw [List.drop_eq_nil_of_le h, differ, differ]; rfl
  · rw [drop_at h, differ, hl, hg]
    simp only [Bool.false_eq_true, if_false, if_true]
theorem differ_eq {a b : List Pr} {i k : Nat} (hi : i < a.length) (hk : k < b.length) (h : Op.bytesLess (a.getD i default).k (b.getD k default).k = false) (h2 : Op.bytesLess (b.getD k default).k (a.getD i default).k = false) :
    differ (a.drop i) (b.drop k) = if (a.getD i default).v = (b.getD k default).v then differ (a.drop (i + 1)) (b.drop (k + 1)) else ⟨(b.getD k default).k, (b.getD k default).v, false⟩ :: differ (a.drop (i + 1)) (b.drop (k + 1)) := by
  rw [drop_at hi, drop_at hk, differ, h, h2]
  simp only [Bool.false_eq_true, if_false]
theorem differ_end {a b : List Pr} {i k : Nat} (hi : a.length ≤ i) (hk : b.length ≤ k) : differ (a.drop i) (b.drop k) = [] := by
  rw [List.drop_eq_nil_of_le hi, List.drop_eq_nil_of_le hk, differ]; rfl
end Go.Proofs.Ytobokfclaooloaa.Batch
end
section
set_option linter.unusedSimpArgs false
set_option linter.unusedVariables false
set_option maxRecDepth 10000
namespace Go.Proofs.Ytobokfclaooloaa.Space
open Go Go.Av Go.Proofs Go.Proofs.Ytobokfclaooloaa.C Go.Proofs.Ytobokfclaooloaa.Batch
end Go.Proofs.Ytobokfclaooloaa.Space
end
section
set_option linter.unusedSimpArgs false
set_option linter.unusedVariables false
set_option maxRecDepth 10000
namespace Go.Proofs.Ytobokfclaooloaa.Space
open Go Go.Av Go.Proofs Go.Proofs.Ytobokfclaooloaa.C Go.Proofs.Ytobokfclaooloaa.Batch
end Go.Proofs.Ytobokfclaooloaa.Space
end
section
set_option linter.unusedSimpArgs false
set_option linter.unusedVariables false
set_option maxRecDepth 10000
namespace Go.Proofs.Ytobokfclaooloaa.Space
open Go Go.Av Go.Proofs Go.Proofs.Ytobokfclaooloaa.C Go.Proofs.Ytobokfclaooloaa.Batch
def stepS (t : Int) (S : Spc) (c : Ch) : Spc := setS S c.k (addB (mget S.L c.k) ⟨t, c.v, c.d⟩).1
def Room (S : Spc) (k : Nat) : Prop := S.L.length + k ≤ 500000 ∧ ∀ q, (mget S.L q).length + k ≤ 4398046511103
theorem add_len (v : List Ver) (x : Ver) : (addB v x).1.length ≤ v.length + 1 := by
  unfold addB; split
  · simp
  · split
    · simp
    · split <;> simp
theorem setL_len (L : List It) (q : Bs) (v : List Ver) : (setL L q v).length ≤ L.length + 1 := by
  have := plK_le (keysOf L) q
  have hk : (keysOf L).length = L.length := by simp [keysOf]
  unfold setL
  split
  · split <;> simp <;> omega
  · split <;> simp <;> omega
theorem Room.step {S : Spc} {k : Nat} (h : Room S (k + 1)) (hr : RiseL S.L) (t : Int) (c : Ch) : Room (stepS t S c) k := by
  refine ⟨?_, fun q => ?_⟩
  · have := setL_len S.L c.k (addB (mget S.L c.k) ⟨t, c.v, c.d⟩).1
    have := h.1
    show (setL _ _ _).length + k ≤ _
    omega
  · show (mget (setL _ _ _) q).length + k ≤ _
    rw [setL_get hr]
    split
    · have := add_len (mget S.L c.k) ⟨t, c.v, c.d⟩
      have := h.2 c.k
      omega
    · have := h.2 q; omega
end Go.Proofs.Ytobokfclaooloaa.Space
end
section
set_option linter.unusedVariables false
set_option linter.unusedSimpArgs false
namespace Go.Av
section
variable {P : Program}
end
end Go.Av
end
section
set_option linter.unusedSimpArgs false
set_option linter.unusedVariables false
set_option maxRecDepth 10000
namespace Go.Proofs.Ytobokfclaooloaa.Reads
open Go Go.Av Go.Proofs Go.Proofs.Ytobokfclaooloaa.C Go.Proofs.Ytobokfclaooloaa.Batch
theorem all_no {p : Nat → Bool} {n j : Nat} (h : j < n) (hp : p j = false) : (List.range n).all p = false := List.all_eq_false.2 ⟨j, List.mem_range.2 h, by simp [hp]⟩
theorem all_yes {p : Nat → Bool} {n : Nat} (h : ∀ i, i < n → p i = true) : (List.range n).all p = true := List.all_eq_true.2 fun i hi => h i (List.mem_range.1 hi)
end Go.Proofs.Ytobokfclaooloaa.Reads
end
section
set_option linter.unusedSimpArgs false
set_option linter.unusedVariables false
set_option maxRecDepth 10000
namespace Go.Proofs.Ytobokfclaooloaa.Reads
open Go Go.Av Go.Proofs Go.Proofs.Ytobokfclaooloaa.C Go.Proofs.Ytobokfclaooloaa.Batch
def place (k : List Bs) (key : Bs) : Nat := k.findIdx fun x => !Op.bytesLess x key
end Go.Proofs.Ytobokfclaooloaa.Reads
end
section
set_option linter.unusedSimpArgs false
set_option linter.unusedVariables false
set_option maxRecDepth 10000
namespace Go.Proofs.Ytobokfclaooloaa.Reads
open Go Go.Av Go.Proofs Go.Proofs.Ytobokfclaooloaa.C Go.Proofs.Ytobokfclaooloaa.Batch
end Go.Proofs.Ytobokfclaooloaa.Reads
end
section
set_option linter.unusedSimpArgs false
set_option linter.unusedVariables false
set_option maxRecDepth 10000
namespace Go.Proofs.Ytobokfclaooloaa.Space
open Go Go.Av Go.Proofs Go.Proofs.Ytobokfclaooloaa.C Go.Proofs.Ytobokfclaooloaa.Batch
end Go.Proofs.Ytobokfclaooloaa.Space
end
section
set_option linter.unusedSimpArgs false
set_option linter.unusedVariables false
set_option maxRecDepth 10000
namespace Go.Proofs.Ytobokfclaooloaa.Space
open Go Go.Av Go.Proofs Go.Proofs.Ytobokfclaooloaa.C Go.Proofs.Ytobokfclaooloaa.Batch
instance : Inhabited It := ⟨([], [])⟩
def encI (p : It) : AV := .agg [.str p.1, vAV p.2]
end Go.Proofs.Ytobokfclaooloaa.Space
end
section
set_option linter.unusedSimpArgs false
set_option linter.unusedVariables false
set_option maxRecDepth 10000
namespace Go.Proofs.Ytobokfclaooloaa.Space
open Go Go.Av Go.Proofs Go.Proofs.Ytobokfclaooloaa.C Go.Proofs.Ytobokfclaooloaa.Batch
end Go.Proofs.Ytobokfclaooloaa.Space
end
section
set_option linter.unusedSimpArgs false
set_option linter.unusedVariables false
set_option maxRecDepth 10000
namespace Go.Proofs.Ytobokfclaooloaa.Space
open Go Go.Av Go.Proofs Go.Proofs.Ytobokfclaooloaa.C Go.Proofs.Ytobokfclaooloaa.Batch
end Go.Proofs.Ytobokfclaooloaa.Space
end
section
set_option linter.unusedSimpArgs false
set_option linter.unusedVariables false
set_option maxRecDepth 10000
namespace Go.Proofs.Ytobokfclaooloaa.Space
open Go Go.Av Go.Proofs Go.Proofs.Ytobokfclaooloaa.C Go.Proofs.Ytobokfclaooloaa.Batch
end Go.Proofs.Ytobokfclaooloaa.Space
end
section
set_option linter.unusedSimpArgs false
set_option linter.unusedVariables false
set_option maxRecDepth 10000
namespace Go.Proofs.Ytobokfclaooloaa.Space
open Go Go.Av Go.Proofs Go.Proofs.Ytobokfclaooloaa.C Go.Proofs.Ytobokfclaooloaa.Batch
theorem rise_cons {p : It} {L : List It} : RiseL (p :: L) ↔ (∀ x ∈ L, Op.bytesLess p.1 x.1 = true) ∧ RiseL L := by
  simp [RiseL, Rise, keysOf, List.pairwise_cons]
theorem less_ne {a b : Bs} (h : Op.bytesLess a b = true) : a ≠ b := fun e => by rw [e, less_irrefl] at h; cases h
theorem after {p : It} {L : List It} {q : Bs} (hr : RiseL (p :: L)) (h : Op.bytesLess p.1 q = false) : ∀ x ∈ L, x.1 ≠ q := by
  intro x hx e
  have := (rise_cons.1 hr).1 x hx
  rw [e, h] at this; cases this
end Go.Proofs.Ytobokfclaooloaa.Space
end
section
set_option linter.unusedSimpArgs false
set_option linter.unusedVariables false
set_option maxRecDepth 10000
namespace Go.Proofs.Ytobokfclaooloaa.Space
open Go Go.Av Go.Proofs Go.Proofs.Ytobokfclaooloaa.C Go.Proofs.Ytobokfclaooloaa.Batch
theorem encI_pure (p : It) : isPure (encI p) = true := by simp [allPure, isPure, capPure, encI, vAV, vers_pure]
theorem its_pure (l : List It) : allPure (l.map encI) = true := Av.allPure_map encI_pure l
end Go.Proofs.Ytobokfclaooloaa.Space
end
section
set_option linter.unusedSimpArgs false
set_option linter.unusedVariables false
set_option maxRecDepth 10000
namespace Go.Proofs.Ytobokfclaooloaa.Space
open Go Go.Av Go.Proofs Go.Proofs.Ytobokfclaooloaa.C Go.Proofs.Ytobokfclaooloaa.Batch
theorem rooms40 {n : Nat} (h : n ≤ 2000000) : (n + 1) * 40 ≤ 140737488355328 ∧ n + 1 < 4611686018427387904 ∧ (n + 1 + 1) * 40 ≤ 140737488355328 ∧ n + 1 + 1 < 4611686018427387904 := by omega
set_option maxHeartbeats 1000000 in
theorem sameI_p (a b : List It) (ha : a.length ≤ 1000000) (hv : ∀ p ∈ a, p.2.length ≤ 1000000) : PCalls Try.prog 12 [.sl 2 (a.map encI) .any, .sl 2 (b.map encI) .any] (.bool (decide (a = b))) := by
  refine f12.pcalls0 (by simp) (by simp [allPure, isPure, capPure, its_pure]) rfl ?_
  unfold c12
  by_cases hab : a.length = b.length
  · have g0 : decide ((a.length : Int) = (b.length : Int)) = true := decide_eq_true (by omega)
    repeat (first
      | ((first | apply Wp.seqItemsR | apply Wp.itemsR); (· simp only [go_sem, reduceIte, Nat.reduceEqDiff, Nat.reduceAdd, bx, ax, if_true, if_false, Nat.reduceMul, Nat.reduceLeDiff, g0, List.length_map]; exact rfl))
      | (refine WpItems.nil ⟨?_, ?_⟩; (· first | trivial | simp [pairsQ, pairsOk, apart, ent0]))
      | (apply Wp.cond_lit; (· simp only [go_sem, reduceIte, Nat.reduceEqDiff, Nat.reduceAdd, bx, ax, if_true, if_false, Nat.reduceMul, Nat.reduceLeDiff, g0, List.length_map]; exact rfl); (· rfl))
      | refine Wp.skip ?_
      | refine Wp.label ?_
      | refine Wp.block ?_
      | refine Wp.exit ?_
      | refine Wp.seq ?_)
    refine Wp.loopK [0, 1] (by simp only [go_sem, reduceIte, Nat.reduceEqDiff, Nat.reduceAdd, bx, List.map]; exact rfl) (fun j : Nat => [(5, .int .i64 (j : Nat))]) (fun j => j ≤ a.length ∧ ∀ i, i < j → a.getD i default = b.getD i default) (fun j => a.length - j) 0 ⟨Nat.zero_le _, fun i h => absurd h (by omega)⟩ ?_ ?_
    · simp only [AllSub, go_sem, reduceIte, Nat.reduceEqDiff, Nat.reduceAdd, bx]; and_intros <;> first | exact trivial | exact VSub.refl _ | exact VSub.any _ | (refine VSub.int ?_; omega)
    rintro j ⟨hj, hs⟩
    by_cases hc : j < a.length
    · have g1 : decide (((j : Nat) : Int) < ((a.length : Nat) : Int)) = true := decide_eq_true (by omega)
      have h2 : (0 : Int) ≤ ((j : Nat) : Int) := by omega
      have h3 : ((j : Nat) : Int) < ((a.length : Nat) : Int) := by omega
      have e1 : IntKind.i64.wrap (((j : Nat) : Int) + 1) = ((j + 1 : Nat) : Int) := by rw [IntWalk.i64_in _ (by omega)]; omega
      have h3' : (j : Int) < (b.length : Int) := by omega
      have hat := enc_at encI a j .any hc
      have hat2 := enc_at encI b j .any (by omega)
      have hsm := same_p (a.getD j default).2 (b.getD j default).2 (by have := hv (a.getD j default) (by rw [getD_el hc]; exact List.getElem_mem hc); omega)
      by_cases hk : (a.getD j default).1 = (b.getD j default).1
      · have d1 := decide_eq_true hk
        by_cases hw : (a.getD j default).2 = (b.getD j default).2
        · have d2 := decide_eq_true hw
          rw [d2] at hsm
          have hs2 : ∀ i, i < j + 1 → a.getD i default = b.getD i default := fun i hi => by
            by_cases e : i = j
            · rw [e]; exact Prod.ext hk hw
            · exact hs i (by omega)
          generalize a.getD j default = x at *
          generalize b.getD j default = y at *
          repeat (first
            | ((first | apply Wp.seqItemsR | apply Wp.itemsR | ((first
                | (refine WpItems.pcall ?_ ?_ (hsm) ?_; (· simp only [go_sem, reduceIte, Nat.reduceEqDiff, Nat.reduceAdd, bx]); (· simp only [go_sem, reduceIte, Nat.reduceEqDiff, Nat.reduceAdd, bx, List.map]; first | exact VSubs.refl _ | (repeat (first | exact VSubs.nil | refine VSubs.cons (by first | exact VSub.refl _ | assumption | exact VSub.cap | exact VSub.any _) ?_))))); apply WpItems.evR)); (· simp only [go_sem, reduceIte, Nat.reduceEqDiff, Nat.reduceAdd, bx, ax, if_true, if_false, Nat.reduceMul, Nat.reduceLeDiff, g1, h2, h3, h3', e1, d1, List.length_map, hat, hat2, encI, vAV]; exact rfl))
            | (refine WpItems.nil ⟨?_, ?_⟩; (· first | trivial | simp [pairsQ, pairsOk, apart, ent0]))
            | (apply Wp.cond_lit; (· simp only [go_sem, reduceIte, Nat.reduceEqDiff, Nat.reduceAdd, bx, ax, if_true, if_false, Nat.reduceMul, Nat.reduceLeDiff, g1, h2, h3, h3', e1, d1, List.length_map, hat, hat2, encI, vAV]; exact rfl); (· rfl))
            | refine Wp.skip ?_
            | refine Wp.label ?_
            | refine Wp.block ?_
            | refine Wp.exit ?_
            | refine Wp.seq ?_)
          refine ⟨j + 1, ⟨by omega, hs2⟩, by omega, ?_⟩
          refine StLe.tm (by simp only [AllSub, go_sem, reduceIte, Nat.reduceEqDiff, Nat.reduceAdd, bx]; and_intros <;> first | exact trivial | exact VSub.refl _ | exact VSub.any _ | (refine VSub.int ?_; omega))
        · have d2 := decide_eq_false hw
          rw [d2] at hsm
          have hne : a ≠ b := fun e => hw (by rw [e])
          generalize a.getD j default = x at *
          generalize b.getD j default = y at *
          repeat (first
            | ((first | apply Wp.seqItemsR | apply Wp.itemsR | ((first
                | (refine WpItems.pcall ?_ ?_ (hsm) ?_; (· simp only [go_sem, reduceIte, Nat.reduceEqDiff, Nat.reduceAdd, bx]); (· simp only [go_sem, reduceIte, Nat.reduceEqDiff, Nat.reduceAdd, bx, List.map]; first | exact VSubs.refl _ | (repeat (first | exact VSubs.nil | refine VSubs.cons (by first | exact VSub.refl _ | assumption | exact VSub.cap | exact VSub.any _) ?_))))); apply WpItems.evR)); (· simp only [go_sem, reduceIte, Nat.reduceEqDiff, Nat.reduceAdd, bx, ax, if_true, if_false, Nat.reduceMul, Nat.reduceLeDiff, g1, h2, h3, h3', e1, d1, List.length_map, hat, hat2, encI, vAV]; exact rfl))
            | (refine WpItems.nil ⟨?_, ?_⟩; (· first | trivial | simp [pairsQ, pairsOk, apart, ent0]))
            | (apply Wp.cond_lit; (· simp only [go_sem, reduceIte, Nat.reduceEqDiff, Nat.reduceAdd, bx, ax, if_true, if_false, Nat.reduceMul, Nat.reduceLeDiff, g1, h2, h3, h3', e1, d1, List.length_map, hat, hat2, encI, vAV]; exact rfl); (· rfl))
            | refine Wp.skip ?_
            | refine Wp.label ?_
            | refine Wp.block ?_
            | refine Wp.exit ?_
            | refine Wp.seq ?_)
          refine Wp.ret ⟨trivial, _, rfl, ?_⟩
          simp only [go_sem, reduceIte, Nat.reduceEqDiff, Nat.reduceAdd, bx]
          rw [decide_eq_false hne]; exact VSub.refl _
      · have d1 := decide_eq_false hk
        have hne : a ≠ b := fun e => hk (by rw [e])
        generalize a.getD j default = x at *
        generalize b.getD j default = y at *
        repeat (first
          | ((first | apply Wp.seqItemsR | apply Wp.itemsR); (· simp only [go_sem, reduceIte, Nat.reduceEqDiff, Nat.reduceAdd, bx, ax, if_true, if_false, Nat.reduceMul, Nat.reduceLeDiff, g1, h2, h3, h3', e1, d1, List.length_map, hat, hat2, encI, vAV]; exact rfl))
          | (refine WpItems.nil ⟨?_, ?_⟩; (· first | trivial | simp [pairsQ, pairsOk, apart, ent0]))
          | (apply Wp.cond_lit; (· simp only [go_sem, reduceIte, Nat.reduceEqDiff, Nat.reduceAdd, bx, ax, if_true, if_false, Nat.reduceMul, Nat.reduceLeDiff, g1, h2, h3, h3', e1, d1, List.length_map, hat, hat2, encI, vAV]; exact rfl); (· rfl))
          | refine Wp.skip ?_
          | refine Wp.label ?_
          | refine Wp.block ?_
          | refine Wp.exit ?_
          | refine Wp.seq ?_)
        refine Wp.ret ⟨trivial, _, rfl, ?_⟩
        simp only [go_sem, reduceIte, Nat.reduceEqDiff, Nat.reduceAdd, bx]
        rw [decide_eq_false hne]; exact VSub.refl _
    · obtain rfl : j = a.length := by omega
      have g1 : decide (((a.length : Nat) : Int) < ((a.length : Nat) : Int)) = false := decide_eq_false (by omega)
      repeat (first
        | ((first | apply Wp.seqItemsR | apply Wp.itemsR); (· simp only [go_sem, reduceIte, Nat.reduceEqDiff, Nat.reduceAdd, bx, ax, if_true, if_false, Nat.reduceMul, Nat.reduceLeDiff, g1, List.length_map]; exact rfl))
        | (refine WpItems.nil ⟨?_, ?_⟩; (· first | trivial | simp [pairsQ, pairsOk, apart, ent0]))
        | (apply Wp.cond_lit; (· simp only [go_sem, reduceIte, Nat.reduceEqDiff, Nat.reduceAdd, bx, ax, if_true, if_false, Nat.reduceMul, Nat.reduceLeDiff, g1, List.length_map]; exact rfl); (· rfl))
        | refine Wp.skip ?_
        | refine Wp.label ?_
        | refine Wp.block ?_
        | refine Wp.exit ?_
        | refine Wp.seq ?_)
      refine Wp.ret ⟨trivial, _, rfl, ?_⟩
      simp only [go_sem, reduceIte, Nat.reduceEqDiff, Nat.reduceAdd, bx]
      have : a = b := by
        refine List.ext_getElem hab fun i h1 h2 => ?_
        have := hs i h1
        rwa [getD_el h1, getD_el h2] at this
      rw [decide_eq_true this]; exact VSub.refl _
  · have g0 : decide ((a.length : Int) = (b.length : Int)) = false := decide_eq_false (by omega)
    repeat (first
      | ((first | apply Wp.seqItemsR | apply Wp.itemsR); (· simp only [go_sem, reduceIte, Nat.reduceEqDiff, Nat.reduceAdd, bx, ax, if_true, if_false, Nat.reduceMul, Nat.reduceLeDiff, g0, List.length_map]; exact rfl))
      | (refine WpItems.nil ⟨?_, ?_⟩; (· first | trivial | simp [pairsQ, pairsOk, apart, ent0]))
      | (apply Wp.cond_lit; (· simp only [go_sem, reduceIte, Nat.reduceEqDiff, Nat.reduceAdd, bx, ax, if_true, if_false, Nat.reduceMul, Nat.reduceLeDiff, g0, List.length_map]; exact rfl); (· rfl))
      | refine Wp.skip ?_
      | refine Wp.label ?_
      | refine Wp.block ?_
      | refine Wp.exit ?_
      | refine Wp.seq ?_)
    refine Wp.ret ⟨trivial, _, rfl, ?_⟩
    simp only [go_sem, reduceIte, Nat.reduceEqDiff, Nat.reduceAdd, bx]
    rw [decide_eq_false (fun e => hab (by rw [e]))]; exact VSub.refl _
end Go.Proofs.Ytobokfclaooloaa.Space
end
section
set_option maxRecDepth 100000
namespace Go.Proofs.Ytobokfclaooloaa.C
open Go.Av
def tab : FT :=
  (.node 45 ⟨9, c45, [.tmp 3]⟩ (.node 23 ⟨53, c23, [.tmp 2, .cell 3 (some 3), .tmp 4]⟩ (.node 12 ⟨42, c12, [.tmp 4]⟩ (.node 7 ⟨53, c7, [.tmp 2, .tmp 3]⟩ (.node 4 ⟨124, c4, [.tmp 2]⟩ (.node 3 ⟨63, c3,
  [.tmp 4]⟩ (.node 2 ⟨1, c2, []⟩ .leaf .leaf) .leaf) (.node 6 ⟨54, c6, [.tmp 0]⟩ (.node 5 ⟨27, c5, [.tmp 2]⟩ .leaf .leaf) .leaf)) (.node 10 ⟨94, c10, [.tmp 2, .tmp 3]⟩ (.node 9 ⟨89, c9, [.tmp 2, .tmp
  3]⟩ (.node 8 ⟨58, c8, [.tmp 2, .tmp 3]⟩ .leaf .leaf) .leaf) (.node 11 ⟨26, c11, [.tmp 4]⟩ .leaf .leaf))) (.node 18 ⟨10, c18, [.tmp 4]⟩ (.node 15 ⟨27, c15, [.tmp 2]⟩ (.node 14 ⟨115, c14, [.cell 2
  (some 2), .tmp 3, .tmp 4]⟩ (.node 13 ⟨43, c13, [.tmp 2, .tmp 3]⟩ .leaf .leaf) .leaf) (.node 17 ⟨14, c17, []⟩ (.node 16 ⟨22, c16, [.cell 4 (some 2)]⟩ .leaf .leaf) .leaf)) (.node 21 ⟨67, c21, [.tmp 6,
  .tmp 7]⟩ (.node 20 ⟨66, c20, [.tmp 2]⟩ (.node 19 ⟨20, c19, [.tmp 4]⟩ .leaf .leaf) .leaf) (.node 22 ⟨27, c22, [.tmp 4]⟩ .leaf .leaf)))) (.node 34 ⟨31, c34, [.tmp 4, .tmp 5, .tmp 6]⟩ (.node 29 ⟨9,
  c29, [.tmp 4]⟩ (.node 26 ⟨60, c26, [.tmp 6]⟩ (.node 25 ⟨25, c25, [.tmp 6]⟩ (.node 24 ⟨11, c24, []⟩ .leaf .leaf) .leaf) (.node 28 ⟨44, c28, [.tmp 2]⟩ (.node 27 ⟨26, c27, [.tmp 4]⟩ .leaf .leaf)
  .leaf)) (.node 32 ⟨7, c32, [.tmp 2]⟩ (.node 31 ⟨11, c31, [.tmp 4]⟩ (.node 30 ⟨9, c30, [.tmp 4]⟩ .leaf .leaf) .leaf) (.node 33 ⟨5, c33, [.tmp 2]⟩ .leaf .leaf))) (.node 40 ⟨6, c40, [.tmp 2]⟩ (.node 37
  ⟨9, c37, [.tmp 4]⟩ (.node 36 ⟨31, c36, [.tmp 2]⟩ (.node 35 ⟨7, c35, [.tmp 2]⟩ .leaf .leaf) .leaf) (.node 39 ⟨8, c39, [.tmp 2]⟩ (.node 38 ⟨148, c38, []⟩ .leaf .leaf) .leaf)) (.node 43 ⟨134, c43, []⟩
  (.node 42 ⟨34, c42, [.tmp 2]⟩ (.node 41 ⟨37, c41, [.tmp 4]⟩ .leaf .leaf) .leaf) (.node 44 ⟨44, c44, [.tmp 4]⟩ .leaf .leaf))))) (.node 67 ⟨49, c67, []⟩ (.node 56 ⟨53, c56, []⟩ (.node 51 ⟨8, c51,
  [.tmp 2]⟩ (.node 48 ⟨25, c48, [.tmp 2]⟩ (.node 47 ⟨9, c47, [.tmp 4]⟩ (.node 46 ⟨23, c46, [.tmp 2]⟩ .leaf .leaf) .leaf) (.node 50 ⟨23, c50, [.tmp 6]⟩ (.node 49 ⟨24, c49, [.tmp 6]⟩ .leaf .leaf)
  .leaf)) (.node 54 ⟨27, c54, [.tmp 2]⟩ (.node 53 ⟨5, c53, [.tmp 2]⟩ (.node 52 ⟨38, c52, [.tmp 6]⟩ .leaf .leaf) .leaf) (.node 55 ⟨19, c55, [.tmp 4]⟩ .leaf .leaf))) (.node 62 ⟨90, c62, [.tmp 10]⟩
  (.node 59 ⟨63, c59, [.tmp 8, .tmp 9]⟩ (.node 58 ⟨67, c58, []⟩ (.node 57 ⟨60, c57, []⟩ .leaf .leaf) .leaf) (.node 61 ⟨141, c61, [.tmp 8]⟩ (.node 60 ⟨34, c60, []⟩ .leaf .leaf) .leaf)) (.node 65 ⟨25,
  c65, [.tmp 2]⟩ (.node 64 ⟨19, c64, [.tmp 2]⟩ (.node 63 ⟨178, c63, [.tmp 10, .tmp 11]⟩ .leaf .leaf) .leaf) (.node 66 ⟨27, c66, [.tmp 2]⟩ .leaf .leaf)))) (.node 78 ⟨41, c78, [.tmp 6, .tmp 7]⟩ (.node
  73 ⟨17, c73, [.tmp 4]⟩ (.node 70 ⟨57, c70, [.tmp 6, .tmp 7]⟩ (.node 69 ⟨65, c69, []⟩ (.node 68 ⟨56, c68, []⟩ .leaf .leaf) .leaf) (.node 72 ⟨133, c72, [.tmp 6]⟩ (.node 71 ⟨32, c71, []⟩ .leaf .leaf)
  .leaf)) (.node 76 ⟨19, c76, [.tmp 4]⟩ (.node 75 ⟨168, c75, [.tmp 8, .tmp 9]⟩ (.node 74 ⟨84, c74, [.tmp 8]⟩ .leaf .leaf) .leaf) (.node 77 ⟨18, c77, [.tmp 2]⟩ .leaf .leaf))) (.node 84 ⟨76, c84, []⟩
  (.node 81 ⟨33, c81, [.tmp 2]⟩ (.node 80 ⟨7, c80, [.tmp 2]⟩ (.node 79 ⟨82, c79, []⟩ .leaf .leaf) .leaf) (.node 83 ⟨41, c83, [.tmp 12]⟩ (.node 82 ⟨18, c82, [.tmp 8]⟩ .leaf .leaf) .leaf)) (.node 87
  ⟨32, c87, [.tmp 10, .tmp 11]⟩ (.node 86 ⟨36, c86, [.tmp 10]⟩ (.node 85 ⟨15, c85, [.tmp 6]⟩ .leaf .leaf) .leaf) (.node 88 ⟨28, c88, [.tmp 8, .tmp 9]⟩ .leaf .leaf))))))
theorem tab_ok : tab.Ok Try.prog :=
  ⟨f45, ⟨f23, ⟨f12, ⟨f7, ⟨f4, ⟨f3, ⟨f2, trivial, trivial⟩, trivial⟩, ⟨f6, ⟨f5, trivial, trivial⟩, trivial⟩⟩, ⟨f10, ⟨f9, ⟨f8, trivial, trivial⟩, trivial⟩, ⟨f11, trivial, trivial⟩⟩⟩, ⟨f18, ⟨f15, ⟨f14,
  ⟨f13, trivial, trivial⟩, trivial⟩, ⟨f17, ⟨f16, trivial, trivial⟩, trivial⟩⟩, ⟨f21, ⟨f20, ⟨f19, trivial, trivial⟩, trivial⟩, ⟨f22, trivial, trivial⟩⟩⟩⟩, ⟨f34, ⟨f29, ⟨f26, ⟨f25, ⟨f24, trivial,
  trivial⟩, trivial⟩, ⟨f28, ⟨f27, trivial, trivial⟩, trivial⟩⟩, ⟨f32, ⟨f31, ⟨f30, trivial, trivial⟩, trivial⟩, ⟨f33, trivial, trivial⟩⟩⟩, ⟨f40, ⟨f37, ⟨f36, ⟨f35, trivial, trivial⟩, trivial⟩, ⟨f39,
  ⟨f38, trivial, trivial⟩, trivial⟩⟩, ⟨f43, ⟨f42, ⟨f41, trivial, trivial⟩, trivial⟩, ⟨f44, trivial, trivial⟩⟩⟩⟩⟩, ⟨f67, ⟨f56, ⟨f51, ⟨f48, ⟨f47, ⟨f46, trivial, trivial⟩, trivial⟩, ⟨f50, ⟨f49, trivial,
  trivial⟩, trivial⟩⟩, ⟨f54, ⟨f53, ⟨f52, trivial, trivial⟩, trivial⟩, ⟨f55, trivial, trivial⟩⟩⟩, ⟨f62, ⟨f59, ⟨f58, ⟨f57, trivial, trivial⟩, trivial⟩, ⟨f61, ⟨f60, trivial, trivial⟩, trivial⟩⟩, ⟨f65,
  ⟨f64, ⟨f63, trivial, trivial⟩, trivial⟩, ⟨f66, trivial, trivial⟩⟩⟩⟩, ⟨f78, ⟨f73, ⟨f70, ⟨f69, ⟨f68, trivial, trivial⟩, trivial⟩, ⟨f72, ⟨f71, trivial, trivial⟩, trivial⟩⟩, ⟨f76, ⟨f75, ⟨f74, trivial,
  trivial⟩, trivial⟩, ⟨f77, trivial, trivial⟩⟩⟩, ⟨f84, ⟨f81, ⟨f80, ⟨f79, trivial, trivial⟩, trivial⟩, ⟨f83, ⟨f82, trivial, trivial⟩, trivial⟩⟩, ⟨f87, ⟨f86, ⟨f85, trivial, trivial⟩, trivial⟩, ⟨f88,
  trivial, trivial⟩⟩⟩⟩⟩⟩
theorem tab_named : tab.named Try.prog = true := by kernel_rfl
end Go.Proofs.Ytobokfclaooloaa.C
end
section
set_option maxRecDepth 100000
namespace Go.Proofs.Ytobokfclaooloaa.Batch
open Go Go.Av Go.Proofs Go.Proofs.Ytobokfclaooloaa.C
theorem lives_p : PCalls Try.prog 6 [] (.bool true) :=
  pcalls_run (k := 100000) tab_ok tab_named (by kernel_rfl)
end Go.Proofs.Ytobokfclaooloaa.Batch
end
section
set_option linter.unusedSimpArgs false
set_option linter.unusedVariables false
set_option maxRecDepth 10000
namespace Go.Proofs.Ytobokfclaooloaa.Batch
open Go Go.Av Go.Proofs Go.Proofs.Ytobokfclaooloaa.C
end Go.Proofs.Ytobokfclaooloaa.Batch
end
section
set_option linter.unusedSimpArgs false
set_option linter.unusedVariables false
set_option maxRecDepth 10000
namespace Go.Proofs.Ytobokfclaooloaa.Batch
open Go Go.Av Go.Proofs Go.Proofs.Ytobokfclaooloaa.C
structure DI (a b : List Pr) (i k : Nat) (o : List Ch) : Prop where
  hi : i ≤ a.length
  hk : k ≤ b.length
  hd : o ++ differ (a.drop i) (b.drop k) = differ a b
  hl : o.length ≤ i + k
theorem DI.del {a b : List Pr} {i k : Nat} {o : List Ch} (h : DI a b i k o) (hi : i < a.length) (hk : b.length ≤ k ∨ k < b.length ∧ Op.bytesLess (a.getD i default).k (b.getD k default).k = true) : DI a b (i + 1) k (o ++ [⟨(a.getD i default).k, [], true⟩]) := by
  refine ⟨hi, h.hk, ?_, by have := h.hl; simp; omega⟩
  rw [← h.hd, differ_del hi hk]; simp
theorem DI.put {a b : List Pr} {i k : Nat} {o : List Ch} (h : DI a b i k o) (hk : k < b.length) (hi : a.length ≤ i ∨ i < a.length ∧ Op.bytesLess (a.getD i default).k (b.getD k default).k = false ∧ Op.bytesLess (b.getD k default).k (a.getD i default).k = true) : DI a b i (k + 1) (o ++ [⟨(b.getD k default).k, (b.getD k default).v, false⟩]) := by
  refine ⟨h.hi, hk, ?_, by have := h.hl; simp; omega⟩
  rw [← h.hd, differ_put hk hi]; simp
theorem DI.same {a b : List Pr} {i k : Nat} {o : List Ch} (h : DI a b i k o) (hi : i < a.length) (hk : k < b.length) (h1 : Op.bytesLess (a.getD i default).k (b.getD k default).k = false) (h2 : Op.bytesLess (b.getD k default).k (a.getD i default).k = false) (hv : (a.getD i default).v = (b.getD k default).v) : DI a b (i + 1) (k + 1) o := by
  refine ⟨hi, hk, ?_, by have := h.hl; omega⟩
  rw [← h.hd, differ_eq hi hk h1 h2, if_pos hv]
theorem DI.set {a b : List Pr} {i k : Nat} {o : List Ch} (h : DI a b i k o) (hi : i < a.length) (hk : k < b.length) (h1 : Op.bytesLess (a.getD i default).k (b.getD k default).k = false) (h2 : Op.bytesLess (b.getD k default).k (a.getD i default).k = false) (hv : ¬ (a.getD i default).v = (b.getD k default).v) : DI a b (i + 1) (k + 1) (o ++ [⟨(b.getD k default).k, (b.getD k default).v, false⟩]) := by
  refine ⟨hi, hk, ?_, by have := h.hl; simp; omega⟩
  rw [← h.hd, differ_eq hi hk h1 h2, if_neg hv]; simp
theorem DI.fin {a b : List Pr} {i k : Nat} {o : List Ch} (h : DI a b i k o) (hi : a.length ≤ i) (hk : b.length ≤ k) : o = differ a b := by
  rw [← h.hd, differ_end hi hk, List.append_nil]
end Go.Proofs.Ytobokfclaooloaa.Batch
end
section
set_option linter.unusedSimpArgs false
set_option linter.unusedVariables false
set_option maxRecDepth 10000
namespace Go.Proofs.Ytobokfclaooloaa.Batch
open Go Go.Av Go.Proofs Go.Proofs.Ytobokfclaooloaa.C
end Go.Proofs.Ytobokfclaooloaa.Batch
end
section
set_option linter.unusedSimpArgs false
set_option linter.unusedVariables false
set_option maxRecDepth 10000
namespace Go.Proofs.Ytobokfclaooloaa.Batch
open Go Go.Av Go.Proofs Go.Proofs.Ytobokfclaooloaa.C
theorem getDp {α : Type} [Inhabited α] {l : List α} {i : Nat} (h : i < l.length) : l.getD i default = l[i] := by
  rw [List.getD_eq_getElem?_getD, List.getElem?_eq_getElem h]; rfl
def hasK (k : Bs) (p : Pr) : Bool := decide (p.k = k)
def rest (k : Bs) (l : List Pr) : List Pr := l.filter fun p => !hasK k p
theorem rest_cons (k : Bs) (p : Pr) (l : List Pr) : rest k (p :: l) = (if p.k = k then [] else [p]) ++ rest k l := by
  simp only [rest, List.filter_cons, hasK]
  by_cases h : p.k = k <;> simp [h]
def shut (k v : Bs) : Bool := decide (128 < k.length) || decide (200 < v.length)
def putGo (k v : Bs) : Bool → List Pr → List Pr
  | laid, [] => if laid then [] else [⟨k, v⟩]
  | laid, p :: l => (if laid = false ∧ Op.bytesLess p.k k = false then [⟨k, v⟩] else []) ++ ((if p.k = k then [] else [p]) ++ putGo k v (laid || !Op.bytesLess p.k k) l)
def putP (l : List Pr) (k v : Bs) : List Pr := if shut k v then l else putGo k v false l
end Go.Proofs.Ytobokfclaooloaa.Batch
end
section
set_option linter.unusedSimpArgs false
set_option linter.unusedVariables false
set_option maxRecDepth 10000
namespace Go.Proofs.Ytobokfclaooloaa.Batch
open Go Go.Av Go.Proofs Go.Proofs.Ytobokfclaooloaa.C
theorem putGo_len (k v : Bs) : ∀ (l : List Pr) (b : Bool), (putGo k v b l).length ≤ l.length + (if b then 0 else 1)
  | [], b => by cases b <;> simp [putGo]
  | p :: l, b => by
    have h1 := putGo_len k v l true
    have h2 := putGo_len k v l false
    simp only [if_true, if_false, Bool.false_eq_true, Nat.add_zero] at h1 h2
    rw [putGo]
    cases b <;> cases Op.bytesLess p.k k <;> by_cases hk : p.k = k <;> simp [hk] <;> omega
theorem put_len' (l : List Pr) (k v : Bs) : (putP l k v).length ≤ l.length + 1 := by
  unfold putP; split
  · omega
  · exact putGo_len k v l false
def sortedP (l : List Pr) : List Pr := l.foldl (fun o p => putP o p.k p.v) []
theorem take_snoc {α : Type} [Inhabited α] {l : List α} {i : Nat} (h : i < l.length) : l.take (i + 1) = l.take i ++ [l.getD i default] := by
  rw [List.take_succ_eq_append_getElem h, getDp h]
theorem putGo_mem (k v : Bs) : ∀ (l : List Pr) (b : Bool) (x : Pr), x ∈ putGo k v b l → x = ⟨k, v⟩ ∨ x ∈ l
  | [], b, x, h => by cases b <;> simp [putGo] at h; exact .inl h
  | p :: l, b, x, h => by
    rw [putGo, List.mem_append, List.mem_append] at h
    rcases h with h | h | h
    · split at h
      · left; simpa using h
      · simp at h
    · split at h
      · simp at h
      · right; simp at h; simp [h]
    · rcases putGo_mem k v l _ x h with h | h
      · exact .inl h
      · right; simp [h]
theorem putP_mem {l : List Pr} {k v : Bs} {x : Pr} (h : x ∈ putP l k v) : x = ⟨k, v⟩ ∧ shut k v = false ∨ x ∈ l := by
  unfold putP at h
  split at h
  · exact .inr h
  · rename_i hs
    rcases putGo_mem k v l false x h with h | h
    · exact .inl ⟨h, by simpa using hs⟩
    · exact .inr h
end Go.Proofs.Ytobokfclaooloaa.Batch
end
section
set_option linter.unusedSimpArgs false
set_option linter.unusedVariables false
set_option maxRecDepth 10000
namespace Go.Proofs.Ytobokfclaooloaa.Batch
open Go Go.Av Go.Proofs Go.Proofs.Ytobokfclaooloaa.C
def ix {α : Type} (p : α → Bool) (l : List α) : Int := if l.any p then (l.findIdx p : Nat) else -1
theorem ix_found {α : Type} {p : α → Bool} {l : List α} {j : Nat} (hj : j < l.length) (h : p l[j] = true) (hs : ∀ i (hi : i < l.length), i < j → p l[i] = false) : ix p l = j := by
  have h1 : l.any p = true := List.any_eq_true.2 ⟨l[j], List.getElem_mem hj, h⟩
  have h2 : l.findIdx p = j := (List.findIdx_eq hj).2 ⟨h, fun i hi => hs i (by omega) hi⟩
  simp [ix, h1, h2]
theorem ix_none {α : Type} {p : α → Bool} {l : List α} (hs : ∀ i (hi : i < l.length), p l[i] = false) : ix p l = -1 := by
  have h1 : l.any p = false := by
    rw [List.any_eq_false]
    intro x hx
    obtain ⟨i, hi, rfl⟩ := List.mem_iff_getElem.1 hx
    simp [hs i hi]
  simp [ix, h1]
theorem ix_nonneg {α : Type} {p : α → Bool} {l : List α} : decide (0 ≤ ix p l) = l.any p := by
  unfold ix
  cases l.any p <;> simp
theorem getD_el {α : Type} [Inhabited α] {l : List α} {i : Nat} (h : i < l.length) : l.getD i default = l[i] := by
  rw [List.getD_eq_getElem?_getD, List.getElem?_eq_getElem h]; rfl
end Go.Proofs.Ytobokfclaooloaa.Batch
end
section
set_option linter.unusedSimpArgs false
set_option linter.unusedVariables false
set_option maxRecDepth 10000
namespace Go.Proofs.Ytobokfclaooloaa.Batch
open Go Go.Av Go.Proofs Go.Proofs.Ytobokfclaooloaa.C
def be : Nat → Nat → List UInt8
  | 0, _ => []
  | b + 1, v => UInt8.ofNat (v / 256 ^ b) :: be b v
theorem be_length : ∀ b v, (be b v).length = b
  | 0, _ => rfl
  | b + 1, v => by simp [be, be_length b v]
theorem byte_shr (v i : Nat) (hi : i ≤ 7) : AV.int .u8 (IntKind.u8.wrap ((v : Int).fdiv (2 ^ (min ((8 * i : Nat) : Int).toNat 64)))) = byte (UInt8.ofNat (v / 256 ^ i)) := by
  have h1 : min ((8 * i : Nat) : Int).toNat 64 = 8 * i := by rw [Int.toNat_natCast]; omega
  have h2 : (2 : Int) ^ (8 * i) = ((256 ^ i : Nat) : Int) := by
    rw [Int.pow_mul]; norm_cast
  rw [h1, h2, byte, Int.fdiv_eq_ediv_of_nonneg _ (Int.natCast_nonneg _), ← Int.natCast_ediv, IntKind.wrap_u8]
  congr 1
theorem put_gen64 {f : FuncId} (hF : FnIs Try.prog f 23 c50 [.tmp 6]) (v : Nat) (hv : v < 18446744073709551616) (b : Nat) (hb : b ≤ 8) (xs : List UInt8) (hx : xs.length ≤ 1099511627776) :
    TCalls Try.prog f (fun t => [.sl 1 (bytesAV xs) (.own t), .int .u64 v, .int .i64 b]) (fun t => .sl 1 (bytesAV (xs ++ be b v)) (.own t)) := by
  intro t n m
  suffices h : ∃ r h', ACalls Try.prog f [.sl 1 (bytesAV xs) (.own t), .int .u64 v, .int .i64 b] (.only none' [t] n m) r h' ∧ ∃ t' m', m ≤ m' ∧ r = .sl 1 (bytesAV (xs ++ be b v)) (.own t') ∧ h' = .only none' [t'] n m' by
    obtain ⟨r, h', ha, t', m', hm, rfl, rfl⟩ := h
    exact ⟨t', m', hm, ha⟩
  refine hF.acalls (by simp) ?_
  unfold c50
  refine Wp.seqReg (by simp only [go_sem, reduceIte, Nat.reduceEqDiff, Nat.reduceAdd, bx]; exact rfl) (by trivial) ?_
  refine Wp.seq ?_
  refine Wp.seqReg (by simp only [go_sem, reduceIte, Nat.reduceEqDiff, Nat.reduceAdd, bx]; simp (disch := omega) only [IntWalk.i64_in]; exact rfl) (by trivial) ?_
  refine Wp.block ?_
  refine Wp.loopH [1] (by simp only [go_sem, reduceIte, Nat.reduceEqDiff, List.map]; exact rfl) (fun j : Nat × List UInt8 × Nat × Nat => [(0, .sl 1 (bytesAV (xs ++ j.2.1)) (.own j.2.2.1)), (7, .int .i64 ((j.1 : Int) - 1))]) (fun j => .only none' [j.2.2.1] n j.2.2.2)
    (fun j => j.1 ≤ b ∧ m ≤ j.2.2.2 ∧ j.2.1 ++ be j.1 v = be b v) (fun j => j.1) (b, [], t, m) ⟨Nat.le_refl _, Nat.le_refl _, rfl⟩ rfl ?_ ?_
  · simp only [AllSub, go_sem, reduceIte, Nat.reduceEqDiff, Nat.reduceAdd, bx, List.append_nil]; and_intros <;> first | exact trivial | exact VSub.refl _ | exact VSub.any _ | (refine VSub.int ?_; omega)
  · intro j hj
    obtain ⟨r, dn, tk, m'⟩ := j
    obtain ⟨h1, h2, h3⟩ := hj
    simp only at h1 h2 h3
    have hdl : dn.length + r = b := by have := congrArg List.length h3; simp only [List.length_append, be_length] at this; exact this
    refine Wp.seq ?_
    refine Wp.seqReg (by simp only [go_sem, reduceIte, Nat.reduceEqDiff, Nat.reduceAdd, bx]; exact rfl) (by trivial) ?_
    refine Wp.cond_split (b := decide ((0 : Int) ≤ (r : Int) - 1)) (by simp only [go_sem, reduceIte, Nat.reduceEqDiff, Nat.reduceAdd, bx]) (fun hc => ?_) (fun hc => ?_)
    · have hc' : (0 : Int) ≤ (r : Int) - 1 := by simpa using hc
      obtain ⟨i, rfl⟩ : ∃ i, r = i + 1 := ⟨r - 1, by omega⟩
      have e1 : ((i + 1 : Nat) : Int) - 1 = (i : Int) := by omega
      have e2 : IntKind.i64.wrap (8 * (i : Int)) = ((8 * i : Nat) : Int) := by rw [IntWalk.i64_in _ (by omega)]; omega
      have e3 : IntKind.u64.wrap (v : Int) = (v : Int) := IntWalk.u64_in _ (by omega)
      have e4 : ¬ ((8 * i : Nat) : Int) < 0 := by omega
      have e5 := byte_shr v i (by omega)
      have e6 : (bytesAV (xs ++ dn)).length + 1 ≤ 140737488355328 := by rw [bytes_length, List.length_append]; omega
      have e7 : (bytesAV (xs ++ dn)).length + 1 < 4611686018427387904 := by omega
      rw [bytes_length] at e6 e7
      refine Wp.skip ?_
      refine Wp.seq ?_
      refine Wp.block ?_
      rw [e1]
      refine Wp.reg1 (by simp only [go_sem, reduceIte, Nat.reduceEqDiff, Nat.reduceAdd, bx, e2, e3, e4, e5, Nat.mul_one, Nat.one_mul, IntKind.bits, e6, e7, true_and, and_self, if_true, ne_eq, byte, decide_true, Nat.reduceMul, Nat.reduceLeDiff]; exact rfl) (by trivial) ?_
      refine Wp.reg1 (by simp only [go_sem, reduceIte, Nat.reduceEqDiff, Nat.reduceAdd, bx]; simp (disch := omega) only [IntWalk.i64_in]; exact rfl) (by trivial) ?_
      refine ⟨(i, dn ++ [UInt8.ofNat (v / 256 ^ i)], m', m' + 1), ⟨by simp only; omega, by simp only; omega, by rw [← h3]; simp [be]⟩, by simp, ?_⟩
      refine StLe.tm (by simp only [AllSub, go_sem, reduceIte, Nat.reduceEqDiff, Nat.reduceAdd, bx]; and_intros <;> first | exact trivial | exact VSub.refl _ | exact VSub.any _ | exact VSub.of_eq (by simp [bytesAV, byte]) | (refine VSub.int ?_; omega))
    · skip
      refine Wp.exit ?_
      refine Wp.seqReg (by simp only [go_sem, reduceIte, Nat.reduceEqDiff, Nat.reduceAdd, bx]; exact rfl) (by trivial) ?_
      have hr : r = 0 := by have : ¬ (0 : Int) ≤ (r : Int) - 1 := by simpa using hc
                            omega
      subst hr
      have h4 : dn = be b v := by simpa [be] using h3
      subst h4
      refine Wp.ret ⟨trivial, _, rfl, tk, m', h2, ?_, rfl⟩
      simp only [go_sem, reduceIte, Nat.reduceEqDiff]
theorem put64_p (v : Nat) (hv : v < 9223372036854775808) (xs : List UInt8) (hx : xs.length ≤ 1099511627776) : TCalls Try.prog 30 (fun t => [.sl 1 (bytesAV xs) (.own t), .int .i64 v]) (fun t => .sl 1 (bytesAV (xs ++ be 8 v)) (.own t)) := by
  intro t n m
  suffices h : ∃ r h', ACalls Try.prog 30 [.sl 1 (bytesAV xs) (.own t), .int .i64 v] (.only none' [t] n m) r h' ∧ ∃ t' m', m ≤ m' ∧ r = .sl 1 (bytesAV (xs ++ be 8 v)) (.own t') ∧ h' = .only none' [t'] n m' by
    obtain ⟨r, h', ha, t', m', hm, rfl, rfl⟩ := h
    exact ⟨t', m', hm, ha⟩
  refine f30.acalls (by simp) ?_
  unfold c30
  have e1 : IntKind.u64.wrap (v : Int) = (v : Int) := IntWalk.u64_in _ (by omega)
  refine Wp.seqReg (by simp only [go_sem, reduceIte, Nat.reduceEqDiff, Nat.reduceAdd, bx]; exact rfl) (by trivial) ?_
  refine Wp.seqItems (by simp only [go_sem, reduceIte, Nat.reduceEqDiff, Nat.reduceAdd, bx, e1]; exact rfl) ?_
  refine WpItems.tcall t (by simp only [go_sem]) (by simp only [go_sem, reduceIte, Nat.reduceEqDiff, List.map]; exact VSubs.refl _) (by simp only [go_sem]) (put_gen64 f50 v (by omega) 8 (by omega) xs hx) fun t' m' hm => ?_
  refine WpItems.eval (by simp only [go_sem, reduceIte, Nat.reduceEqDiff, Nat.reduceAdd, bx]; exact rfl) ?_
  refine WpItems.nil ⟨by trivial, ?_⟩
  refine Wp.ret ⟨trivial, _, rfl, t', m', hm, ?_, rfl⟩
  simp only [go_sem, reduceIte, Nat.reduceEqDiff]
end Go.Proofs.Ytobokfclaooloaa.Batch
end
section
set_option linter.unusedSimpArgs false
set_option linter.unusedVariables false
set_option maxRecDepth 10000
namespace Go.Proofs.Ytobokfclaooloaa.Batch
open Go Go.Av Go.Proofs Go.Proofs.Ytobokfclaooloaa.C
def val (l : List UInt8) : Nat := l.foldl (fun n c => n * 256 + c.toNat) 0
theorem val_snoc (l : List UInt8) (c : UInt8) : val (l ++ [c]) = val l * 256 + c.toNat := by simp [val]
theorem val_lt (l : List UInt8) : val l < 256 ^ l.length := by
  have key : ∀ (l : List UInt8) (a : Nat), l.foldl (fun n c => n * 256 + c.toNat) a < (a + 1) * 256 ^ l.length := by
    intro l
    induction l with
    | nil => intro a; simp
    | cons c l ih =>
      intro a
      rw [List.foldl_cons, List.length_cons, Nat.pow_succ, Nat.mul_comm (256 ^ l.length) 256, ← Nat.mul_assoc]
      refine Nat.lt_of_lt_of_le (ih _) (Nat.mul_le_mul_right _ ?_)
      have := c.toNat_lt
      omega
  simpa [val] using key l 0
theorem or_byte (v c : Nat) (hv : v < 72057594037927936) (hc : c < 256) : ((BitVec.ofInt 64 ((v * 256 : Nat) : Int)) ||| (BitVec.ofInt 64 (c : Int))).toNat = v * 256 + c := by
  rw [BitVec.toNat_or, BitVec.ofInt_natCast, BitVec.ofInt_natCast, BitVec.toNat_ofNat, BitVec.toNat_ofNat, Nat.mod_eq_of_lt (by omega), Nat.mod_eq_of_lt (by omega)]
  have := Nat.two_pow_add_eq_or_of_lt (i := 8) (b := c) hc v
  rw [Nat.mul_comm v 256]
  exact this.symm
theorem take_val (l : List UInt8) (k : Nat) (h : k < l.length) : val (l.take (k + 1)) = val (l.take k) * 256 + (l.getD k 0).toNat := by
  rw [List.take_succ_eq_append_getElem h, val_snoc, List.getD_eq_getElem?_getD, List.getElem?_eq_getElem h]; rfl
def i64 (l : List UInt8) : Int := IntKind.i64.wrap (val l : Int)
def rdO (b : List UInt8) (p : Nat) : Av.Obj := .cells [.bool true, .sl 1 (bytesAV b) .any, .int .i64 p, .int .i64 0]
theorem cloneB_p (l : List UInt8) (hl : l.length ≤ 4398046511104) : PCalls Try.prog 51 [.sl 1 (bytesAV l) .any] (.sl 1 (bytesAV l) .any) :=
  clone_gen f51 _ (bytes_pure l) (by rw [bytes_length]; omega) (by rw [bytes_length]; omega)
theorem newReader_p (b : List UInt8) (hl : b.length ≤ 4398046511104) (n m : Nat) : ACalls Try.prog 32 [.sl 1 (bytesAV b) .any] (.only none' [] n m) (.ptr n 0) (.only (upd none' n (some (rdO b 0))) [] (n + 1) m) := by
  suffices h : ∃ r h', ACalls Try.prog 32 [.sl 1 (bytesAV b) .any] (.only none' [] n m) r h' ∧ r = .ptr n 0 ∧ h' = (.only (upd none' n (some (rdO b 0))) [] (n + 1) m) by
    obtain ⟨r, h', ha, rfl, rfl⟩ := h; exact ha
  refine f32.acalls (by simp) ?_
  unfold c32
  repeat (first
    | ((first | apply Wp.seqItems | apply Wp.items | ((first
        | (refine WpItems.pcall ?_ ?_ (cloneB_p b hl) ?_; (· simp only [go_sem, reduceIte, Nat.reduceEqDiff, Nat.reduceAdd, bx]); (· simp only [go_sem, reduceIte, Nat.reduceEqDiff, Nat.reduceAdd, bx, List.map]; first | exact VSubs.refl _ | (repeat (first | exact VSubs.nil | refine VSubs.cons (by first | exact VSub.refl _ | assumption | exact VSub.cap | exact VSub.any _) ?_))))); apply WpItems.eval)); (· simp only [go_sem, reduceIte, Nat.reduceEqDiff, Nat.reduceAdd, bx, ax, if_true, if_false, Nat.reduceMul, Nat.reduceLeDiff, rdO]; exact rfl))
    | (refine WpItems.nil ⟨?_, ?_⟩; (· first | trivial | simp [pairsQ, pairsOk, apart, ent0]))
    | (apply Wp.cond_lit; (· simp only [go_sem, reduceIte, Nat.reduceEqDiff, Nat.reduceAdd, bx, ax, if_true, if_false, Nat.reduceMul, Nat.reduceLeDiff, rdO]; exact rfl); (· rfl))
    | refine Wp.skip ?_
    | refine Wp.label ?_
    | refine Wp.block ?_
    | refine Wp.exit ?_
    | refine Wp.seq ?_)
  refine Wp.ret ⟨trivial, _, rfl, ?_, ?_⟩
  · simp only [go_sem, reduceIte, Nat.reduceEqDiff]
  · simp only [go_sem, rdO]; rfl
theorem ready_p (b : List UInt8) (p id : Nat) : RCalls Try.prog 77 [.ptr id 0] (upd none' id (some (rdO b p))) (.bool true) := by
  refine f77.rcalls (by simp) fun n m => ?_
  unfold c77
  repeat (first
    | ((first | apply Wp.seqItems | apply Wp.items); (· simp only [go_sem, reduceIte, Nat.reduceEqDiff, Nat.reduceAdd, bx, ax, if_true, if_false, Nat.reduceMul, Nat.reduceLeDiff, rdO]; exact rfl))
    | (refine WpItems.nil ⟨?_, ?_⟩; (· first | trivial | simp [pairsQ, pairsOk, apart, ent0]))
    | (apply Wp.cond_lit; (· simp only [go_sem, reduceIte, Nat.reduceEqDiff, Nat.reduceAdd, bx, ax, if_true, if_false, Nat.reduceMul, Nat.reduceLeDiff, rdO]; exact rfl); (· rfl))
    | refine Wp.skip ?_
    | refine Wp.label ?_
    | refine Wp.block ?_
    | refine Wp.exit ?_
    | refine Wp.seq ?_)
  refine Wp.ret ⟨trivial, _, rfl, ?_, rfl⟩
  simp only [go_sem, reduceIte, Nat.reduceEqDiff]
theorem number_p (b : List UInt8) (hb : b.length = 8) (id : Nat) : RCalls Try.prog 78 [.ptr id 0, .int .i64 0, .int .i64 8] (upd none' id (some (rdO b 0))) (.tup [.int .u64 (val b), .bool true]) := by
  refine f78.rcalls (by simp) fun n m => ?_
  unfold c78
  have g1 : IntKind.i64.wrap ((b.length : Int) - 0) = 8 := by rw [hb]; rfl
  have g2 : decide ((8 : Int) < 8) = false := by decide
  have g3 : IntKind.i64.wrap (0 + 8) = 8 := rfl
  have x3 : (8 : Int) ≤ (b.length : Int) := by omega
  have lp : (bytesAV b).take 8 = bytesAV b := List.take_of_length_le (by rw [bytes_length]; omega)
  have hv : ∀ j, j ≤ 8 → val (b.take j) < 256 ^ j := fun j hj => by
    have := val_lt (b.take j)
    rwa [List.length_take, hb, Nat.min_eq_left hj] at this
  have tn : Int.toNat 8 = 8 := rfl
  repeat (first
    | ((first | apply Wp.seqItems | apply Wp.items); (· simp only [go_sem, reduceIte, Nat.reduceEqDiff, Nat.reduceAdd, bx, ax, if_true, if_false, Nat.reduceMul, Nat.reduceLeDiff, rdO, g1, g2, g3, x3, lp, tn, Int.toNat_zero, List.drop_zero, Int.le_refl, bytes_length]; exact rfl))
    | (refine WpItems.nil ⟨?_, ?_⟩; (· first | trivial | simp [pairsQ, pairsOk, apart, ent0]))
    | (apply Wp.cond_lit; (· simp only [go_sem, reduceIte, Nat.reduceEqDiff, Nat.reduceAdd, bx, ax, if_true, if_false, Nat.reduceMul, Nat.reduceLeDiff, rdO, g1, g2, g3, x3, lp, tn, Int.toNat_zero, List.drop_zero, Int.le_refl, bytes_length]; exact rfl); (· rfl))
    | refine Wp.skip ?_
    | refine Wp.label ?_
    | refine Wp.block ?_
    | refine Wp.exit ?_
    | refine Wp.seq ?_)
  simp only [List.drop_zero, lp, bytes_length]
  refine Wp.loopK [28, 29] (by simp only [go_sem, reduceIte, Nat.reduceEqDiff, Nat.reduceAdd, bx, List.map]; exact rfl) (fun j : Nat => [(8, .int .u64 (val (b.take j))), (30, .int .i64 j)]) (fun j => j ≤ 8) (fun j => 8 - j) 0 (Nat.zero_le _) ?_ ?_
  · simp only [AllSub, go_sem, reduceIte, Nat.reduceEqDiff, Nat.reduceAdd, bx]; and_intros <;> first | exact trivial | exact VSub.refl _ | exact VSub.any _ | (refine VSub.int ?_; omega)
  · intro j hj
    by_cases hlt : j < 8
    · have d1 : decide ((j : Int) < (b.length : Int)) = true := decide_eq_true (by omega)
      have h1 : (0 : Int) ≤ (j : Int) := by omega
      have h2 : (j : Int) < (b.length : Int) := by omega
      have h3 : j < b.length := by omega
      have hvj := hv j hj
      have hpw : (256 : Nat) ^ j ≤ 256 ^ 7 := Nat.pow_le_pow_right (by omega) (by omega)
      have hc := (b.getD j 0).toNat_lt
      have e1 : IntKind.u64.wrap (((val (b.take j) : Nat) : Int) * 2 ^ (min (Int.toNat 8) 64)) = ((val (b.take j) * 256 : Nat) : Int) := by
        rw [show min (Int.toNat 8) 64 = 8 from rfl, IntWalk.u64_in _ (by omega)]; omega
      have e2 : ¬ (8 : Int) < 0 := by omega
      have e3 : IntKind.u64.wrap (((b.getD j 0).toNat : Nat) : Int) = (((b.getD j 0).toNat : Nat) : Int) := IntWalk.u64_in _ (by omega)
      have e4 : IntKind.u64.wrap (((((BitVec.ofInt (IntKind.bits .u64) ((val (b.take j) * 256 : Nat) : Int)) ||| (BitVec.ofInt (IntKind.bits .u64) (((b.getD j 0).toNat : Nat) : Int))).toNat : Nat)) : Int) = ((val (b.take (j + 1)) : Nat) : Int) := by
        rw [show ((BitVec.ofInt (IntKind.bits .u64) ((val (b.take j) * 256 : Nat) : Int)) ||| (BitVec.ofInt (IntKind.bits .u64) (((b.getD j 0).toNat : Nat) : Int))).toNat = _ from or_byte _ _ (by omega) hc, take_val b j h3, IntWalk.u64_in _ (by omega)]
      have e5 : IntKind.i64.wrap ((j : Int) + 1) = ((j + 1 : Nat) : Int) := by rw [IntWalk.i64_in _ (by omega)]; omega
      repeat (first
        | ((first | apply Wp.seqItems | apply Wp.items); (· simp only [go_sem, reduceIte, Nat.reduceEqDiff, Nat.reduceAdd, bx, ax, if_true, if_false, Nat.reduceMul, Nat.reduceLeDiff, d1, h1, h2, bytes_getD b j _ h3, byte, IntKind.bits, e1, e2, e3, e5, bytes_length]; exact rfl))
        | (refine WpItems.nil ⟨?_, ?_⟩; (· first | trivial | simp [pairsQ, pairsOk, apart, ent0]))
        | (apply Wp.cond_lit; (· simp only [go_sem, reduceIte, Nat.reduceEqDiff, Nat.reduceAdd, bx, ax, if_true, if_false, Nat.reduceMul, Nat.reduceLeDiff, d1, h1, h2, bytes_getD b j _ h3, byte, IntKind.bits, e1, e2, e3, e5, bytes_length]; exact rfl); (· rfl))
        | refine Wp.skip ?_
        | refine Wp.label ?_
        | refine Wp.block ?_
        | refine Wp.exit ?_
        | refine Wp.seq ?_)
      refine ⟨j + 1, by omega, by omega, ?_⟩
      refine StLe.tm (by simp only [AllSub, go_sem, reduceIte, Nat.reduceEqDiff, Nat.reduceAdd, bx]; and_intros <;> first | exact trivial | exact VSub.refl _ | exact VSub.any _ | exact VSub.of_eq (congrArg (AV.int .u64) e4) | (refine VSub.int ?_; omega))
    · obtain rfl : j = 8 := by omega
      have d1 : decide (((8 : Nat) : Int) < (b.length : Int)) = false := decide_eq_false (by omega)
      have hPt : b.take 8 = b := List.take_of_length_le (by omega)
      rw [hPt]
      repeat (first
        | ((first | apply Wp.seqItems | apply Wp.items); (· simp only [go_sem, reduceIte, Nat.reduceEqDiff, Nat.reduceAdd, bx, ax, if_true, if_false, Nat.reduceMul, Nat.reduceLeDiff, d1]; exact rfl))
        | (refine WpItems.nil ⟨?_, ?_⟩; (· first | trivial | simp [pairsQ, pairsOk, apart, ent0]))
        | (apply Wp.cond_lit; (· simp only [go_sem, reduceIte, Nat.reduceEqDiff, Nat.reduceAdd, bx, ax, if_true, if_false, Nat.reduceMul, Nat.reduceLeDiff, d1]; exact rfl); (· rfl))
        | refine Wp.skip ?_
        | refine Wp.label ?_
        | refine Wp.block ?_
        | refine Wp.exit ?_
        | refine Wp.seq ?_)
      refine Wp.ret ⟨trivial, _, rfl, ?_, rfl⟩
      simp only [go_sem, reduceIte, Nat.reduceEqDiff]
theorem plain_p (v : Nat) : PCalls Try.prog 53 [.int .u64 v] (.int .i64 (IntKind.i64.wrap (v : Int))) := by
  refine f53.pcalls0 (by simp) rfl rfl ?_
  unfold c53
  repeat (first
    | ((first | apply Wp.seqItems | apply Wp.items); (· simp only [go_sem, reduceIte, Nat.reduceEqDiff, Nat.reduceAdd, bx, ax, if_true, if_false, Nat.reduceMul, Nat.reduceLeDiff]; exact rfl))
    | (refine WpItems.nil ⟨?_, ?_⟩; (· first | trivial | simp [pairsQ, pairsOk, apart, ent0]))
    | (apply Wp.cond_lit; (· simp only [go_sem, reduceIte, Nat.reduceEqDiff, Nat.reduceAdd, bx, ax, if_true, if_false, Nat.reduceMul, Nat.reduceLeDiff]; exact rfl); (· rfl))
    | refine Wp.skip ?_
    | refine Wp.label ?_
    | refine Wp.block ?_
    | refine Wp.exit ?_
    | refine Wp.seq ?_)
  refine Wp.ret ⟨trivial, _, rfl, ?_⟩
  simp only [go_sem, reduceIte, Nat.reduceEqDiff, Nat.reduceAdd, bx]
  exact VSub.refl _
theorem upd_upd' (id : Nat) (x y : Option Av.Obj) : upd (upd none' id x) id y = upd none' id y := by funext j; simp only [upd]; split <;> rfl
theorem take_p (b : List UInt8) (hb : b.length = 8) (id n m : Nat) : ACalls Try.prog 52 [.ptr id 0, .int .i64 8, .clo (.func 53) [] []] (.only (upd none' id (some (rdO b 0))) [] n m) (.int .i64 (i64 b)) (.only (upd none' id (some (rdO b 8))) [] n m) := by
  suffices h : ∃ r h', ACalls Try.prog 52 [.ptr id 0, .int .i64 8, .clo (.func 53) [] []] (.only (upd none' id (some (rdO b 0))) [] n m) r h' ∧ r = .int .i64 (i64 b) ∧ h' = (.only (upd none' id (some (rdO b 8))) [] n m) by
    obtain ⟨r, h', ha, rfl, rfl⟩ := h; exact ha
  refine f52.acalls (by simp) ?_
  unfold c52
  have hin : ∀ j, ((upd none' id (some (rdO b 0)) : Nat → Option Av.Obj) j).isSome → j ∈ [id] := fun j hj => by
    simp only [upd, none'] at hj
    split at hj
    · rename_i e; rw [e]; simp
    · cases hj
  have g3 : IntKind.i64.wrap (0 + 8) = 8 := rfl
  repeat (first
    | ((first | apply Wp.seqItems | apply Wp.items); (· simp only [go_sem, reduceIte, Nat.reduceEqDiff, Nat.reduceAdd, bx, ax, if_true, if_false, Nat.reduceMul, Nat.reduceLeDiff]; exact rfl))
    | (refine WpItems.nil ⟨?_, ?_⟩; (· first | trivial | simp [pairsQ, pairsOk, apart, ent0]))
    | (apply Wp.cond_lit; (· simp only [go_sem, reduceIte, Nat.reduceEqDiff, Nat.reduceAdd, bx, ax, if_true, if_false, Nat.reduceMul, Nat.reduceLeDiff]; exact rfl); (· rfl))
    | refine Wp.skip ?_
    | refine Wp.label ?_
    | refine Wp.block ?_
    | refine Wp.exit ?_
    | refine Wp.seq ?_)
  refine WpItems.rcall [id] (by simp only [go_sem, reduceIte, Nat.reduceEqDiff]) (by simp only [go_sem, reduceIte, Nat.reduceEqDiff, List.map]; exact VSubs.refl _) (fun j o h => h) hin (ready_p b 0 id) ?_
  refine WpItems.eval (by simp only [go_sem, reduceIte, Nat.reduceEqDiff, Nat.reduceAdd, bx]; exact rfl) ?_
  refine WpItems.nil ⟨by trivial, ?_⟩
  repeat (first
    | ((first | apply Wp.seqItems | apply Wp.items); (· simp only [go_sem, reduceIte, Nat.reduceEqDiff, Nat.reduceAdd, bx, ax, if_true, if_false, Nat.reduceMul, Nat.reduceLeDiff, rdO]; exact rfl))
    | (refine WpItems.nil ⟨?_, ?_⟩; (· first | trivial | simp [pairsQ, pairsOk, apart, ent0]))
    | (apply Wp.cond_lit; (· simp only [go_sem, reduceIte, Nat.reduceEqDiff, Nat.reduceAdd, bx, ax, if_true, if_false, Nat.reduceMul, Nat.reduceLeDiff, rdO]; exact rfl); (· rfl))
    | refine Wp.skip ?_
    | refine Wp.label ?_
    | refine Wp.block ?_
    | refine Wp.exit ?_
    | refine Wp.seq ?_)
  refine WpItems.rcall [id] (by simp only [go_sem, reduceIte, Nat.reduceEqDiff]) (by simp only [go_sem, reduceIte, Nat.reduceEqDiff, List.map]; exact VSubs.refl _) (fun j o h => by simpa only [rdO] using h) (by simpa only [rdO] using hin) (number_p b hb id) ?_
  refine WpItems.eval (by simp only [go_sem, reduceIte, Nat.reduceEqDiff, Nat.reduceAdd, bx]; exact rfl) ?_
  refine WpItems.nil ⟨by trivial, ?_⟩
  repeat (first
    | ((first | apply Wp.seqItems | apply Wp.items); (· simp only [go_sem, reduceIte, Nat.reduceEqDiff, Nat.reduceAdd, bx, ax, if_true, if_false, Nat.reduceMul, Nat.reduceLeDiff, g3, upd_upd']; exact rfl))
    | (refine WpItems.nil ⟨?_, ?_⟩; (· first | trivial | simp [pairsQ, pairsOk, apart, ent0]))
    | (apply Wp.cond_lit; (· simp only [go_sem, reduceIte, Nat.reduceEqDiff, Nat.reduceAdd, bx, ax, if_true, if_false, Nat.reduceMul, Nat.reduceLeDiff, g3, upd_upd']; exact rfl); (· rfl))
    | refine Wp.skip ?_
    | refine Wp.label ?_
    | refine Wp.block ?_
    | refine Wp.exit ?_
    | refine Wp.seq ?_)
  refine WpItems.pcallv (by simp only [go_sem, reduceIte, Nat.reduceEqDiff]) (by simp only [go_sem, reduceIte, Nat.reduceEqDiff]; exact rfl) Try.func53 rfl (of_decide_eq_true (by kernel_rfl)) (by simp only [go_sem, reduceIte, Nat.reduceEqDiff, List.map]; exact VSubs.refl _) (plain_p (val b)) ?_
  refine WpItems.eval (by simp only [go_sem, reduceIte, Nat.reduceEqDiff, Nat.reduceAdd, bx]; exact rfl) ?_
  refine WpItems.nil ⟨by trivial, ?_⟩
  refine Wp.ret ⟨trivial, _, rfl, ?_, ?_⟩
  · simp only [go_sem, reduceIte, Nat.reduceEqDiff, i64]
  · simp only [go_sem, rdO]; rfl
theorem i64_p (b : List UInt8) (hb : b.length = 8) (id n m : Nat) : ACalls Try.prog 33 [.ptr id 0] (.only (upd none' id (some (rdO b 0))) [] n m) (.int .i64 (i64 b)) (.only (upd none' id (some (rdO b 8))) [] n m) := by
  suffices h : ∃ r h', ACalls Try.prog 33 [.ptr id 0] (.only (upd none' id (some (rdO b 0))) [] n m) r h' ∧ r = .int .i64 (i64 b) ∧ h' = (.only (upd none' id (some (rdO b 8))) [] n m) by
    obtain ⟨r, h', ha, rfl, rfl⟩ := h; exact ha
  refine f33.acalls (by simp) ?_
  unfold c33
  repeat (first
    | ((first | apply Wp.seqItems | apply Wp.items); (· simp only [go_sem, reduceIte, Nat.reduceEqDiff, Nat.reduceAdd, bx, ax, if_true, if_false, Nat.reduceMul, Nat.reduceLeDiff]; exact rfl))
    | (refine WpItems.nil ⟨?_, ?_⟩; (· first | trivial | simp [pairsQ, pairsOk, apart, ent0]))
    | (apply Wp.cond_lit; (· simp only [go_sem, reduceIte, Nat.reduceEqDiff, Nat.reduceAdd, bx, ax, if_true, if_false, Nat.reduceMul, Nat.reduceLeDiff]; exact rfl); (· rfl))
    | refine Wp.skip ?_
    | refine Wp.label ?_
    | refine Wp.block ?_
    | refine Wp.exit ?_
    | refine Wp.seq ?_)
  refine WpItems.acall (by simp only [go_sem, reduceIte, Nat.reduceEqDiff]) (by simp only [go_sem, reduceIte, Nat.reduceEqDiff, List.map]; exact VSubs.refl _) (take_p b hb id _ _) (touch_write _ (by simp only [go_sem, reduceIte]; try rfl)) ?_
  refine WpItems.eval (by simp only [go_sem, reduceIte, Nat.reduceEqDiff, Nat.reduceAdd, bx, upd_upd']; exact rfl) ?_
  refine WpItems.nil ⟨by trivial, ?_⟩
  refine Wp.ret ⟨trivial, _, rfl, ?_, ?_⟩
  · simp only [go_sem, reduceIte, Nat.reduceEqDiff]
  · simp only [go_sem, upd_upd']
end Go.Proofs.Ytobokfclaooloaa.Batch
end
section
set_option linter.unusedSimpArgs false
set_option linter.unusedVariables false
set_option maxRecDepth 10000
namespace Go.Proofs.Ytobokfclaooloaa.Space
open Go Go.Av Go.Proofs Go.Proofs.Ytobokfclaooloaa.C Go.Proofs.Ytobokfclaooloaa.Batch
def longV (v : Ver) : Bool := decide ((199 : Int) < (v.v.length : Int))
def mayI (x : It) : Bool := decide ((x.1.length : Int) ≤ 120) && decide (0 < x.2.length) && chB x.2 && !x.2.any longV
def vval (v : Ver) : Bs := if v.d = true then [0] else 1 :: v.v
def prV (k : Bs) (v : Ver) : Pr := ⟨k ++ be 8 (1152921504606846976 - v.t).toNat, vval v⟩
def prI (x : It) : List Pr := x.2.map (prV x.1)
def prL (l : List It) : List Pr := l.flatMap prI
theorem longV_p (v : Ver) : PCalls Try.prog 35 [encV v] (.bool (longV v)) := by
  refine f35.pcalls0 (by simp) (by simp [allPure, encV_pure]) rfl ?_
  unfold c35
  repeat (first
    | ((first | apply Wp.seqItemsR | apply Wp.itemsR); (· simp only [go_sem, reduceIte, Nat.reduceEqDiff, Nat.reduceAdd, bx, ax, if_true, if_false, Nat.reduceMul, Nat.reduceLeDiff, encV]; exact rfl))
    | (refine WpItems.nil ⟨?_, ?_⟩; (· first | trivial | simp [pairsQ, pairsOk, apart, ent0]))
    | (apply Wp.cond_lit; (· simp only [go_sem, reduceIte, Nat.reduceEqDiff, Nat.reduceAdd, bx, ax, if_true, if_false, Nat.reduceMul, Nat.reduceLeDiff, encV]; exact rfl); (· rfl))
    | refine Wp.skip ?_
    | refine Wp.label ?_
    | refine Wp.block ?_
    | refine Wp.exit ?_
    | refine Wp.seq ?_)
  refine Wp.ret ⟨trivial, _, rfl, ?_⟩
  simp only [go_sem, reduceIte, Nat.reduceEqDiff, Nat.reduceAdd, bx]
  exact VSub.refl _
theorem indexV_p (l : List Ver) (hl : l.length ≤ 4611686018427387904) : PCalls Try.prog 55 [.sl 3 (l.map encV) .any, .clo (.func 35) [] []] (.int .i64 (ix longV l)) := by
  refine f55.pcalls0 (by simp) (by simp [allPure, isPure, capPure, vers_pure]) rfl ?_
  unfold c55
  repeat (first
    | ((first | apply Wp.seqItemsR | apply Wp.itemsR); (· simp only [go_sem, reduceIte, Nat.reduceEqDiff, Nat.reduceAdd, bx, ax, if_true, if_false, Nat.reduceMul, Nat.reduceLeDiff, List.length_map]; exact rfl))
    | (refine WpItems.nil ⟨?_, ?_⟩; (· first | trivial | simp [pairsQ, pairsOk, apart, ent0]))
    | (apply Wp.cond_lit; (· simp only [go_sem, reduceIte, Nat.reduceEqDiff, Nat.reduceAdd, bx, ax, if_true, if_false, Nat.reduceMul, Nat.reduceLeDiff, List.length_map]; exact rfl); (· rfl))
    | refine Wp.skip ?_
    | refine Wp.label ?_
    | refine Wp.block ?_
    | refine Wp.exit ?_
    | refine Wp.seq ?_)
  refine Wp.loopK [0, 1, 7] (by simp only [go_sem, reduceIte, Nat.reduceEqDiff, Nat.reduceAdd, bx, List.map]; exact rfl) (fun j : Nat => [(8, .int .i64 j)]) (fun j => j ≤ l.length ∧ ∀ i (hi : i < l.length), i < j → longV l[i] = false) (fun j => l.length - j) 0 ⟨Nat.zero_le _, fun i hi h => absurd h (by omega)⟩ ?_ ?_
  · simp only [AllSub, go_sem, reduceIte, Nat.reduceEqDiff, Nat.reduceAdd, bx]; and_intros <;> first | exact trivial | exact VSub.refl _ | exact VSub.any _ | (refine VSub.int ?_; omega)
  rintro j ⟨hj, hs⟩
  by_cases hc : j < l.length
  · have g1 : decide (((j : Nat) : Int) < ((l.length : Nat) : Int)) = true := decide_eq_true (by omega)
    have h2 : (0 : Int) ≤ ((j : Nat) : Int) := by omega
    have h3 : ((j : Nat) : Int) < ((l.length : Nat) : Int) := by omega
    have e1 : IntKind.i64.wrap (((j : Nat) : Int) + 1) = ((j + 1 : Nat) : Int) := by rw [IntWalk.i64_in _ (by omega)]; omega
    have hat := enc_at encV l j .any hc
    repeat (first
      | ((first | apply Wp.seqItemsR | apply Wp.itemsR); (· simp only [go_sem, reduceIte, Nat.reduceEqDiff, Nat.reduceAdd, bx, ax, if_true, if_false, Nat.reduceMul, Nat.reduceLeDiff, g1, h2, h3, hat, List.length_map]; exact rfl))
      | (refine WpItems.nil ⟨?_, ?_⟩; (· first | trivial | simp [pairsQ, pairsOk, apart, ent0]))
      | (apply Wp.cond_lit; (· simp only [go_sem, reduceIte, Nat.reduceEqDiff, Nat.reduceAdd, bx, ax, if_true, if_false, Nat.reduceMul, Nat.reduceLeDiff, g1, h2, h3, hat, List.length_map]; exact rfl); (· rfl))
      | refine Wp.skip ?_
      | refine Wp.label ?_
      | refine Wp.block ?_
      | refine Wp.exit ?_
      | refine Wp.seq ?_)
    refine WpItems.pcallv (by simp only [go_sem]) (by simp only [go_sem, reduceIte, Nat.reduceEqDiff]; exact rfl) Try.func35 rfl (of_decide_eq_true (by kernel_rfl)) (by simp only [go_sem, reduceIte, Nat.reduceEqDiff, List.map]; exact VSubs.refl _) (longV_p _) ?_
    refine WpItems.evR (by simp only [go_sem, reduceIte, Nat.reduceEqDiff, Nat.reduceAdd, bx]; exact rfl) ?_
    refine WpItems.nil ⟨by trivial, ?_⟩
    cases hd : longV (l.getD j default) with
    | true =>
      repeat (first
        | ((first | apply Wp.seqItemsR | apply Wp.itemsR); (· simp only [go_sem, reduceIte, Nat.reduceEqDiff, Nat.reduceAdd, bx, ax, if_true, if_false, Nat.reduceMul, Nat.reduceLeDiff]; exact rfl))
        | (refine WpItems.nil ⟨?_, ?_⟩; (· first | trivial | simp [pairsQ, pairsOk, apart, ent0]))
        | (apply Wp.cond_lit; (· simp only [go_sem, reduceIte, Nat.reduceEqDiff, Nat.reduceAdd, bx, ax, if_true, if_false, Nat.reduceMul, Nat.reduceLeDiff]; exact rfl); (· rfl))
        | refine Wp.skip ?_
        | refine Wp.label ?_
        | refine Wp.block ?_
        | refine Wp.exit ?_
        | refine Wp.seq ?_)
      refine Wp.ret ⟨trivial, _, rfl, ?_⟩
      simp only [go_sem, reduceIte, Nat.reduceEqDiff, Nat.reduceAdd, bx]
      rw [ix_found hc (by rw [← Batch.getD_el hc]; exact hd) hs]; exact VSub.refl _
    | false =>
      repeat (first
        | ((first | apply Wp.seqItemsR | apply Wp.itemsR); (· simp only [go_sem, reduceIte, Nat.reduceEqDiff, Nat.reduceAdd, bx, ax, if_true, if_false, Nat.reduceMul, Nat.reduceLeDiff, e1]; exact rfl))
        | (refine WpItems.nil ⟨?_, ?_⟩; (· first | trivial | simp [pairsQ, pairsOk, apart, ent0]))
        | (apply Wp.cond_lit; (· simp only [go_sem, reduceIte, Nat.reduceEqDiff, Nat.reduceAdd, bx, ax, if_true, if_false, Nat.reduceMul, Nat.reduceLeDiff, e1]; exact rfl); (· rfl))
        | refine Wp.skip ?_
        | refine Wp.label ?_
        | refine Wp.block ?_
        | refine Wp.exit ?_
        | refine Wp.seq ?_)
      refine ⟨j + 1, ⟨by omega, fun i hi h => ?_⟩, by omega, ?_⟩
      · by_cases he : i = j
        · subst he; rw [← Batch.getD_el hc]; exact hd
        · exact hs i hi (by omega)
      · refine StLe.tm (by simp only [AllSub, go_sem, reduceIte, Nat.reduceEqDiff, Nat.reduceAdd, bx]; and_intros <;> first | exact trivial | exact VSub.refl _ | exact VSub.any _ | (refine VSub.int ?_; omega))
  · obtain rfl : j = l.length := by omega
    have g1 : decide (((l.length : Nat) : Int) < ((l.length : Nat) : Int)) = false := decide_eq_false (by omega)
    repeat (first
      | ((first | apply Wp.seqItemsR | apply Wp.itemsR); (· simp only [go_sem, reduceIte, Nat.reduceEqDiff, Nat.reduceAdd, bx, ax, if_true, if_false, Nat.reduceMul, Nat.reduceLeDiff, g1]; exact rfl))
      | (refine WpItems.nil ⟨?_, ?_⟩; (· first | trivial | simp [pairsQ, pairsOk, apart, ent0]))
      | (apply Wp.cond_lit; (· simp only [go_sem, reduceIte, Nat.reduceEqDiff, Nat.reduceAdd, bx, ax, if_true, if_false, Nat.reduceMul, Nat.reduceLeDiff, g1]; exact rfl); (· rfl))
      | refine Wp.skip ?_
      | refine Wp.label ?_
      | refine Wp.block ?_
      | refine Wp.exit ?_
      | refine Wp.seq ?_)
    refine Wp.ret ⟨trivial, _, rfl, ?_⟩
    simp only [go_sem, reduceIte, Nat.reduceEqDiff, Nat.reduceAdd, bx]
    rw [ix_none fun i hi => hs i hi hi]; exact VSub.refl _
theorem containsV_p (l : List Ver) (hl : l.length ≤ 4611686018427387904) : PCalls Try.prog 37 [.sl 3 (l.map encV) .any, .clo (.func 35) [] []] (.bool (l.any longV)) := by
  refine f37.pcalls0 (by simp) (by simp [allPure, isPure, capPure, vers_pure]) rfl ?_
  unfold c37
  repeat (first
    | ((first | apply Wp.seqItemsR | apply Wp.itemsR | ((first
        | (refine WpItems.pcall ?_ ?_ (indexV_p l hl) ?_; (· simp only [go_sem, reduceIte, Nat.reduceEqDiff, Nat.reduceAdd, bx]); (· simp only [go_sem, reduceIte, Nat.reduceEqDiff, Nat.reduceAdd, bx, List.map]; first | exact VSubs.refl _ | (repeat (first | exact VSubs.nil | refine VSubs.cons (by first | exact VSub.refl _ | assumption | exact VSub.cap | exact VSub.any _) ?_))))); apply WpItems.evR)); (· simp only [go_sem, reduceIte, Nat.reduceEqDiff, Nat.reduceAdd, bx, ax, if_true, if_false, Nat.reduceMul, Nat.reduceLeDiff]; exact rfl))
    | (refine WpItems.nil ⟨?_, ?_⟩; (· first | trivial | simp [pairsQ, pairsOk, apart, ent0]))
    | (apply Wp.cond_lit; (· simp only [go_sem, reduceIte, Nat.reduceEqDiff, Nat.reduceAdd, bx, ax, if_true, if_false, Nat.reduceMul, Nat.reduceLeDiff]; exact rfl); (· rfl))
    | refine Wp.skip ?_
    | refine Wp.label ?_
    | refine Wp.block ?_
    | refine Wp.exit ?_
    | refine Wp.seq ?_)
  refine Wp.ret ⟨trivial, _, rfl, ?_⟩
  simp only [go_sem, reduceIte, Nat.reduceEqDiff, Nat.reduceAdd, bx]
  rw [← ix_nonneg]; exact VSub.refl _
theorem bmay_p (x : It) (hl : x.2.length ≤ 1152921504606846976) : PCalls Try.prog 15 [encI x] (.bool (mayI x)) := by
  refine f15.pcalls0 (by simp) (by simp [allPure, isPure, capPure, encI, vAV, vers_pure]) rfl ?_
  unfold c15
  obtain ⟨q, vs⟩ := x
  have hck := check_p vs (by simp only at hl; omega)
  have hcv := containsV_p vs (by simp only at hl; omega)
  by_cases h1 : (q.length : Int) ≤ 120
  · have d1 := decide_eq_true h1
    cases vs with
    | nil =>
      have e1 : decide ((0 : Int) < ((0 : Nat) : Int)) = false := rfl
      repeat' (first
        | (refine WpItems.nil ⟨?_, ?_⟩; (· first | trivial | simp [pairsQ, pairsOk, apart, ent0]))
        | (apply WpItems.evU; (· simp only [go_sem, reduceIte, Nat.reduceEqDiff, Nat.reduceAdd, bx, ax, if_true, if_false, Nat.reduceMul, Nat.reduceLeDiff, encI, vAV, d1, List.map_nil, List.length_nil, e1, List.length_map]; exact rfl); (· simp only [go_sem, reduceIte, Nat.reduceEqDiff, Nat.reduceAdd, bx, ax, if_true, if_false, Nat.reduceMul, Nat.reduceLeDiff, encI, vAV, d1, List.map_nil, List.length_nil, e1, List.length_map]; exact rfl))
        | (apply WpItems.part 1; (· simp only [go_sem, reduceIte, Nat.reduceEqDiff, Nat.reduceAdd, bx, ax, if_true, if_false, Nat.reduceMul, Nat.reduceLeDiff, encI, vAV, d1, List.map_nil, List.length_nil, e1, List.length_map]; exact rfl); (try simp only [List.drop_succ_cons, List.drop_zero, List.drop_nil]))
        | (refine WpItems.gsplit_dec (p := ?_) ?_ (fun hc => ?_) (fun hc => ?_); rotate_left; (· simp only [go_sem, reduceIte, Nat.reduceEqDiff, Nat.reduceAdd, bx, ax, if_true, if_false, Nat.reduceMul, Nat.reduceLeDiff, encI, vAV, d1, List.map_nil, List.length_nil, e1, List.length_map]; exact rfl))
        | (refine WpItems.gsplit_ndec (p := ?_) ?_ (fun hc => ?_) (fun hc => ?_); rotate_left; (· simp only [go_sem, reduceIte, Nat.reduceEqDiff, Nat.reduceAdd, bx, ax, if_true, if_false, Nat.reduceMul, Nat.reduceLeDiff, encI, vAV, d1, List.map_nil, List.length_nil, e1, List.length_map]; exact rfl))
        | (refine WpItems.gsplit (b := ?_) ?_ (fun hc => ?_) (fun hc => ?_); rotate_left; (· simp only [go_sem, reduceIte, Nat.reduceEqDiff, Nat.reduceAdd, bx, ax, if_true, if_false, Nat.reduceMul, Nat.reduceLeDiff, encI, vAV, d1, List.map_nil, List.length_nil, e1, List.length_map]; exact rfl))
        | refine Wp.seqRegS ?_
        | refine Wp.regS ?_
        | (refine Wp.cond_true ?_ ?_; (· simp only [go_sem, reduceIte, Nat.reduceEqDiff, Nat.reduceAdd, bx, ax, if_true, if_false, Nat.reduceMul, Nat.reduceLeDiff, encI, vAV, d1, List.map_nil, List.length_nil, e1, List.length_map]))
        | (refine Wp.cond_false ?_ ?_; (· simp only [go_sem, reduceIte, Nat.reduceEqDiff, Nat.reduceAdd, bx, ax, if_true, if_false, Nat.reduceMul, Nat.reduceLeDiff, encI, vAV, d1, List.map_nil, List.length_nil, e1, List.length_map]))
        | (refine Wp.cond_dec (p := ?_) ?_ (fun hc => ?_) (fun hc => ?_); rotate_left; (· simp only [go_sem, reduceIte, Nat.reduceEqDiff, Nat.reduceAdd, bx, ax, if_true, if_false, Nat.reduceMul, Nat.reduceLeDiff, encI, vAV, d1, List.map_nil, List.length_nil, e1, List.length_map]; exact rfl))
        | (refine Wp.cond_ndec (p := ?_) ?_ (fun hc => ?_) (fun hc => ?_); rotate_left; (· simp only [go_sem, reduceIte, Nat.reduceEqDiff, Nat.reduceAdd, bx, ax, if_true, if_false, Nat.reduceMul, Nat.reduceLeDiff, encI, vAV, d1, List.map_nil, List.length_nil, e1, List.length_map]; exact rfl))
        | (refine Wp.cond_split (b := ?_) ?_ (fun hc => ?_) (fun hc => ?_); rotate_left; (· simp only [go_sem, reduceIte, Nat.reduceEqDiff, Nat.reduceAdd, bx, ax, if_true, if_false, Nat.reduceMul, Nat.reduceLeDiff, encI, vAV, d1, List.map_nil, List.length_nil, e1, List.length_map]; exact rfl))
        | refine Wp.skip ?_
        | refine Wp.label ?_
        | refine Wp.block ?_
        | refine Wp.exit ?_
        | refine Wp.seq ?_)
      refine Wp.ret ⟨trivial, _, rfl, ?_⟩
      simp only [go_sem, reduceIte, Nat.reduceEqDiff, Nat.reduceAdd, bx]
      simp [mayI]; exact VSub.refl _
    | cons v l =>
      have e1 : decide ((0 : Int) < ((l.length + 1 : Nat) : Int)) = true := decide_eq_true (by omega)
      cases h3 : chB (v :: l) with
      | false =>
        have e2 : decide ((4 : Int) = 0) = false := rfl
        rw [h3] at hck
        repeat' (first
          | (refine WpItems.nil ⟨?_, ?_⟩; (· first | trivial | simp [pairsQ, pairsOk, apart, ent0]))
          | (apply WpItems.evU; (· simp only [go_sem, reduceIte, Nat.reduceEqDiff, Nat.reduceAdd, bx, ax, if_true, if_false, Nat.reduceMul, Nat.reduceLeDiff, encI, vAV, d1, List.length_map, List.length_cons, e1, e2, Bool.false_eq_true, if_false, List.length_map]; exact rfl); (· simp only [go_sem, reduceIte, Nat.reduceEqDiff, Nat.reduceAdd, bx, ax, if_true, if_false, Nat.reduceMul, Nat.reduceLeDiff, encI, vAV, d1, List.length_map, List.length_cons, e1, e2, Bool.false_eq_true, if_false, List.length_map]; exact rfl))
          | (apply WpItems.part 1; (· simp only [go_sem, reduceIte, Nat.reduceEqDiff, Nat.reduceAdd, bx, ax, if_true, if_false, Nat.reduceMul, Nat.reduceLeDiff, encI, vAV, d1, List.length_map, List.length_cons, e1, e2, Bool.false_eq_true, if_false, List.length_map]; exact rfl); (try simp only [List.drop_succ_cons, List.drop_zero, List.drop_nil]))
          | (refine WpItems.pcall ?_ ?_ (hck) ?_; (· simp only [go_sem, reduceIte, Nat.reduceEqDiff, Nat.reduceAdd, bx]); (· simp only [go_sem, reduceIte, Nat.reduceEqDiff, Nat.reduceAdd, bx, List.map, ax, if_true, if_false, Nat.reduceMul, Nat.reduceLeDiff, encI, vAV, d1, List.length_map, List.length_cons, e1, e2, Bool.false_eq_true, if_false, List.length_map]; first | exact VSubs.refl _ | (repeat (first | exact VSubs.nil | refine VSubs.cons (by first | exact VSub.refl _ | assumption | exact VSub.cap | exact VSub.any _) ?_))))
          | (refine WpItems.gsplit_dec (p := ?_) ?_ (fun hc => ?_) (fun hc => ?_); rotate_left; (· simp only [go_sem, reduceIte, Nat.reduceEqDiff, Nat.reduceAdd, bx, ax, if_true, if_false, Nat.reduceMul, Nat.reduceLeDiff, encI, vAV, d1, List.length_map, List.length_cons, e1, e2, Bool.false_eq_true, if_false, List.length_map]; exact rfl))
          | (refine WpItems.gsplit_ndec (p := ?_) ?_ (fun hc => ?_) (fun hc => ?_); rotate_left; (· simp only [go_sem, reduceIte, Nat.reduceEqDiff, Nat.reduceAdd, bx, ax, if_true, if_false, Nat.reduceMul, Nat.reduceLeDiff, encI, vAV, d1, List.length_map, List.length_cons, e1, e2, Bool.false_eq_true, if_false, List.length_map]; exact rfl))
          | (refine WpItems.gsplit (b := ?_) ?_ (fun hc => ?_) (fun hc => ?_); rotate_left; (· simp only [go_sem, reduceIte, Nat.reduceEqDiff, Nat.reduceAdd, bx, ax, if_true, if_false, Nat.reduceMul, Nat.reduceLeDiff, encI, vAV, d1, List.length_map, List.length_cons, e1, e2, Bool.false_eq_true, if_false, List.length_map]; exact rfl))
          | refine Wp.seqRegS ?_
          | refine Wp.regS ?_
          | (refine Wp.cond_true ?_ ?_; (· simp only [go_sem, reduceIte, Nat.reduceEqDiff, Nat.reduceAdd, bx, ax, if_true, if_false, Nat.reduceMul, Nat.reduceLeDiff, encI, vAV, d1, List.length_map, List.length_cons, e1, e2, Bool.false_eq_true, if_false, List.length_map]))
          | (refine Wp.cond_false ?_ ?_; (· simp only [go_sem, reduceIte, Nat.reduceEqDiff, Nat.reduceAdd, bx, ax, if_true, if_false, Nat.reduceMul, Nat.reduceLeDiff, encI, vAV, d1, List.length_map, List.length_cons, e1, e2, Bool.false_eq_true, if_false, List.length_map]))
          | (refine Wp.cond_dec (p := ?_) ?_ (fun hc => ?_) (fun hc => ?_); rotate_left; (· simp only [go_sem, reduceIte, Nat.reduceEqDiff, Nat.reduceAdd, bx, ax, if_true, if_false, Nat.reduceMul, Nat.reduceLeDiff, encI, vAV, d1, List.length_map, List.length_cons, e1, e2, Bool.false_eq_true, if_false, List.length_map]; exact rfl))
          | (refine Wp.cond_ndec (p := ?_) ?_ (fun hc => ?_) (fun hc => ?_); rotate_left; (· simp only [go_sem, reduceIte, Nat.reduceEqDiff, Nat.reduceAdd, bx, ax, if_true, if_false, Nat.reduceMul, Nat.reduceLeDiff, encI, vAV, d1, List.length_map, List.length_cons, e1, e2, Bool.false_eq_true, if_false, List.length_map]; exact rfl))
          | (refine Wp.cond_split (b := ?_) ?_ (fun hc => ?_) (fun hc => ?_); rotate_left; (· simp only [go_sem, reduceIte, Nat.reduceEqDiff, Nat.reduceAdd, bx, ax, if_true, if_false, Nat.reduceMul, Nat.reduceLeDiff, encI, vAV, d1, List.length_map, List.length_cons, e1, e2, Bool.false_eq_true, if_false, List.length_map]; exact rfl))
          | refine Wp.skip ?_
          | refine Wp.label ?_
          | refine Wp.block ?_
          | refine Wp.exit ?_
          | refine Wp.seq ?_)
        refine Wp.ret ⟨trivial, _, rfl, ?_⟩
        simp only [go_sem, reduceIte, Nat.reduceEqDiff, Nat.reduceAdd, bx]
        simp [mayI, h3]; exact VSub.refl _
      | true =>
        have e2 : decide ((0 : Int) = 0) = true := rfl
        rw [h3] at hck
        repeat' (first
          | (refine WpItems.nil ⟨?_, ?_⟩; (· first | trivial | simp [pairsQ, pairsOk, apart, ent0]))
          | (apply WpItems.evU; (· simp only [go_sem, reduceIte, Nat.reduceEqDiff, Nat.reduceAdd, bx, ax, if_true, if_false, Nat.reduceMul, Nat.reduceLeDiff, encI, vAV, d1, List.length_map, List.length_cons, e1, e2, if_true, List.length_map]; exact rfl); (· simp only [go_sem, reduceIte, Nat.reduceEqDiff, Nat.reduceAdd, bx, ax, if_true, if_false, Nat.reduceMul, Nat.reduceLeDiff, encI, vAV, d1, List.length_map, List.length_cons, e1, e2, if_true, List.length_map]; exact rfl))
          | (apply WpItems.part 1; (· simp only [go_sem, reduceIte, Nat.reduceEqDiff, Nat.reduceAdd, bx, ax, if_true, if_false, Nat.reduceMul, Nat.reduceLeDiff, encI, vAV, d1, List.length_map, List.length_cons, e1, e2, if_true, List.length_map]; exact rfl); (try simp only [List.drop_succ_cons, List.drop_zero, List.drop_nil]))
          | (refine WpItems.pcall ?_ ?_ (hck) ?_; (· simp only [go_sem, reduceIte, Nat.reduceEqDiff, Nat.reduceAdd, bx]); (· simp only [go_sem, reduceIte, Nat.reduceEqDiff, Nat.reduceAdd, bx, List.map, ax, if_true, if_false, Nat.reduceMul, Nat.reduceLeDiff, encI, vAV, d1, List.length_map, List.length_cons, e1, e2, if_true, List.length_map]; first | exact VSubs.refl _ | (repeat (first | exact VSubs.nil | refine VSubs.cons (by first | exact VSub.refl _ | assumption | exact VSub.cap | exact VSub.any _) ?_))))
          | (refine WpItems.pcall ?_ ?_ (hcv) ?_; (· simp only [go_sem, reduceIte, Nat.reduceEqDiff, Nat.reduceAdd, bx]); (· simp only [go_sem, reduceIte, Nat.reduceEqDiff, Nat.reduceAdd, bx, List.map, ax, if_true, if_false, Nat.reduceMul, Nat.reduceLeDiff, encI, vAV, d1, List.length_map, List.length_cons, e1, e2, if_true, List.length_map]; first | exact VSubs.refl _ | (repeat (first | exact VSubs.nil | refine VSubs.cons (by first | exact VSub.refl _ | assumption | exact VSub.cap | exact VSub.any _) ?_))))
          | (refine WpItems.gsplit_dec (p := ?_) ?_ (fun hc => ?_) (fun hc => ?_); rotate_left; (· simp only [go_sem, reduceIte, Nat.reduceEqDiff, Nat.reduceAdd, bx, ax, if_true, if_false, Nat.reduceMul, Nat.reduceLeDiff, encI, vAV, d1, List.length_map, List.length_cons, e1, e2, if_true, List.length_map]; exact rfl))
          | (refine WpItems.gsplit_ndec (p := ?_) ?_ (fun hc => ?_) (fun hc => ?_); rotate_left; (· simp only [go_sem, reduceIte, Nat.reduceEqDiff, Nat.reduceAdd, bx, ax, if_true, if_false, Nat.reduceMul, Nat.reduceLeDiff, encI, vAV, d1, List.length_map, List.length_cons, e1, e2, if_true, List.length_map]; exact rfl))
          | (refine WpItems.gsplit (b := ?_) ?_ (fun hc => ?_) (fun hc => ?_); rotate_left; (· simp only [go_sem, reduceIte, Nat.reduceEqDiff, Nat.reduceAdd, bx, ax, if_true, if_false, Nat.reduceMul, Nat.reduceLeDiff, encI, vAV, d1, List.length_map, List.length_cons, e1, e2, if_true, List.length_map]; exact rfl))
          | refine Wp.seqRegS ?_
          | refine Wp.regS ?_
          | (refine Wp.cond_true ?_ ?_; (· simp only [go_sem, reduceIte, Nat.reduceEqDiff, Nat.reduceAdd, bx, ax, if_true, if_false, Nat.reduceMul, Nat.reduceLeDiff, encI, vAV, d1, List.length_map, List.length_cons, e1, e2, if_true, List.length_map]))
          | (refine Wp.cond_false ?_ ?_; (· simp only [go_sem, reduceIte, Nat.reduceEqDiff, Nat.reduceAdd, bx, ax, if_true, if_false, Nat.reduceMul, Nat.reduceLeDiff, encI, vAV, d1, List.length_map, List.length_cons, e1, e2, if_true, List.length_map]))
          | (refine Wp.cond_dec (p := ?_) ?_ (fun hc => ?_) (fun hc => ?_); rotate_left; (· simp only [go_sem, reduceIte, Nat.reduceEqDiff, Nat.reduceAdd, bx, ax, if_true, if_false, Nat.reduceMul, Nat.reduceLeDiff, encI, vAV, d1, List.length_map, List.length_cons, e1, e2, if_true, List.length_map]; exact rfl))
          | (refine Wp.cond_ndec (p := ?_) ?_ (fun hc => ?_) (fun hc => ?_); rotate_left; (· simp only [go_sem, reduceIte, Nat.reduceEqDiff, Nat.reduceAdd, bx, ax, if_true, if_false, Nat.reduceMul, Nat.reduceLeDiff, encI, vAV, d1, List.length_map, List.length_cons, e1, e2, if_true, List.length_map]; exact rfl))
          | (refine Wp.cond_split (b := ?_) ?_ (fun hc => ?_) (fun hc => ?_); rotate_left; (· simp only [go_sem, reduceIte, Nat.reduceEqDiff, Nat.reduceAdd, bx, ax, if_true, if_false, Nat.reduceMul, Nat.reduceLeDiff, encI, vAV, d1, List.length_map, List.length_cons, e1, e2, if_true, List.length_map]; exact rfl))
          | refine Wp.skip ?_
          | refine Wp.label ?_
          | refine Wp.block ?_
          | refine Wp.exit ?_
          | refine Wp.seq ?_)
        refine Wp.ret ⟨trivial, _, rfl, ?_⟩
        simp only [go_sem, reduceIte, Nat.reduceEqDiff, Nat.reduceAdd, bx]
        simp [mayI, h1, h3]; exact VSub.refl _
  · have d1 := decide_eq_false h1
    repeat' (first
      | (refine WpItems.nil ⟨?_, ?_⟩; (· first | trivial | simp [pairsQ, pairsOk, apart, ent0]))
      | (apply WpItems.evU; (· simp only [go_sem, reduceIte, Nat.reduceEqDiff, Nat.reduceAdd, bx, ax, if_true, if_false, Nat.reduceMul, Nat.reduceLeDiff, encI, vAV, d1, List.length_map]; exact rfl); (· simp only [go_sem, reduceIte, Nat.reduceEqDiff, Nat.reduceAdd, bx, ax, if_true, if_false, Nat.reduceMul, Nat.reduceLeDiff, encI, vAV, d1, List.length_map]; exact rfl))
      | (apply WpItems.part 1; (· simp only [go_sem, reduceIte, Nat.reduceEqDiff, Nat.reduceAdd, bx, ax, if_true, if_false, Nat.reduceMul, Nat.reduceLeDiff, encI, vAV, d1, List.length_map]; exact rfl); (try simp only [List.drop_succ_cons, List.drop_zero, List.drop_nil]))
      | (refine WpItems.gsplit_dec (p := ?_) ?_ (fun hc => ?_) (fun hc => ?_); rotate_left; (· simp only [go_sem, reduceIte, Nat.reduceEqDiff, Nat.reduceAdd, bx, ax, if_true, if_false, Nat.reduceMul, Nat.reduceLeDiff, encI, vAV, d1, List.length_map]; exact rfl))
      | (refine WpItems.gsplit_ndec (p := ?_) ?_ (fun hc => ?_) (fun hc => ?_); rotate_left; (· simp only [go_sem, reduceIte, Nat.reduceEqDiff, Nat.reduceAdd, bx, ax, if_true, if_false, Nat.reduceMul, Nat.reduceLeDiff, encI, vAV, d1, List.length_map]; exact rfl))
      | (refine WpItems.gsplit (b := ?_) ?_ (fun hc => ?_) (fun hc => ?_); rotate_left; (· simp only [go_sem, reduceIte, Nat.reduceEqDiff, Nat.reduceAdd, bx, ax, if_true, if_false, Nat.reduceMul, Nat.reduceLeDiff, encI, vAV, d1, List.length_map]; exact rfl))
      | refine Wp.seqRegS ?_
      | refine Wp.regS ?_
      | (refine Wp.cond_true ?_ ?_; (· simp only [go_sem, reduceIte, Nat.reduceEqDiff, Nat.reduceAdd, bx, ax, if_true, if_false, Nat.reduceMul, Nat.reduceLeDiff, encI, vAV, d1, List.length_map]))
      | (refine Wp.cond_false ?_ ?_; (· simp only [go_sem, reduceIte, Nat.reduceEqDiff, Nat.reduceAdd, bx, ax, if_true, if_false, Nat.reduceMul, Nat.reduceLeDiff, encI, vAV, d1, List.length_map]))
      | (refine Wp.cond_dec (p := ?_) ?_ (fun hc => ?_) (fun hc => ?_); rotate_left; (· simp only [go_sem, reduceIte, Nat.reduceEqDiff, Nat.reduceAdd, bx, ax, if_true, if_false, Nat.reduceMul, Nat.reduceLeDiff, encI, vAV, d1, List.length_map]; exact rfl))
      | (refine Wp.cond_ndec (p := ?_) ?_ (fun hc => ?_) (fun hc => ?_); rotate_left; (· simp only [go_sem, reduceIte, Nat.reduceEqDiff, Nat.reduceAdd, bx, ax, if_true, if_false, Nat.reduceMul, Nat.reduceLeDiff, encI, vAV, d1, List.length_map]; exact rfl))
      | (refine Wp.cond_split (b := ?_) ?_ (fun hc => ?_) (fun hc => ?_); rotate_left; (· simp only [go_sem, reduceIte, Nat.reduceEqDiff, Nat.reduceAdd, bx, ax, if_true, if_false, Nat.reduceMul, Nat.reduceLeDiff, encI, vAV, d1, List.length_map]; exact rfl))
      | refine Wp.skip ?_
      | refine Wp.label ?_
      | refine Wp.block ?_
      | refine Wp.exit ?_
      | refine Wp.seq ?_)
    refine Wp.ret ⟨trivial, _, rfl, ?_⟩
    simp only [go_sem, reduceIte, Nat.reduceEqDiff, Nat.reduceAdd, bx]
    simp [mayI, h1]; exact VSub.refl _
theorem pair_p (k : Bs) (hk : k.length ≤ 1000) (v : Ver) (h0 : 0 ≤ v.t) (ht : v.t ≤ 1152921504606846976) (hv : v.v.length ≤ 1000) : PCalls Try.prog 16 [.str k, encV v] (encPr (prV k v)) := by
  refine f16.pcalls0 (by simp) (by simp [allPure, isPure, encV_pure]) (by simp [encPr, isPure, allPure]) ?_
  unfold c16
  have e1 : IntKind.i64.wrap (1152921504606846976 - v.t) = (((1152921504606846976 - v.t).toNat : Nat) : Int) := by rw [IntWalk.i64_in _ (by omega)]; omega
  have hn : (1152921504606846976 - v.t).toNat < 9223372036854775808 := by omega
  have hg : 1 + v.v.length < 9223372036854775808 := by omega
  unfold prV vval
  generalize (1152921504606846976 - v.t).toNat = n at *
  repeat (first
    | ((first | apply Wp.seqItemsR | apply Wp.itemsR); (· simp only [go_sem, reduceIte, Nat.reduceEqDiff, Nat.reduceAdd, bx, ax, if_true, if_false, Nat.reduceMul, Nat.reduceLeDiff, encV, e1]; exact rfl))
    | (refine WpItems.nil ⟨?_, ?_⟩; (· first | trivial | simp [pairsQ, pairsOk, apart, ent0]))
    | (apply Wp.cond_lit; (· simp only [go_sem, reduceIte, Nat.reduceEqDiff, Nat.reduceAdd, bx, ax, if_true, if_false, Nat.reduceMul, Nat.reduceLeDiff, encV, e1]; exact rfl); (· rfl))
    | refine Wp.skip ?_
    | refine Wp.label ?_
    | refine Wp.block ?_
    | refine Wp.exit ?_
    | refine Wp.seq ?_)
  refine WpItems.tcall 0 (by simp only [go_sem]) (by simp only [go_sem, reduceIte, Nat.reduceEqDiff, List.map]; exact VSubs.refl _) (by simp only [go_sem]) (put64_p n hn k (by omega)) fun t1 m1 _ => ?_
  refine WpItems.evR (by simp only [go_sem, reduceIte, Nat.reduceEqDiff, Nat.reduceAdd, bx, unBytes_bytes, true_or, if_true]; exact rfl) ?_
  refine WpItems.nil ⟨by trivial, ?_⟩
  cases hd : v.d with
  | true =>
    repeat (first
      | ((first | apply Wp.seqItemsR | apply Wp.itemsR); (· simp only [go_sem, reduceIte, Nat.reduceEqDiff, Nat.reduceAdd, bx, ax, if_true, if_false, Nat.reduceMul, Nat.reduceLeDiff, hd, Bool.not_true]; exact rfl))
      | (refine WpItems.nil ⟨?_, ?_⟩; (· first | trivial | simp [pairsQ, pairsOk, apart, ent0]))
      | (apply Wp.cond_lit; (· simp only [go_sem, reduceIte, Nat.reduceEqDiff, Nat.reduceAdd, bx, ax, if_true, if_false, Nat.reduceMul, Nat.reduceLeDiff, hd, Bool.not_true]; exact rfl); (· rfl))
      | refine Wp.skip ?_
      | refine Wp.label ?_
      | refine Wp.block ?_
      | refine Wp.exit ?_
      | refine Wp.seq ?_)
    refine Wp.ret ⟨trivial, _, rfl, ?_⟩
    simp only [go_sem, reduceIte, Nat.reduceEqDiff, Nat.reduceAdd, bx]
    simp [encPr]; exact VSub.refl _
  | false =>
    repeat (first
      | ((first | apply Wp.seqItemsR | apply Wp.itemsR); (· simp only [go_sem, reduceIte, Nat.reduceEqDiff, Nat.reduceAdd, bx, ax, if_true, if_false, Nat.reduceMul, Nat.reduceLeDiff, hd, Bool.not_false]; exact rfl))
      | (refine WpItems.nil ⟨?_, ?_⟩; (· first | trivial | simp [pairsQ, pairsOk, apart, ent0]))
      | (apply Wp.cond_lit; (· simp only [go_sem, reduceIte, Nat.reduceEqDiff, Nat.reduceAdd, bx, ax, if_true, if_false, Nat.reduceMul, Nat.reduceLeDiff, hd, Bool.not_false]; exact rfl); (· rfl))
      | refine Wp.skip ?_
      | refine Wp.label ?_
      | refine Wp.block ?_
      | refine Wp.exit ?_
      | refine Wp.seq ?_)
    refine Wp.reg1 (by simp only [go_sem, reduceIte, Nat.reduceEqDiff, Nat.reduceAdd, bx, ax, hg, if_true, Nat.reduceMul, Nat.reduceLeDiff, List.cons_append, List.nil_append, List.length_cons, List.length_nil, Nat.zero_add]; exact rfl) (by trivial) ?_
    repeat (first
      | ((first | apply Wp.seqItemsR | apply Wp.itemsR); (· simp only [go_sem, reduceIte, Nat.reduceEqDiff, Nat.reduceAdd, bx, ax, if_true, if_false, Nat.reduceMul, Nat.reduceLeDiff]; exact rfl))
      | (refine WpItems.nil ⟨?_, ?_⟩; (· first | trivial | simp [pairsQ, pairsOk, apart, ent0]))
      | (apply Wp.cond_lit; (· simp only [go_sem, reduceIte, Nat.reduceEqDiff, Nat.reduceAdd, bx, ax, if_true, if_false, Nat.reduceMul, Nat.reduceLeDiff]; exact rfl); (· rfl))
      | refine Wp.skip ?_
      | refine Wp.label ?_
      | refine Wp.block ?_
      | refine Wp.exit ?_
      | refine Wp.seq ?_)
    refine Wp.ret ⟨trivial, _, rfl, ?_⟩
    simp only [go_sem, reduceIte, Nat.reduceEqDiff, Nat.reduceAdd, bx]
    simp [encPr]; exact VSub.refl _
end Go.Proofs.Ytobokfclaooloaa.Space
end
section
set_option linter.unusedSimpArgs false
set_option linter.unusedVariables false
set_option maxRecDepth 10000
namespace Go.Proofs.Ytobokfclaooloaa.Batch
open Go Go.Av Go.Proofs Go.Proofs.Ytobokfclaooloaa.C
end Go.Proofs.Ytobokfclaooloaa.Batch
end
section
set_option linter.unusedSimpArgs false
set_option linter.unusedVariables false
set_option maxRecDepth 10000
namespace Go.Proofs.Ytobokfclaooloaa.Batch
open Go Go.Av Go.Proofs Go.Proofs.Ytobokfclaooloaa.C
end Go.Proofs.Ytobokfclaooloaa.Batch
end
section
set_option linter.unusedSimpArgs false
set_option linter.unusedVariables false
set_option maxRecDepth 10000
namespace Go.Proofs.Ytobokfclaooloaa.Batch
open Go Go.Av Go.Proofs Go.Proofs.Ytobokfclaooloaa.C
end Go.Proofs.Ytobokfclaooloaa.Batch
end
section
set_option linter.unusedSimpArgs false
set_option linter.unusedVariables false
set_option maxRecDepth 10000
namespace Go.Proofs.Ytobokfclaooloaa.Batch
open Go Go.Av Go.Proofs Go.Proofs.Ytobokfclaooloaa.C
end Go.Proofs.Ytobokfclaooloaa.Batch
end
section
set_option linter.unusedVariables false
set_option linter.unusedSimpArgs false
namespace Go.Av
open Go.ChangeShapes Go.WideShapes Go.ChangeAt Go.RowKit
section
variable {H : Type} {enc : TypeId × Value → H} {P : Program} {w : World}
def G0 : Ghost := ⟨fun _ => False, fun _ => 0, fun _ => False, fun _ => none, fun _ => False, fun _ => none⟩
def wrapE (P : Program) (e : TypeId) (cs : List AV) : AV := if isAggT P e then .agg cs else cs.headD .any
/- how many values and letters stand in a value -/
mutual
def bulkA : AV → Nat
  | .int _ _ => 1
  | .bool _ => 1
  | .str l => l.length + 1
  | .sl _ xs _ => bulkAs xs + 1
  | .agg cs => bulkAs cs
  | _ => 0
def bulkAs : List AV → Nat
  | [] => 0
  | x :: xs => bulkA x + bulkAs xs
end
theorem bulkAs_append : ∀ l m : List AV, bulkAs (l ++ m) = bulkAs l + bulkAs m
  | [], m => by simp [bulkAs]
  | x :: l, m => by simp [bulkAs, bulkAs_append l m]; omega
theorem bulk_wrap (P : Program) (e : TypeId) (cs : List AV) : bulkA (wrapE P e cs) ≤ bulkAs cs := by
  unfold wrapE
  split
  · simp [bulkA]
  · cases cs with
    | nil => simp [bulkA, bulkAs]
    | cons x cs => simp [bulkAs]
structure Bulk (B : DataW H → Nat) (BL : List (DataW H) → Nat) : Prop where
  str : ∀ l, B (.lit (.string l)) = l.length + 1
  int : ∀ k n, B (.lit (.int k n)) = 1
  bool : ∀ b, B (.lit (.bool b)) = 1
  nil : B .nil = 1
  slice : ∀ a b, B (.slice a b) = BL a + BL b + 1
  agg : ∀ a, B (.agg a) = BL a + 1
  nils : BL [] = 0
  cons : ∀ d l, BL (d :: l) = B d + BL l
theorem Bulk.snoc {B : DataW H → Nat} {BL : List (DataW H) → Nat} (hB : Bulk B BL) : ∀ (l : List (DataW H)) (d : DataW H), BL (l ++ [d]) = BL l + B d
  | [], d => by simp [hB.cons, hB.nils]
  | x :: l, d => by simp [hB.cons, Bulk.snoc hB l d]; omega
theorem Bulk.take {B : DataW H → Nat} {BL : List (DataW H) → Nat} (hB : Bulk B BL) : ∀ (l : List (DataW H)) (m : Nat), BL (l.take m) ≤ BL l
  | [], m => by simp
  | x :: l, 0 => by simp [hB.nils]
  | x :: l, m + 1 => by simp [hB.cons, Bulk.take hB l m]
theorem weights_mem_all {P : Program} {e : TypeId} {n : Nat} : ∀ {l : List (DataW H)} {d : DataW H}, d ∈ l → n ∈ d.weights P e → n ∈ DataW.weightsAll P e l
  | x :: l, d, h, hn => by
    simp only [DataW.weightsAll, List.mem_append]
    rcases List.mem_cons.1 h with rfl | h
    · exact .inl hn
    · exact .inr (weights_mem_all h hn)
inductive All2 {α β : Type} (R : α → β → Prop) : List α → List β → Prop
  | nil : All2 R [] []
  | cons {a b l m} : R a b → All2 R l m → All2 R (a :: l) (b :: m)
def Fits (P : Program) : Nat → TypeId → List AV → Prop
  | 0, _, _ => False
  | k + 1, t, xs => match P.underlying t with
    | some .bool => ∃ b, xs = [.bool b]
    | some (.int q) => ∃ n, xs = [.int q n] ∧ (Lit.int q n).wf = true
    | some .string => ∃ l, xs = [.str l] ∧ l.length ≤ reachBytes
    | some (.slice e) => ∃ ys, xs = [.sl (P.cellsOf e) ys .any] ∧ ys.length * P.bytesOf e ≤ reachBytes ∧ ∀ y ∈ ys, ∃ cs, Fits P k e cs ∧ y = wrapE P e cs
    | some (.struct fs) => ∃ xss, xs = xss.flatten ∧ All2 (fun (f : Field) cs => Fits P k f.type cs) fs.toList xss
    | _ => False
def plainT (P : Program) : Nat → TypeId → Bool
  | 0, _ => false
  | k + 1, t => match P.underlying t with
    | some .bool | some (.int _) | some .string => true
    | some (.slice e) => decide (e < P.types.size) && decide (0 < P.cellsOf e) && (isAggT P e || decide (P.cellsOf e = 1)) && plainT P k e
    | some (.struct fs) => decide (t < P.types.size) && fs.all fun f => plainT P k f.type
    | _ => false
theorem cell_spot {a : Addr} {v : Value} (h : w.cell? a = some v) : a.spot = none := by
  unfold World.cell? at h
  split at h
  · split at h
    · cases h
    · rename_i hs; cases hh : a.spot with
      | none => rfl
      | some x => simp [hh] at hs
  · cases h
theorem one_of_bool (b : Bool) : One (.bool b) := ⟨fun _ => by simp, fun _ => by simp⟩
theorem one_of_int (k : IntKind) (n : Int) : One (.int k n) := ⟨fun _ => by simp, fun _ => by simp⟩
theorem one_of_str (s : ByteArray) : One (.string s) := ⟨fun _ => by simp, fun _ => by simp⟩
theorem one_of_sl (a : Option Addr) (l c : Nat) : One (.slice a l c) := ⟨fun _ => by simp, fun _ => by simp⟩
theorem fields_split {R : Field → List AV → Prop} {G : Ghost} {B : DataW H → Nat} {BL : List (DataW H) → Nat} (hB : Bulk B BL) (full : List Value) (rd : Field → List Value → DataW H → Prop)
    (hrd : ∀ f cs d, rd f cs d → ∃ xs, R f xs ∧ VRels G w xs cs ∧ (∀ v ∈ cs, One v) ∧ bulkAs xs ≤ B d) : ∀ (fs : List Field) (ds : List (DataW H)) (off : Nat), ds.length = fs.length →
    (∀ (j : Nat) f, fs[j]? = some f → f.offset = off + ((fs.take j).map fun f => P.cellsOf f.type).sum) → full.length = off + (fs.map fun f => P.cellsOf f.type).sum →
    (∀ (j : Nat) f d, fs[j]? = some f → ds[j]? = some d → rd f ((full.drop f.offset).take (P.cellsOf f.type)) d) → ∃ xss, All2 R fs xss ∧ VRels G w xss.flatten (full.drop off) ∧ (∀ v ∈ full.drop off, One v) ∧ bulkAs xss.flatten ≤ BL ds
  | [], ds, off, hl, h1, h2, h3 => by
    have e : full.drop off = [] := List.drop_eq_nil_of_le (by simp at h2; omega)
    exact ⟨[], .nil, by rw [e]; exact .nil, by rw [e]; simp, by simp [bulkAs]⟩
  | f :: fs, [], off, hl, h1, h2, h3 => by cases hl
  | f :: fs, d :: ds, off, hl, h1, h2, h3 => by
    have o0 : f.offset = off := by simpa using h1 0 f rfl
    have hf := h3 0 f d rfl rfl
    rw [o0] at hf
    obtain ⟨xs, r1, r2, r3, r4⟩ := hrd f _ d hf
    obtain ⟨xss, q1, q2, q3, q4⟩ := fields_split hB full rd hrd fs ds (off + P.cellsOf f.type) (by simpa using hl) (fun j g hj => by
      have := h1 (j + 1) g (by simpa using hj)
      simp only [List.take_succ_cons, List.map_cons, List.sum_cons] at this; omega) (by simp only [List.map_cons, List.sum_cons] at h2; omega) (fun j g d' hg hd => h3 (j + 1) g d' (by simpa using hg) (by simpa using hd))
    have e : full.drop off = (full.drop off).take (P.cellsOf f.type) ++ full.drop (off + P.cellsOf f.type) := by
      rw [← List.drop_drop, List.take_append_drop]
    refine ⟨xs :: xss, .cons r1 q1, ?_, ?_, ?_⟩
    · rw [e, List.flatten_cons]; exact r2.append q2
    · rw [e]; intro v hv
      rcases List.mem_append.1 hv with hv | hv
      · exact r3 v hv
      · exact q3 v hv
    · rw [List.flatten_cons, bulkAs_append, hB.cons]; omega
theorem wrapE_rel {e : TypeId} {cs : List AV} {vs : List Value} (hs : vs.length = P.cellsOf e) (hr : VRels G0 w cs vs) (ho : ∀ v ∈ vs, One v) (hc : isAggT P e = false → P.cellsOf e = 1) :
    ∃ v : Value, v.cells.toList = vs ∧ VRel G0 w (wrapE P e cs) v := by
  unfold wrapE
  cases ha : isAggT P e with
  | true => exact ⟨.agg vs.toArray, by simp [Value.cells], by simp only [if_true, VRel]; exact ⟨vs, rfl, hr⟩⟩
  | false =>
    rw [hc ha] at hs
    obtain ⟨v, rfl⟩ := List.length_eq_one_iff.1 hs
    have hl := hr.length
    obtain ⟨x, rfl⟩ := List.length_eq_one_iff.1 (show cs.length = 1 by simpa using hl.symm)
    simp only [VRels] at hr
    obtain ⟨v', us, e1, hv, e2⟩ := hr
    cases e1
    refine ⟨v, ?_, by simpa using hv⟩
    have := ho v (by simp)
    cases v <;> first | rfl | exact absurd rfl (this.1 _) | exact absurd rfl (this.2 _)
theorem Fits.slice {k : Nat} {t e : TypeId} {ys : List AV} (ht : P.underlying t = some (.slice e)) (h1 : ys.length * P.bytesOf e ≤ reachBytes) (h2 : ∀ y ∈ ys, ∃ cs, Fits P k e cs ∧ y = wrapE P e cs) : Fits P (k + 1) t [.sl (P.cellsOf e) ys .any] := by
  unfold Fits; rw [ht]; exact ⟨ys, rfl, h1, h2⟩
theorem trod_fits (hl : laidOutB P = true) {B : DataW H → Nat} {BL : List (DataW H) → Nat} (hB : Bulk B BL) : ∀ (k : Nat) (t : TypeId), plainT P k t = true → ∀ (fuel : Nat) (cs : List Value) (x : DataW H × List MemPlace),
    DataW.trod enc P w 0 (fun _ => true) true fuel t cs = some x → (∀ n ∈ x.1.weights P t, n ≤ reachBytes) → ∃ xs, Fits P k t xs ∧ VRels G0 w xs cs ∧ (∀ v ∈ cs, One v) ∧ bulkAs xs ≤ B x.1 := by
  intro k
  induction k with
  | zero => intro t h; cases h
  | succ k ih =>
    intro t hp fuel cs x hx hwt
    simp only [plainT] at hp
    split at hp
    · rename_i ht
      obtain ⟨b, rfl, rfl⟩ := DataW.trod_bool ht hx
      exact ⟨[.bool b], by simp only [Fits, ht]; exact ⟨b, rfl⟩, .cons (by simp [VRel]) .nil, by simp [one_of_bool], by simp [hB.bool, bulkAs, bulkA]⟩
    · rename_i q ht
      obtain ⟨n, rfl, rfl, hw⟩ := DataW.trod_int ht hx
      exact ⟨[.int q n], by simp only [Fits, ht]; exact ⟨n, rfl, hw⟩, .cons (by simp [VRel]) .nil, by simp [one_of_int], by simp [hB.int, bulkAs, bulkA]⟩
    · rename_i ht
      obtain ⟨s, rfl, rfl, -⟩ := DataW.trod_string ht hx
      refine ⟨[.str s.data.toList], by simp only [Fits, ht]; exact ⟨_, rfl, hwt _ (by simp [DataW.weights])⟩, .cons (by simp [VRel]) .nil, by simp [one_of_str], by simp [hB.str, bulkAs, bulkA]⟩
    · rename_i e ht
      simp only [Bool.and_eq_true, decide_eq_true_eq] at hp
      obtain ⟨⟨⟨-, hsz⟩, hag⟩, hpe⟩ := hp
      rcases DataW.trod_slice ht hx with ⟨rfl, rfl⟩ | ⟨a, len, cap, elems, rest, n, rfl, rfl, rfl, hb, hlc, hcm, hel, hread, hrest, -⟩
      · refine ⟨[.sl (P.cellsOf e) [] .any], Fits.slice ht (by simp) (fun y hy => by cases hy), .cons ?_ .nil, by simp [one_of_sl], by simp [hB.nil, bulkAs, bulkA]⟩
        unfold VRel; exact .inl ⟨rfl, ⟨none, rfl⟩, trivial⟩
      · have hone : isAggT P e = false → P.cellsOf e = 1 := by
          intro ha
          simpa [ha] using hag
        -- the cells of each element
        have each : ∀ i, i < len → ∃ vs xs, w.cells? 0 (a.add (i * P.cellsOf e)) (P.cellsOf e) = some vs ∧ Fits P k e xs ∧ VRels G0 w xs vs ∧ (∀ v ∈ vs, One v) ∧ ∀ y, elems[i]? = some y → bulkAs xs ≤ B y.1 := by
          intro i hi
          have h := hread i hi
          rw [List.getElem?_eq_getElem (by omega)] at h
          obtain ⟨vs, h1, h2⟩ := Option.bind_eq_some_iff.1 h
          obtain ⟨xs, h3, h4, h5, h6⟩ := ih e hpe n vs _ h2 (fun m hm => hwt m (by
            simp only [DataW.weights, ht, List.mem_cons, List.mem_append]
            exact .inr (.inl (weights_mem_all (List.mem_map.2 ⟨_, List.getElem_mem (by omega), rfl⟩) hm))))
          exact ⟨vs, xs, h1, h3, h4, h5, fun y hy => by rw [List.getElem?_eq_getElem (by omega)] at hy; cases hy; exact h6⟩
        have build : ∀ m, m ≤ len → ∃ ys vs, ys.length = m ∧ vs.length = m * P.cellsOf e ∧ (∀ y ∈ ys, ∃ cs, Fits P k e cs ∧ y = wrapE P e cs) ∧ VElems G0 w (P.cellsOf e) ys vs ∧ (∀ (i : Nat) v, vs[i]? = some v → w.cell? (a.add i) = some v ∧ One v) ∧ bulkAs ys ≤ BL ((elems.map (·.1)).take m) := by
          intro m
          induction m with
          | zero => intro _; exact ⟨[], [], rfl, by simp, by simp, by simp [VElems], by simp, by simp [bulkAs]⟩
          | succ m ihm =>
            intro hm
            obtain ⟨ys, vs, k1, k2, k3, k4, k5, k6⟩ := ihm (by omega)
            obtain ⟨us, xs, e1, e2, e3, e4, eb⟩ := each m (by omega)
            obtain ⟨-, e5, e6⟩ := World.cells?_some e1
            obtain ⟨v, hv1, hv2⟩ := wrapE_rel e5 e3 e4 hone
            refine ⟨ys ++ [wrapE P e xs], vs ++ us, by simp [k1], by simp [k2, e5, Nat.add_mul], ?_, ?_, ?_, ?_⟩
            · intro y hy
              rcases List.mem_append.1 hy with hy | hy
              · exact k3 y hy
              · simp at hy; exact ⟨xs, e2, hy⟩
            · refine k4.append ?_
              simp only [VElems]
              exact ⟨v, [], by simp [hv1], by rw [← Array.length_toList, hv1, e5], hv2, rfl⟩
            · intro i z hz
              rcases Nat.lt_or_ge i vs.length with hi | hi
              · rw [List.getElem?_append_left hi] at hz; exact k5 i z hz
              · rw [List.getElem?_append_right hi] at hz
                have hlt : i - vs.length < us.length := (List.getElem?_eq_some_iff.1 hz).1
                have := e6 (i - vs.length) (by omega)
                rw [hz] at this
                have ea : (a.add (m * P.cellsOf e)).add (i - vs.length) = a.add i := by
                  rw [← k2]
                  unfold Addr.add
                  by_cases h0 : vs.length = 0
                  · simp [h0]
                  · by_cases h1 : i - vs.length = 0
                    · have : i = vs.length := by omega
                      subst this; simp
                    · have : i ≠ 0 := by omega
                      simp [h0, h1, this]; omega
                rw [ea] at this
                exact ⟨this, e4 z (List.mem_of_getElem? hz)⟩
            · have hlt : m < (elems.map (·.1)).length := by simp; omega
              rw [List.take_succ_eq_append_getElem hlt, hB.snoc, bulkAs_append]
              have h1 := eb _ (List.getElem?_eq_getElem (by omega))
              have h2 := bulk_wrap P e xs
              simp only [List.getElem_map, bulkAs]
              omega
        obtain ⟨ys, vs, k1, k2, k3, k4, k5, k6⟩ := build len (Nat.le_refl _)
        refine ⟨[.sl (P.cellsOf e) ys .any], Fits.slice ht ?_ k3, .cons ?_ .nil, by simp [one_of_sl], ?_⟩
        · have := hwt ((elems.length + rest.length) * P.bytesOf e) (by simp [DataW.weights, ht])
          exact Nat.le_trans (Nat.mul_le_mul_right _ (by omega)) this
        rotate_left
        · have := hB.take (elems.map (·.1)) len
          simp only [hB.slice, bulkAs, bulkA]
          omega
        unfold VRel
        by_cases hcap : cap = 0
        · have : ys = [] := List.length_eq_zero_iff.1 (by omega)
          exact .inl ⟨this, ⟨some a, by simp; omega⟩, by simp [CapNil]⟩
        · have hspot : a.spot = none := by
            by_cases hl0 : len = 0
            · obtain ⟨hr1, hr2⟩ := hrest rfl
              have h := hr2 0 (by omega)
              rw [List.getElem?_eq_getElem (by omega)] at h
              obtain ⟨vs', h1, h2⟩ := Option.bind_eq_some_iff.1 h
              obtain ⟨-, g1, g2⟩ := World.cells?_some h1
              have := g2 0 hsz
              rw [List.getElem?_eq_getElem (by omega)] at this
              have := cell_spot this
              simpa [hl0, Addr.add] using this
            · obtain ⟨us, xs, e1, e2, e3, e4, -⟩ := each 0 (by omega)
              obtain ⟨-, g1, g2⟩ := World.cells?_some e1
              have := g2 0 hsz
              rw [List.getElem?_eq_getElem (by omega)] at this
              have := cell_spot this
              simpa [Addr.add] using this
          obtain ⟨B, off, sp⟩ := a
          simp only at hspot
          subst hspot
          refine .inr ⟨B, off, cap, vs, by simp [k1], by omega, by rw [k2, k1], k4, fun i v hv => ?_, by simp [CapOk]⟩
          obtain ⟨c1, c2⟩ := k5 i v hv
          rw [add_plain] at c1
          exact ⟨c1, c2, by simp [G0], by simp [G0]⟩
    · rename_i fs ht
      simp only [Bool.and_eq_true, decide_eq_true_eq] at hp
      obtain ⟨hlt, hp⟩ := hp
      rw [Array.all_eq_true_iff_forall_mem] at hp
      obtain ⟨xs, n, rfl, rfl, hlen, hxl, hread⟩ := DataW.trod_struct ht hx
      obtain ⟨-, hsum, hoff⟩ := kid_struct hl hlt ht
      obtain ⟨xss, q1, q2, q3, q4⟩ := fields_split (P := P) (R := fun (f : Field) cs => Fits P k f.type cs) (G := G0) (w := w) hB cs
        (fun f us d => plainT P k f.type = true ∧ ∃ y, DataW.trod enc P w 0 (fun _ => true) true n f.type us = some y ∧ y.1 = d ∧ ∀ m ∈ d.weights P f.type, m ≤ reachBytes)
        (fun f us d ⟨h1, y, h2, h3, h4⟩ => by subst h3; exact ih f.type h1 n us y h2 h4) fs.toList (xs.map (·.1)) 0 (by simp [hxl]) (fun j f hj => by rw [hoff j f hj]; omega) (by rw [hlen, hsum]; omega)
        (fun i f d hi hd => by
          refine ⟨hp f (by have := List.mem_of_getElem? hi; simpa using this), ?_⟩
          have h := hread i f (by simpa using hi)
          rw [List.getElem?_map] at hd
          cases hxi : xs[i]? with
          | none => rw [hxi] at hd; cases hd
          | some y =>
            rw [hxi] at h hd
            refine ⟨y, h, by simpa using hd, fun m hm => hwt m ?_⟩
            simp only [DataW.weights, ht]
            exact DataW.weights_mem_each (j := i) (t := f.type) (d := d) (by rw [List.getElem?_map, hi]; rfl) (by rw [List.getElem?_map, hxi]; exact hd) m hm)
      refine ⟨xss.flatten, by simp only [Fits, ht]; exact ⟨xss, rfl, q1⟩, by simpa using q2, by simpa using q3, ?_⟩
      rw [hB.agg]; omega
    · cases hp
def ArgFits (P : Program) (k : Nat) (t : TypeId) (a : AV) : Prop := ∃ cs, Fits P k t cs ∧ a = wrapE P t cs
theorem arg_rel {k : Nat} {t : TypeId} {v : Value} {xs : List AV} {base : Nat} (hp : plainT P k t = true) (hok : Value.okWide P w .any base t v) (hr : VRels G0 w xs v.cells.toList) (ho : ∀ u ∈ v.cells.toList, One u) : VRel G0 w (wrapE P t xs) v := by
  unfold wrapE
  cases ha : isAggT P t with
  | true =>
    have : ∃ cs, v = .agg cs := by
      unfold isAggT at ha
      unfold Value.okWide at hok
      split at ha
      · rename_i h; rw [h] at hok; obtain ⟨cs, h, -⟩ := hok; exact ⟨cs, h⟩
      · rename_i h; rw [h] at hok; obtain ⟨cs, h, -⟩ := hok; exact ⟨cs, h⟩
      · cases ha
    obtain ⟨cs, rfl⟩ := this
    simp only [if_true, VRel]
    exact ⟨cs.toList, by simp, by simpa [Value.cells] using hr⟩
  | false =>
    have hv : v.cells = #[v] := by
      cases v <;> try rfl
      exfalso
      cases k with
      | zero => cases hp
      | succ k =>
        unfold plainT at hp
        unfold isAggT at ha
        unfold Value.okWide Cell.okWide Cell.ok at hok
        split at hp
        all_goals (try (rename_i h; rw [h] at hok ha; simp at hok ha; done))
        all_goals (try (rename_i h; rw [h] at hok ha; simp at hok; done))
        all_goals simp_all
    rw [hv] at hr
    have hl := hr.length
    obtain ⟨x, rfl⟩ := List.length_eq_one_iff.1 (show xs.length = 1 by simpa using hl.symm)
    simp only [VRels] at hr
    obtain ⟨v', us, e1, hx, e2⟩ := hr
    cases e1
    simpa using hx
theorem args_fit (hl : laidOutB P = true) {B : DataW H → Nat} {BL : List (DataW H) → Nat} (hB : Bulk B BL) {k : Nat} {base : Nat} : ∀ {ts us : List TypeId} {vs : List Value} {ds : List (DataW H)} {ps : List MemPlace}, (∀ t ∈ ts, plainT P k t = true) →
    (∀ (j : Nat) t v, ts[j]? = some t → vs[j]? = some v → Value.okWide P w .any base t v) → (∀ n ∈ DataW.weightsEach P (ts ++ us) ds, n ≤ reachBytes) → DataW.TrodAll enc P w 0 (fun _ => true) true ts vs ds ps → ∃ avs, All2 (ArgFits P k) ts avs ∧ VRels G0 w avs vs ∧ bulkAs avs ≤ BL ds
  | [], us, [], [], _, _, _, _, _ => ⟨[], .nil, .nil, by simp [bulkAs]⟩
  | t :: ts, us, v :: vs, d :: ds, _, hp, hok, hwt, ⟨p, q, ⟨fuel, h1⟩, h2, _⟩ => by
    obtain ⟨xs, f1, f2, f3, f4⟩ := trod_fits hl hB k t (hp t (by simp)) fuel _ _ h1 (fun n hn => hwt n (by simp only [List.cons_append, DataW.weightsEach, List.mem_append]; exact .inl hn))
    obtain ⟨avs, g1, g2, g3⟩ := args_fit hl hB (us := us) (fun t ht => hp t (by simp [ht])) (fun j t v a b => hok (j + 1) t v (by simpa using a) (by simpa using b)) (fun n hn => hwt n (by simp only [List.cons_append, DataW.weightsEach, List.mem_append]; exact .inr hn)) h2
    refine ⟨wrapE P t xs :: avs, .cons ⟨xs, f1, rfl⟩ g1, .cons (arg_rel (hp t (by simp)) (hok 0 t v rfl rfl) f2 f3) g2, ?_⟩
    have := bulk_wrap P t xs
    simp only [bulkAs, hB.cons] at f4 ⊢
    omega
theorem trodAll_len {sp : Nat → Bool} : ∀ {ts : List TypeId} {vs : List Value} {ds : List (DataW H)} {ps : List MemPlace}, DataW.TrodAll enc P w 0 sp true ts vs ds ps → ds.length = ts.length
  | [], [], [], _, h => rfl
  | t :: ts, v :: vs, d :: ds, _, ⟨p, q, h1, h2, e⟩ => by simp [trodAll_len h2]
theorem trodAll_carry {w' : World} {sp : Nat → Bool} : ∀ {ts : List TypeId} {vs : List Value} {ds : List (DataW H)} {ps : List MemPlace}, DataW.TrodAll enc P w 0 sp true ts vs ds ps → (∀ p ∈ ps, w.sameAt w' p) → DataW.TrodAll enc P w' 0 sp true ts vs ds ps
  | [], [], [], _, h, _ => h
  | t :: ts, v :: vs, d :: ds, _, ⟨p, q, ⟨fuel, h1⟩, h2, e⟩, hs => by
    subst e
    exact ⟨p, q, ⟨fuel, DataW.trod_carry fuel _ _ _ h1 (fun x hx => hs x (List.mem_append_left _ hx))⟩, trodAll_carry h2 (fun x hx => hs x (List.mem_append_right _ hx)), rfl⟩
theorem calls_row (hl : laidOutB P = true) {B : DataW H → Nat} {BL : List (DataW H) → Nat} (hB : Bulk B BL) (hm : mapsRowed P = true) (hz : ∀ t e, t < P.types.size → P.underlying t = some (.slice e) → 0 < P.cellsOf e) {f : FuncId} {fn : Func} {s : ChangeSpec} {k base : Nat} {W : World} {args : Array Value} {ds gs : List (DataW H)} {before : List MemPlace} {tb : TypeId}
    (hvars : s.vars = []) (hfn : ∀ l : List (DataW H), l.length = fn.params.size → s.fn H l = { results := [.lit (.bool true)], args := l }) (hrt : fn.resultTypes = #[tb]) (htb : P.underlying tb = some .bool)
    (hpl' : fn.params.toList.all (plainT P k) = true) (hlt' : fn.params.toList.all (fun t => decide (t < P.types.size)) = true)
    (hval : ∀ (j : Nat) t v, fn.params[j]? = some t → args[j]? = some v → Value.okWide P W .any base t v) (hW : DataW.Whole enc P fn.params.toList s.vars false W args.toList ds gs before)
    {us : List TypeId} (hwt : (DataW.weightsEach P (fn.params.toList ++ us) (ds ++ gs)).all (· ≤ reachBytes) = true)
    (law : ∀ avs, All2 (ArgFits P k) fn.params.toList avs → bulkAs avs ≤ BL (ds ++ gs) → PCalls P f avs (.bool true)) :
    Calls P f args W fun e W' => ∃ v, e = .returned v ∧ s.post enc P fn false true false false W args v W' := by
  have hpl : ∀ t ∈ fn.params.toList, plainT P k t = true := List.all_eq_true.1 hpl'
  have hlt : ∀ t ∈ fn.params.toList, t < P.types.size := fun t ht => of_decide_eq_true (List.all_eq_true.1 hlt' t ht)
  have hW' := hW
  obtain ⟨p, q, hA, hV, rfl, -, -⟩ := hW
  rw [hvars] at hV
  obtain ⟨rfl, rfl⟩ := trodVars_none hV
  rw [List.append_nil] at hwt law
  obtain ⟨avs, g1, g2, g3⟩ := args_fit hl hB hpl (fun j t v a b => hval j t v (by simpa using a) (by simpa using b)) (fun n hn => of_decide_eq_true (List.all_eq_true.1 hwt n hn)) hA
  have hlaw := law avs g1 g3 0 0 G0 W args.toList g2 only_rep ⟨fun _ _ _ h => h, fun _ _ _ h => h⟩
  rw [show args.toList.toArray = args from Array.toArray_toList] at hlaw
  refine hlaw.mono ?_
  rintro e W' ⟨v, G', he, T, -, hv⟩
  subst he
  simp only [VRel] at hv
  subst hv
  have keep : ∀ B, B < W.heap.size → W'.heap[B]? = W.heap[B]? := fun B hB => T.keep B hB (fun x => only_O B x) (fun ⟨t, ht, _⟩ => by simp [H0, Av.H.only] at ht)
  have hlt' : ∀ x ∈ p, x.block < W.heap.size := DataW.TrodAll.lt hA
  have hlen := trodAll_len hA
  refine ⟨_, rfl, ds, [], p ++ [], [], p, [], hW', ?_, ?_, ?_, ?_, fun h => by cases h⟩
  · rw [hfn _ (by simpa using hlen), hrt]
    exact trodAll_mk1 (shut_bool htb _)
  · rw [hfn _ (by simpa using hlen)]
    have := DataW.TrodAll.respare (kids_rows hl hm) hz (spare' := fun b => decide (b < W.heap.size)) hlt hA (fun x hx => by simpa using hlt' x hx)
    simp only [List.append_nil]
    refine trodAll_carry this fun x hx => ?_
    have hb := hlt' x hx
    cases x with
    | cell b off => unfold World.sameAt World.cell?; simp only; rw [keep b hb]
    | map b => exact keep b hb
  · rw [hvars, hfn _ (by simpa using hlen)]
    rfl
  · refine ⟨T.os, T.output, fun i hi => ?_⟩
    rw [keep i hi]
    generalize W.heap[i]? = o
    cases o with
    | none => rfl
    | some o => cases o <;> simp
end
end Go.Av
end
section
set_option linter.unusedSimpArgs false
set_option linter.unusedVariables false
set_option maxRecDepth 100000
namespace Go.Proofs.Ytobokfclaooloaa.Batch
open Go Go.Av Go.Proofs Go.Proofs.Ytobokfclaooloaa.C
theorem laid : laidOutB Try.prog = true := by kernel_rfl
theorem full : ∀ t e, t < Try.prog.types.size → Try.prog.underlying t = some (.slice e) → 0 < Try.prog.cellsOf e := slices_full_of Try.prog (by kernel_rfl)
theorem own : ownKnob Try.prog.godebug = none := by kernel_rfl
end Go.Proofs.Ytobokfclaooloaa.Batch
end
section
set_option linter.unusedSimpArgs false
set_option linter.unusedVariables false
set_option maxRecDepth 10000
namespace Go.Proofs.Ytobokfclaooloaa.Batch
open Go Go.Av Go.Proofs Go.Proofs.Ytobokfclaooloaa.C
end Go.Proofs.Ytobokfclaooloaa.Batch
end
section
set_option linter.unusedSimpArgs false
set_option linter.unusedVariables false
set_option maxRecDepth 10000
namespace Go.Proofs.Ytobokfclaooloaa.Batch
open Go Go.Av Go.Proofs Go.Proofs.Ytobokfclaooloaa.C
theorem val_cons (c : UInt8) (l : List UInt8) : val (c :: l) = c.toNat * 256 ^ l.length + val l := by
  have key : ∀ (l : List UInt8) (a : Nat), l.foldl (fun n c => n * 256 + c.toNat) a = a * 256 ^ l.length + val l := by
    intro l
    induction l with
    | nil => intro a; simp [val]
    | cons c l ih =>
      intro a
      rw [List.foldl_cons, ih, List.length_cons, Nat.pow_succ]
      have : val (c :: l) = c.toNat * 256 ^ l.length + val l := by
        show List.foldl _ (0 * 256 + c.toNat) l = _
        rw [ih]; simp
      rw [this, Nat.add_mul, Nat.mul_assoc, Nat.mul_comm 256 (256 ^ l.length)]
      omega
  show List.foldl _ (0 * 256 + c.toNat) l = _
  rw [key]; simp
theorem be_mod : ∀ (n v k : Nat), be n (k * 256 ^ n + v) = be n v
  | 0, v, k => rfl
  | n + 1, v, k => by
    have e : k * 256 ^ (n + 1) = (k * 256) * 256 ^ n := by rw [Nat.pow_succ, Nat.mul_comm (256 ^ n) 256, Nat.mul_assoc]
    rw [be, be, e, be_mod n v (k * 256)]
    congr 1
    have hp : 0 < 256 ^ n := Nat.pow_pos (by omega)
    rw [Nat.add_comm, Nat.add_mul_div_right _ _ hp]
    apply UInt8.toNat_inj.1
    simp only [UInt8.toNat_ofNat']
    omega
theorem val_be : ∀ (w v : Nat), v < 256 ^ w → val (be w v) = v
  | 0, v, h => by simp at h; subst h; rfl
  | w + 1, v, h => by
    have hp : 0 < 256 ^ w := Nat.pow_pos (by omega)
    have e : be w v = be w (v % 256 ^ w) := by
      conv => lhs; rw [← Nat.div_add_mod v (256 ^ w), Nat.mul_comm]
      exact be_mod w _ _
    rw [be, val_cons, be_length, e, val_be w _ (Nat.mod_lt _ hp)]
    have hq : v / 256 ^ w < 256 := by
      rw [Nat.div_lt_iff_lt_mul hp]
      rw [Nat.pow_succ, Nat.mul_comm] at h
      exact h
    generalize hQ : v / 256 ^ w = Q at *
    have : (UInt8.ofNat Q).toNat = Q := by simp only [UInt8.toNat_ofNat']; omega
    rw [this, Nat.mul_comm, ← hQ]
    exact Nat.div_add_mod v (256 ^ w)
structure RR where
  t : Int
  l : List Ch
  m : Int
  e : Nat
end Go.Proofs.Ytobokfclaooloaa.Batch
end
section
set_option linter.unusedSimpArgs false
set_option linter.unusedVariables false
set_option maxRecDepth 10000
namespace Go.Proofs.Ytobokfclaooloaa.Batch
open Go Go.Av Go.Proofs Go.Proofs.Ytobokfclaooloaa.C
theorem i64_pos {b : Bs} (hb : b.length = 8) (h : 0 ≤ i64 b) : i64 b = (val b : Int) := by
  have hv := val_lt b
  rw [hb] at hv
  have hv' : val b < 18446744073709551616 := by simpa using hv
  unfold i64 at h ⊢
  rw [IntKind.wrap_i64] at h ⊢
  omega
theorem i64_be (t : Nat) (ht : t ≤ 1152921504606846976) : i64 (be 8 t) = (t : Int) := by
  unfold i64
  rw [val_be 8 t (by omega), IntWalk.i64_in _ (by omega)]
end Go.Proofs.Ytobokfclaooloaa.Batch
end
section
set_option linter.unusedSimpArgs false
set_option linter.unusedVariables false
set_option maxRecDepth 10000
namespace Go.Proofs.Ytobokfclaooloaa.Space
open Go Go.Av Go.Proofs Go.Proofs.Ytobokfclaooloaa.C Go.Proofs.Ytobokfclaooloaa.Batch
def vN (p : Pr) : Nat := p.k.length - 8
def vT (p : Pr) : Int := i64 (p.k.drop (vN p))
def vK (p : Pr) : Bs := p.k.take (vN p)
def vV (p : Pr) : Ver := ⟨1152921504606846976 - vT p, p.v.drop 1, decide (p.v.getD 0 0 = 0)⟩
def vFit (p : Pr) : Bool := decide (8 ≤ p.k.length) && !decide (p.v = []) && decide ((p.v.getD 0 0).toNat ≤ 1)
def vOkP (p : Pr) : Bool := vFit p && decide (0 ≤ vT p) && decide (vT p < 1152921504606846976)
def verR (p : Pr) : AV := if vOkP p then .tup [.str (vK p), encV (vV p), .bool true] else .tup [.str [], .agg [.int .i64 0, .str [], .bool false], .bool false]
theorem byte_gt (c : UInt8) : decide ((1 : Int) < ((c.toNat : Nat) : Int)) = !decide (c.toNat ≤ 1) := by
  by_cases h : c.toNat ≤ 1
  · rw [decide_eq_true h, decide_eq_false (by omega)]; rfl
  · rw [decide_eq_false h, decide_eq_true (by omega)]; rfl
theorem byte_is0 (c : UInt8) : decide (((c.toNat : Nat) : Int) = 0) = decide (c = 0) := by
  by_cases h : c = 0
  · subst h; rfl
  · rw [decide_eq_false h, decide_eq_false]
    intro e
    exact h (UInt8.toNat_inj.1 (by simpa using e))
set_option maxHeartbeats 2000000 in
theorem version_p (p : Pr) (hk : p.k.length ≤ 140737488355328) (hv : p.v.length ≤ 140737488355328) : PCalls Try.prog 23 [encPr p] (verR p) := by
  refine f23.pcalls0 (by simp) (by simp [allPure, isPure, encPr]) (by unfold verR; split <;> simp [isPure, allPure, encV_pure]) ?_
  unfold c23
  have bad : vOkP p = false → verR p = .tup [.str [], .agg [.int .i64 0, .str [], .bool false], .bool false] := fun h => by rw [verR, h]; rfl
  by_cases h1 : 8 ≤ p.k.length
  · have w1 : IntKind.i64.wrap ((p.k.length : Int) - 8) = ((p.k.length - 8 : Nat) : Int) := by rw [IntWalk.i64_in _ (by omega)]; omega
    have d1 : decide (((p.k.length - 8 : Nat) : Int) < 0) = false := decide_eq_false (by omega)
    by_cases h2 : p.v = []
    · have d2 := decide_eq_true h2
      repeat (first
        | ((first | apply Wp.seqItemsR | apply Wp.itemsR); (· simp only [go_sem, reduceIte, Nat.reduceEqDiff, Nat.reduceAdd, bx, ax, if_true, if_false, Nat.reduceMul, Nat.reduceLeDiff, encPr, w1, d1, d2]; exact rfl))
        | (refine WpItems.nil ⟨?_, ?_⟩; (· first | trivial | simp [pairsQ, pairsOk, apart, ent0]))
        | (apply Wp.cond_lit; (· simp only [go_sem, reduceIte, Nat.reduceEqDiff, Nat.reduceAdd, bx, ax, if_true, if_false, Nat.reduceMul, Nat.reduceLeDiff, encPr, w1, d1, d2]; exact rfl); (· rfl))
        | refine Wp.skip ?_
        | refine Wp.label ?_
        | refine Wp.block ?_
        | refine Wp.exit ?_
        | refine Wp.seq ?_)
      refine Wp.ret ⟨trivial, _, rfl, ?_⟩
      simp only [go_sem, reduceIte, Nat.reduceEqDiff, Nat.reduceAdd, bx]
      rw [bad (by simp [vOkP, vFit, h2])]; exact VSub.refl _
    have d2 := decide_eq_false h2
    have l0 : (0 : Int) < (p.v.length : Int) := by have := List.length_pos_iff.2 h2; omega
    have q0 : (0 : Int) ≤ 0 := Int.le_refl _
    have hb := byte_gt (p.v.getD 0 0)
    by_cases h3 : (p.v.getD 0 0).toNat ≤ 1
    · rw [decide_eq_true h3] at hb
      have o1 : (0 : Int) ≤ ((p.k.length - 8 : Nat) : Int) := by omega
      have o2 : ((p.k.length - 8 : Nat) : Int) ≤ (p.k.length : Int) := by omega
      have hd : (p.k.take p.k.length).drop (p.k.length - 8) = p.k.drop (vN p) := by rw [List.take_length]; rfl
      have lb : (p.k.drop (vN p)).length = 8 := by simp [vN]; omega
      have hT : i64 (p.k.drop (vN p)) = vT p := rfl
      repeat (first
        | ((first | apply Wp.seqItemsR | apply Wp.itemsR); (· simp only [go_sem, reduceIte, Nat.reduceEqDiff, Nat.reduceAdd, bx, ax, if_true, if_false, Nat.reduceMul, Nat.reduceLeDiff, encPr, w1, d1, d2, l0, q0, byte, hb, Int.toNat_zero, o1, o2]; exact rfl))
        | (refine WpItems.nil ⟨?_, ?_⟩; (· first | trivial | simp [pairsQ, pairsOk, apart, ent0]))
        | (apply Wp.cond_lit; (· simp only [go_sem, reduceIte, Nat.reduceEqDiff, Nat.reduceAdd, bx, ax, if_true, if_false, Nat.reduceMul, Nat.reduceLeDiff, encPr, w1, d1, d2, l0, q0, byte, hb, Int.toNat_zero, o1, o2]; exact rfl); (· rfl))
        | refine Wp.skip ?_
        | refine Wp.label ?_
        | refine Wp.block ?_
        | refine Wp.exit ?_
        | refine Wp.seq ?_)
      refine WpItems.acall (by simp only [go_sem, reduceIte, Nat.reduceEqDiff]) (by simp only [go_sem, reduceIte, Nat.reduceEqDiff, List.map]; exact VSubs.cons (VSub.trans (VSub.of_eq (by first | rfl | (rw [hd]; done) | (rw [hd]; rfl))) (VSub.cap (xs := bytesAV (p.k.drop (vN p))))) VSubs.nil) (newReader_p (p.k.drop (vN p)) (by omega) _ _) (touch_new _ _) ?_
      refine WpItems.eval (by simp only [go_sem, reduceIte, Nat.reduceEqDiff, Nat.reduceAdd, bx]; exact rfl) ?_
      refine WpItems.acall (by simp only [go_sem, reduceIte, Nat.reduceEqDiff]) (by simp only [go_sem, reduceIte, Nat.reduceEqDiff, List.map]; exact VSubs.refl _) (i64_p (p.k.drop (vN p)) lb _ _ _) (touch_write _ (by simp only [go_sem, reduceIte, Nat.reduceEqDiff])) ?_
      refine WpItems.eval (by simp only [go_sem, reduceIte, Nat.reduceEqDiff, Nat.reduceAdd, bx, hT]; exact rfl) ?_
      refine WpItems.nil ⟨by trivial, ?_⟩
      by_cases h4 : 0 ≤ vT p
      · have d4 : decide (vT p < 0) = false := decide_eq_false (by omega)
        by_cases h5 : vT p < 1152921504606846976
        · have d5 : decide ((1152921504606846976 : Int) ≤ vT p) = false := decide_eq_false (by omega)
          have w2 : IntKind.i64.wrap (1152921504606846976 - vT p) = 1152921504606846976 - vT p := IntWalk.i64_in _ (by omega)
          have b0 := byte_is0 (p.v.getD 0 0)
          have l1 : (1 : Int) ≤ (p.v.length : Int) := by omega
          have q1 : (0 : Int) ≤ 1 := by omega
          have q2 : (1 : Int).toNat = 1 := rfl
          have hok : verR p = .tup [.str (vK p), encV (vV p), .bool true] := by
            rw [verR, if_pos (by simp [vOkP, vFit, h1, h2, h4, h5]; simpa using h3)]
          repeat (first
            | ((first | apply Wp.seqItemsR | apply Wp.itemsR); (· simp only [go_sem, reduceIte, Nat.reduceEqDiff, Nat.reduceAdd, bx, ax, if_true, if_false, Nat.reduceMul, Nat.reduceLeDiff, d4, d5, w2, b0, l0, l1, q0, q1, q2, o1, o2, byte, Int.toNat_natCast, Int.toNat_zero]; exact rfl))
            | (refine WpItems.nil ⟨?_, ?_⟩; (· first | trivial | simp [pairsQ, pairsOk, apart, ent0]))
            | (apply Wp.cond_lit; (· simp only [go_sem, reduceIte, Nat.reduceEqDiff, Nat.reduceAdd, bx, ax, if_true, if_false, Nat.reduceMul, Nat.reduceLeDiff, d4, d5, w2, b0, l0, l1, q0, q1, q2, o1, o2, byte, Int.toNat_natCast, Int.toNat_zero]; exact rfl); (· rfl))
            | refine Wp.skip ?_
            | refine Wp.label ?_
            | refine Wp.block ?_
            | refine Wp.exit ?_
            | refine Wp.seq ?_)
          refine Wp.ret ⟨trivial, _, rfl, ?_⟩
          simp only [go_sem, reduceIte, Nat.reduceEqDiff, Nat.reduceAdd, bx]
          rw [hok]
          simp only [vK, vV, encV, vN, List.take_length, List.drop_zero]
          exact VSub.refl _
        · have d5 : decide ((1152921504606846976 : Int) ≤ vT p) = true := decide_eq_true (by omega)
          repeat (first
            | ((first | apply Wp.seqItemsR | apply Wp.itemsR); (· simp only [go_sem, reduceIte, Nat.reduceEqDiff, Nat.reduceAdd, bx, ax, if_true, if_false, Nat.reduceMul, Nat.reduceLeDiff, d4, d5]; exact rfl))
            | (refine WpItems.nil ⟨?_, ?_⟩; (· first | trivial | simp [pairsQ, pairsOk, apart, ent0]))
            | (apply Wp.cond_lit; (· simp only [go_sem, reduceIte, Nat.reduceEqDiff, Nat.reduceAdd, bx, ax, if_true, if_false, Nat.reduceMul, Nat.reduceLeDiff, d4, d5]; exact rfl); (· rfl))
            | refine Wp.skip ?_
            | refine Wp.label ?_
            | refine Wp.block ?_
            | refine Wp.exit ?_
            | refine Wp.seq ?_)
          refine Wp.ret ⟨trivial, _, rfl, ?_⟩
          simp only [go_sem, reduceIte, Nat.reduceEqDiff, Nat.reduceAdd, bx]
          rw [bad (by simp [vOkP]; intros; omega)]; exact VSub.refl _
      · have d4 : decide (vT p < 0) = true := decide_eq_true (by omega)
        repeat (first
          | ((first | apply Wp.seqItemsR | apply Wp.itemsR); (· simp only [go_sem, reduceIte, Nat.reduceEqDiff, Nat.reduceAdd, bx, ax, if_true, if_false, Nat.reduceMul, Nat.reduceLeDiff, d4]; exact rfl))
          | (refine WpItems.nil ⟨?_, ?_⟩; (· first | trivial | simp [pairsQ, pairsOk, apart, ent0]))
          | (apply Wp.cond_lit; (· simp only [go_sem, reduceIte, Nat.reduceEqDiff, Nat.reduceAdd, bx, ax, if_true, if_false, Nat.reduceMul, Nat.reduceLeDiff, d4]; exact rfl); (· rfl))
          | refine Wp.skip ?_
          | refine Wp.label ?_
          | refine Wp.block ?_
          | refine Wp.exit ?_
          | refine Wp.seq ?_)
        refine Wp.ret ⟨trivial, _, rfl, ?_⟩
        simp only [go_sem, reduceIte, Nat.reduceEqDiff, Nat.reduceAdd, bx]
        rw [bad (by simp [vOkP]; intros; omega)]; exact VSub.refl _
    · rw [decide_eq_false h3] at hb
      repeat (first
        | ((first | apply Wp.seqItemsR | apply Wp.itemsR); (· simp only [go_sem, reduceIte, Nat.reduceEqDiff, Nat.reduceAdd, bx, ax, if_true, if_false, Nat.reduceMul, Nat.reduceLeDiff, encPr, w1, d1, d2, l0, q0, byte, hb, Int.toNat_zero]; exact rfl))
        | (refine WpItems.nil ⟨?_, ?_⟩; (· first | trivial | simp [pairsQ, pairsOk, apart, ent0]))
        | (apply Wp.cond_lit; (· simp only [go_sem, reduceIte, Nat.reduceEqDiff, Nat.reduceAdd, bx, ax, if_true, if_false, Nat.reduceMul, Nat.reduceLeDiff, encPr, w1, d1, d2, l0, q0, byte, hb, Int.toNat_zero]; exact rfl); (· rfl))
        | refine Wp.skip ?_
        | refine Wp.label ?_
        | refine Wp.block ?_
        | refine Wp.exit ?_
        | refine Wp.seq ?_)
      refine Wp.ret ⟨trivial, _, rfl, ?_⟩
      simp only [go_sem, reduceIte, Nat.reduceEqDiff, Nat.reduceAdd, bx]
      rw [bad (by simp [vOkP, vFit, h1, h2]; intros; simp at h3; omega)]; exact VSub.refl _
  · have w1 : IntKind.i64.wrap ((p.k.length : Int) - 8) = (p.k.length : Int) - 8 := IntWalk.i64_in _ (by omega)
    have d1 : decide ((p.k.length : Int) - 8 < 0) = true := decide_eq_true (by omega)
    repeat (first
      | ((first | apply Wp.seqItemsR | apply Wp.itemsR); (· simp only [go_sem, reduceIte, Nat.reduceEqDiff, Nat.reduceAdd, bx, ax, if_true, if_false, Nat.reduceMul, Nat.reduceLeDiff, encPr, w1, d1]; exact rfl))
      | (refine WpItems.nil ⟨?_, ?_⟩; (· first | trivial | simp [pairsQ, pairsOk, apart, ent0]))
      | (apply Wp.cond_lit; (· simp only [go_sem, reduceIte, Nat.reduceEqDiff, Nat.reduceAdd, bx, ax, if_true, if_false, Nat.reduceMul, Nat.reduceLeDiff, encPr, w1, d1]; exact rfl); (· rfl))
      | refine Wp.skip ?_
      | refine Wp.label ?_
      | refine Wp.block ?_
      | refine Wp.exit ?_
      | refine Wp.seq ?_)
    refine Wp.ret ⟨trivial, _, rfl, ?_⟩
    simp only [go_sem, reduceIte, Nat.reduceEqDiff, Nat.reduceAdd, bx]
    rw [bad (by simp [vOkP, vFit]; intros; omega)]; exact VSub.refl _
end Go.Proofs.Ytobokfclaooloaa.Space
end
section
set_option linter.unusedSimpArgs false
set_option linter.unusedVariables false
set_option maxRecDepth 10000
namespace Go.Proofs.Ytobokfclaooloaa.Space
open Go Go.Av Go.Proofs Go.Proofs.Ytobokfclaooloaa.C Go.Proofs.Ytobokfclaooloaa.Batch
def itOk (l : List It) (i : Nat) : Bool := mayI (l.getD i default) && (decide (i = 0) || Op.bytesLess (l.getD (i - 1) default).1 (l.getD i default).1)
def okL (l : List It) : Bool := (List.range l.length).all (itOk l)
theorem itOk_zero {l : List It} {j : Nat} (h : j = 0) : itOk l j = mayI (l.getD j default) := by simp [itOk, h]
theorem itOk_pos {l : List It} {j : Nat} (h : j ≠ 0) : itOk l j = (mayI (l.getD j default) && Op.bytesLess (l.getD (j - 1) default).1 (l.getD j default).1) := by simp [itOk, h]
theorem itOk_may {l : List It} {j : Nat} (h : mayI (l.getD j default) = false) : itOk l j = false := by rw [itOk, h]; rfl
structure SmI (l : List It) : Prop where
  n : l.length ≤ 1000000
  k : ∀ p ∈ l, Ls p.1
  v : ∀ p ∈ l, p.2.length ≤ 1000000
theorem SmI.at {l : List It} (h : SmI l) {j : Nat} (hj : j < l.length) : Ls (l.getD j default).1 ∧ (l.getD j default).2.length ≤ 1000000 := by
  rw [Av.getD_el hj]; exact ⟨h.k _ (List.getElem_mem hj), h.v _ (List.getElem_mem hj)⟩
end Go.Proofs.Ytobokfclaooloaa.Space
end
section
set_option linter.unusedSimpArgs false
set_option linter.unusedVariables false
set_option maxRecDepth 10000
namespace Go.Proofs.Ytobokfclaooloaa.Space
open Go Go.Av Go.Proofs Go.Proofs.Ytobokfclaooloaa.C Go.Proofs.Ytobokfclaooloaa.Batch
def plG (v : Ver) : Bool → List Ver → List Ver
  | b, [] => if b then [] else [v]
  | b, x :: l => (if b = false ∧ x.t < v.t then [v] else []) ++ x :: plG v (b || decide (x.t < v.t)) l
def plV (l : List Ver) (v : Ver) : List Ver := plG v false l
theorem plG_len (v : Ver) : ∀ (l : List Ver) (b : Bool), (plG v b l).length ≤ l.length + 1
  | [], b => by cases b <;> simp [plG]
  | x :: l, b => by
    have h1 := plG_len v l true
    have h2 := plG_len v l false
    have h3 : ∀ l, (plG v true l).length = l.length := fun l => by
      induction l with
      | nil => rfl
      | cons y l ih => simp [plG, ih]
    rw [plG]
    cases b
    · by_cases h : x.t < v.t
      · simp [h, h3]
      · simp [h]; omega
    · simp [h3]
theorem encV_snoc (l : List Ver) (v : Ver) : l.map encV ++ [.agg [.int .i64 v.t, .str v.v, .bool v.d]] = (l ++ [v]).map encV := by simp [encV]
end Go.Proofs.Ytobokfclaooloaa.Space
end
section
set_option linter.unusedSimpArgs false
set_option linter.unusedVariables false
set_option maxRecDepth 10000
namespace Go.Proofs.Ytobokfclaooloaa.Space
open Go Go.Av Go.Proofs Go.Proofs.Ytobokfclaooloaa.C Go.Proofs.Ytobokfclaooloaa.Batch
def wiG (q : Bs) (v : Ver) : Bool → List It → List It
  | b, [] => if b then [] else [(q, [v])]
  | b, x :: l => (if b = false ∧ Op.bytesLess x.1 q = false ∧ x.1 ≠ q then [(q, [v])] else []) ++ (if b = false ∧ Op.bytesLess x.1 q = false ∧ x.1 = q then (x.1, plV x.2 v) else x) :: wiG q v (b || !Op.bytesLess x.1 q) l
def wiL (l : List It) (q : Bs) (v : Ver) : List It := wiG q v false l
theorem encI_app (l : List It) (x : It) : l.map encI ++ [encI x] = (l ++ [x]).map encI := by simp
theorem subI (q : Bs) (vs : List Ver) (c : Cap) : VSub (.agg [.str q, .sl 3 (vs.map encV) c]) (encI (q, vs)) := VSub.agg (VSubs.cons (VSub.refl _) (VSubs.cons VSub.cap VSubs.nil))
theorem vsl_snoc : ∀ {xs ys : List AV} {x y : AV}, VSubL xs ys → VSub x y → VSubL (xs ++ [x]) (ys ++ [y])
  | [], [], _, _, _, h => ⟨h, trivial⟩
  | a :: xs, b :: ys, _, _, h1, h2 => ⟨h1.1, vsl_snoc h1.2 h2⟩
  | [], _ :: _, _, _, h, _ => h.elim
  | _ :: _, [], _, _, h, _ => h.elim
theorem rowI (o : List It) {x : AV} {q : It} (h : VSub x (encI q)) (c : Cap) : VSub (.sl 2 (o.map encI ++ [x]) c) (.sl 2 ((o ++ [q]).map encI) c) := by
  rw [← encI_app]; exact VSub.slc (vsl_snoc (VSubL.refl _) h)
end Go.Proofs.Ytobokfclaooloaa.Space
end
section
set_option linter.unusedSimpArgs false
set_option linter.unusedVariables false
set_option maxRecDepth 10000
namespace Go.Proofs.Ytobokfclaooloaa.Batch
open Go Go.Av Go.Proofs Go.Proofs.Ytobokfclaooloaa.C
def Lt (a b : Bs) : Prop := Op.bytesLess a b = true
theorem Lt.trans {a b c : Bs} (h1 : Lt a b) (h2 : Lt b c) : Lt a c := less_trans h1 h2
theorem Lt.ne {a b : Bs} (h : Lt a b) : ¬ a = b := fun e => by rw [e, Lt, less_irrefl] at h; cases h
theorem Lt.not {a b : Bs} (h : Lt a b) : Op.bytesLess b a = false := less_asymm h
theorem tri (a b : Bs) : Lt a b ∨ a = b ∨ Lt b a := less_total a b
theorem not_lt {a b : Bs} (h : Op.bytesLess a b = false) : a = b ∨ Lt b a := by
  rcases tri a b with g | g | g
  · rw [Lt, h] at g; cases g
  · exact .inl g
  · exact .inr g
def RiseP (l : List Pr) : Prop := l.Pairwise fun a b => Lt a.k b.k
theorem putGo_true (k v : Bs) : ∀ l : List Pr, putGo k v true l = rest k l
  | [] => rfl
  | p :: l => by rw [putGo, rest_cons, Bool.true_or, putGo_true k v l]; simp
theorem putGo_split {k v : Bs} {q : List Pr} (hq : q = [] ∨ ∃ x q', q = x :: q' ∧ Op.bytesLess x.k k = false) : ∀ p : List Pr, (∀ x ∈ p, Lt x.k k) → putGo k v false (p ++ q) = p ++ ⟨k, v⟩ :: rest k q
  | [], _ => by
    rcases hq with rfl | ⟨x, q', rfl, hx⟩
    · rfl
    · rw [List.nil_append, putGo, hx, rest_cons, Bool.false_or, Bool.not_false, putGo_true]; simp
  | y :: p, h => by
    have hy := h y (by simp)
    have rec' := putGo_split (v := v) hq p (fun x hx => h x (by simp [hx]))
    rw [List.cons_append, putGo, if_neg hy.ne, show Op.bytesLess y.k k = true from hy, Bool.not_true, Bool.or_self, rec']
    simp
theorem rise_put {k v : Bs} : ∀ {l : List Pr}, RiseP l → RiseP (putGo k v false l)
  | [], _ => by simp [putGo, RiseP]
  | x :: l, h => by
    have hx := List.pairwise_cons.1 h
    cases hb : Op.bytesLess x.k k with
    | true =>
      have hlt : Lt x.k k := hb
      have := putGo_split (k := k) (v := v) (q := []) (.inl rfl)
      have e : putGo k v false (x :: l) = x :: putGo k v false l := by rw [putGo, hb, if_neg hlt.ne]; simp
      rw [e]
      refine List.pairwise_cons.2 ⟨fun y hy => ?_, rise_put hx.2⟩
      rcases putGo_mem k v l false y hy with rfl | hy
      · exact hlt
      · exact hx.1 y hy
    | false =>
      have e := putGo_split (k := k) (v := v) (q := x :: l) (.inr ⟨x, l, rfl, hb⟩) [] (by simp)
      rw [List.nil_append, List.nil_append] at e
      rw [e]
      refine List.pairwise_cons.2 ⟨fun y hy => ?_, h.sublist List.filter_sublist⟩
      obtain ⟨h1, h2⟩ := List.mem_filter.1 hy
      have hne : ¬ y.k = k := by simpa [hasK] using h2
      have hxk := not_lt hb
      rcases List.mem_cons.1 h1 with rfl | h1
      · rcases hxk with hxk | hxk
        · exact absurd hxk hne
        · exact hxk
      · have h3 : Lt x.k y.k := hx.1 y h1
        rcases hxk with hxk | hxk
        · show Lt k y.k; rw [← hxk]; exact h3
        · exact hxk.trans h3
theorem rise_putP {l : List Pr} (h : RiseP l) (k v : Bs) : RiseP (putP l k v) := by
  unfold putP; split
  · exact h
  · exact rise_put h
def OkP (l : List Pr) : Prop := ∀ p ∈ l, shut p.k p.v = false
theorem sorted_facts (l : List Pr) : ∀ o : List Pr, RiseP o → OkP o → RiseP (l.foldl (fun o p => putP o p.k p.v) o) ∧ OkP (l.foldl (fun o p => putP o p.k p.v) o) ∧ (l.foldl (fun o p => putP o p.k p.v) o).length ≤ o.length + l.length := by
  induction l with
  | nil => intro o h1 h2; exact ⟨h1, h2, by simp⟩
  | cons p l ih =>
    intro o h1 h2
    obtain ⟨a, b, c⟩ := ih (putP o p.k p.v) (rise_putP h1 _ _) (fun x hx => by
      rcases putP_mem hx with ⟨rfl, hs⟩ | hx
      · exact hs
      · exact h2 x hx)
    have := put_len' o p.k p.v
    exact ⟨a, b, by simp only [List.foldl_cons, List.length_cons] at c ⊢; omega⟩
theorem sorted_ok (l : List Pr) : RiseP (sortedP l) ∧ OkP (sortedP l) ∧ (sortedP l).length ≤ l.length := by
  have := sorted_facts l [] List.Pairwise.nil (by simp [OkP])
  simpa [sortedP] using this
structure CF (x y : List Pr) (c : Ch) : Prop where
  del : c.d = true → c.v = [] ∧ (∃ q ∈ x, q.k = c.k) ∧ ∀ q ∈ y, ¬ q.k = c.k
  put : c.d = false → (⟨c.k, c.v⟩ : Pr) ∈ y ∧ ∀ q ∈ x, q.k = c.k → ¬ q.v = c.v
theorem CF.key {x y : List Pr} {c : Ch} (h : CF x y c) : ∃ q, (q ∈ x ∨ q ∈ y) ∧ q.k = c.k := by
  cases hd : c.d with
  | true => obtain ⟨-, ⟨q, hq, e⟩, -⟩ := h.del hd; exact ⟨q, .inl hq, e⟩
  | false => exact ⟨⟨c.k, c.v⟩, .inr (h.put hd).1, rfl⟩
end Go.Proofs.Ytobokfclaooloaa.Batch
end
section
set_option linter.unusedSimpArgs false
set_option linter.unusedVariables false
set_option maxRecDepth 10000
namespace Go.Proofs.Ytobokfclaooloaa.Space
open Go Go.Av Go.Proofs Go.Proofs.Ytobokfclaooloaa.C Go.Proofs.Ytobokfclaooloaa.Batch
theorem longV_iff {v : Ver} : longV v = false ↔ v.v.length ≤ 199 := by
  unfold longV; simp only [decide_eq_false_iff_not]; omega
theorem mayI_iff {x : It} : mayI x = true ↔ x.1.length ≤ 120 ∧ 0 < x.2.length ∧ chB x.2 = true ∧ ∀ v ∈ x.2, v.v.length ≤ 199 := by
  unfold mayI
  simp only [Bool.and_eq_true, decide_eq_true_eq, Bool.not_eq_true', List.any_eq_false]
  constructor
  · rintro ⟨⟨⟨h1, h2⟩, h3⟩, h4⟩
    exact ⟨by omega, h2, h3, fun v hv => longV_iff.1 (by simpa using h4 v hv)⟩
  · rintro ⟨h1, h2, h3, h4⟩
    exact ⟨⟨⟨by omega, h2⟩, h3⟩, fun v hv => by rw [longV_iff.2 (h4 v hv)]; simp⟩
theorem okL_at {l : List It} (h : okL l = true) {j : Nat} (hj : j < l.length) : itOk l j = true := List.all_eq_true.1 h j (List.mem_range.2 hj)
theorem okL_may {l : List It} (h : okL l = true) {j : Nat} (hj : j < l.length) : mayI (l.getD j default) = true := by
  have := okL_at h hj
  unfold itOk at this
  exact (Bool.and_eq_true _ _ ▸ this).1
theorem chB_ok {l : List Ver} (h : chB l = true) {j : Nat} (hj : j < l.length) : okV (l.getD j default) = true := by
  have := List.all_eq_true.1 h j (List.mem_range.2 hj)
  unfold vOk at this
  exact (Bool.and_eq_true _ _ ▸ this).1
theorem okV_iff {v : Ver} : okV v = true ↔ 1 ≤ v.t ∧ v.t ≤ 1152921504606846976 ∧ v.v.length ≤ 200 ∧ (v.d = true → v.v = []) := by
  unfold okV
  simp only [Bool.and_eq_true, decide_eq_true_eq, Bool.or_eq_true, Bool.not_eq_true']
  constructor
  · rintro ⟨⟨⟨h1, h2⟩, h3⟩, h4⟩
    exact ⟨h1, h2, by omega, fun h => by rcases h4 with h5 | h5; (rw [h] at h5; cases h5); exact h5⟩
  · rintro ⟨h1, h2, h3, h4⟩
    refine ⟨⟨⟨h1, h2⟩, by omega⟩, ?_⟩
    cases hd : v.d with
    | true => exact .inr (h4 hd)
    | false => exact .inl rfl
theorem sortedP_snoc (a : List Pr) (p : Pr) : sortedP (a ++ [p]) = putP (sortedP a) p.k p.v := by simp [sortedP]
theorem prL_app (a b : List It) : prL (a ++ b) = prL a ++ prL b := by simp [prL]
theorem prL_le (l : List It) (i : Nat) : (prL (l.take i)).length ≤ (prL l).length := by
  have h : prL l = prL (l.take i) ++ prL (l.drop i) := by rw [← prL_app, List.take_append_drop]
  rw [h, List.length_append]; omega
theorem prL_take {l : List It} {i : Nat} (hi : i < l.length) : prL (l.take (i + 1)) = prL (l.take i) ++ prI (l.getD i default) := by
  rw [Av.take_snoc default hi]; simp [prL]
end Go.Proofs.Ytobokfclaooloaa.Space
end
section
set_option linter.unusedSimpArgs false
set_option linter.unusedVariables false
set_option maxRecDepth 10000
namespace Go.Proofs.Ytobokfclaooloaa.Space
open Go Go.Av Go.Proofs Go.Proofs.Ytobokfclaooloaa.C Go.Proofs.Ytobokfclaooloaa.Batch
def itR (l : List Pr) : List It := l.foldl (fun o p => wiL o (vK p) (vV p)) []
theorem itR_snoc (a : List Pr) (p : Pr) : itR (a ++ [p]) = wiL (itR a) (vK p) (vV p) := by simp [itR]
theorem wiG_mem {q : Bs} {v : Ver} : ∀ {l : List It} {b : Bool} {x : It}, x ∈ wiG q v b l → x = (q, [v]) ∨ x ∈ l ∨ ∃ y ∈ l, y.1 = q ∧ x = (y.1, plV y.2 v)
  | [], b, x, h => by
    cases b <;> simp [wiG] at h
    exact .inl h
  | y :: l, b, x, h => by
    rw [wiG, List.mem_append, List.mem_cons] at h
    rcases h with h | h | h
    · split at h
      · exact .inl (by simpa using h)
      · simp at h
    · split at h
      · rename_i hc
        exact .inr (.inr ⟨y, by simp, hc.2.2, h⟩)
      · exact .inr (.inl (by simp [h]))
    · rcases wiG_mem h with h | h | ⟨z, hz, h⟩
      · exact .inl h
      · exact .inr (.inl (by simp [h]))
      · exact .inr (.inr ⟨z, by simp [hz], h⟩)
theorem wiG_len (q : Bs) (v : Ver) : ∀ (l : List It) (b : Bool), (wiG q v b l).length ≤ l.length + (if b then 0 else 1)
  | [], b => by cases b <;> simp [wiG]
  | y :: l, b => by
    have h1 := wiG_len q v l true
    have h2 := wiG_len q v l false
    simp only [if_true, if_false, Bool.false_eq_true, Nat.add_zero] at h1 h2
    rw [wiG]
    cases b <;> cases Op.bytesLess y.1 q <;> by_cases hk : y.1 = q <;> simp [hk] <;> omega
theorem wiG_cnt (q : Bs) (v : Ver) : ∀ (l : List It) (b : Bool), (prL (wiG q v b l)).length ≤ (prL l).length + (if b then 0 else 1)
  | [], b => by cases b <;> simp [wiG, prL, prI]
  | y :: l, b => by
    have h1 := wiG_cnt q v l true
    have h2 := wiG_cnt q v l false
    have h3 := plG_len v y.2 false
    simp only [if_true, if_false, Bool.false_eq_true, Nat.add_zero] at h1 h2
    have e : ∀ (z : It) (m : List It), (prL (z :: m)).length = z.2.length + (prL m).length := fun z m => by simp [prL, prI]
    rw [wiG]
    cases b <;> cases Op.bytesLess y.1 q <;> by_cases hk : y.1 = q <;> simp [hk, e, plV] <;> omega
theorem snocInd {α : Type} {P : List α → Prop} (h0 : P []) (h1 : ∀ a x, P a → P (a ++ [x])) (l : List α) : P l := by
  have h : ∀ m : List α, P m.reverse := fun m => by
    induction m with
    | nil => exact h0
    | cons x m ih => rw [List.reverse_cons]; exact h1 _ x ih
  have := h l.reverse
  rwa [List.reverse_reverse] at this
theorem itR_sm (l : List Pr) (hk : ∀ p ∈ l, Ls p.k) : (itR l).length ≤ l.length ∧ (∀ x ∈ itR l, Ls x.1) ∧ (∀ x ∈ itR l, x.2.length ≤ l.length) ∧ (prL (itR l)).length ≤ l.length := by
  revert hk
  refine snocInd (P := fun l => (∀ p ∈ l, Ls p.k) → (itR l).length ≤ l.length ∧ (∀ x ∈ itR l, Ls x.1) ∧ (∀ x ∈ itR l, x.2.length ≤ l.length) ∧ (prL (itR l)).length ≤ l.length) (fun _ => by simp [itR, prL]) (fun a p ih hk => ?_) l
  · obtain ⟨i1, i2, i3, i4⟩ := ih fun p hp => hk p (by simp [hp])
    rw [itR_snoc]
    have hp := hk p (by simp)
    have hK : Ls (vK p) := by unfold vK Ls at *; rw [List.length_take]; omega
    have e1 := wiG_len (vK p) (vV p) (itR a) false
    have e2 := wiG_cnt (vK p) (vV p) (itR a) false
    simp only [if_false, Bool.false_eq_true] at e1 e2
    refine ⟨by simp only [wiL, List.length_append, List.length_cons, List.length_nil]; omega, fun x hx => ?_, fun x hx => ?_, by simp only [wiL, List.length_append, List.length_cons, List.length_nil]; omega⟩
    · rcases wiG_mem hx with rfl | h | ⟨y, hy, h1, rfl⟩
      · exact hK
      · exact i2 x h
      · exact i2 y hy
    · simp only [List.length_append, List.length_cons, List.length_nil]
      rcases wiG_mem hx with rfl | h | ⟨y, hy, h1, rfl⟩
      · simp
      · have := i3 x h; omega
      · have := i3 y hy
        have := plG_len (vV p) y.2 false
        simp only [plV]; omega
end Go.Proofs.Ytobokfclaooloaa.Space
end
section
set_option linter.unusedSimpArgs false
set_option linter.unusedVariables false
namespace Go.Av
theorem row_put {G : Ghost} {h : H} {w w' : World} {id : Nat} {cs xs : List AV} {vs rest : List Value} {T0 : TypeId} {fr : Nat × Nat} (R : RepH G h w) (ho : h.objs id = some (.cells cs)) (ht : h.toks = []) (hs : w.heap.size ≤ w'.heap.size) (hos : w'.os = w.os) (hou : w'.output = w.output)
    (hk : ∀ b, b < w.heap.size → b ≠ G.ι id → w'.heap[b]? = w.heap[b]?) (hf : SameForm w.heap[G.ι id]? w'.heap[G.ι id]?) (hl : vs.length = xs.length) (hE : ∀ G w, VRels G w xs vs)
    (h1 : ∀ v ∈ vs, One v) (hg : w'.heap[G.ι id]? = some (.cells (vs ++ rest).toArray T0 fr)) (hfr : fr.1 = fr.2) :
    Trans G w h G w' { h with objs := upd h.objs id (some (.cells xs)) } ∧ RepH G { h with objs := upd h.objs id (some (.cells xs)) } w' := by
  obtain ⟨i1, i2, i3, i4⟩ := R.obj id _ ho
  have hO : ∀ b, ¬ h.O G b → b ≠ G.ι id := fun b hh e => hh ⟨id, _, ho, e.symm⟩
  have hd : ∀ {j o}, upd h.objs id (some (Obj.cells xs)) j = some o → (j = id ∧ o = .cells xs) ∨ (j ≠ id ∧ h.objs j = some o) := by
    intro j o a
    simp only [upd] at a
    split at a
    · cases a; exact .inl ⟨by assumption, rfl⟩
    · exact .inr ⟨‹_›, a⟩
  have T : Trans G w h G w' { h with objs := upd h.objs id (some (.cells xs)) } := by
    constructor
    · exact fun _ x => x
    · exact fun _ x => .inl x
    · exact fun _ _ => rfl
    · exact fun _ x => x
    · exact fun _ => .inl
    · exact fun _ _ => rfl
    · exact Nat.le_refl _
    · exact Nat.le_refl _
    · exact hs
    · exact hos
    · exact hou
    · intro b hb
      by_cases e : b = G.ι id
      · subst e; exact hf
      · rw [hk b hb e]; exact SameForm.refl _
    · exact fun b hb h _ => hk b hb (hO b h)
    · exact fun _ _ _ => Iff.rfl
    · exact fun _ _ _ _ => rfl
    · rintro b hb ⟨t, htt, _⟩
      simp [ht] at htt
    · rintro b hb ⟨j, o, a, e⟩
      rcases hd a with ⟨rfl, -⟩ | ⟨x1, x2⟩
      · exact ⟨_, _, ho, e⟩
      · exact ⟨j, o, x2, e⟩
    · rintro b _ ⟨t, htt, _⟩
      simp [ht] at htt
    · intro j o a
      rcases hd a with ⟨rfl, -⟩ | ⟨x1, x2⟩
      · exact .inl ⟨_, ho⟩
      · exact .inl ⟨o, x2⟩
    · exact fun t x => .inl x
  refine ⟨T, ?_⟩
  constructor
  · intro j o a
    rcases hd a with ⟨rfl, rfl⟩ | ⟨x1, x2⟩
    · exact ⟨i1, i2, Nat.lt_of_lt_of_le i3 hs, vs, rest, T0, fr, hg, hE _ _, hfr, h1⟩
    · obtain ⟨r1, r2, r3, r4⟩ := R.obj j o x2
      have hne : G.ι j ≠ G.ι id := fun e => x1 (R.inj _ _ _ _ x2 ho e)
      refine ⟨r1, r2, Nat.lt_of_lt_of_le r3 hs, ?_⟩
      rw [hk _ r3 hne]
      cases o with
      | cells cs =>
        obtain ⟨vs, rest, T', fr, y1, y2, y3⟩ := r4
        exact ⟨vs, rest, T', fr, y1, VRels.mono R T _ _ y2, y3⟩
      | map es =>
        obtain ⟨en, clock, y1, y2⟩ := r4
        exact ⟨en, clock, y1, Entries.mono R T _ _ y2⟩
      | loop N t ps asg body st pend =>
        obtain ⟨r, y1, y2, y3, y4⟩ := r4
        exact ⟨r, y1, y2, fun i => VRel.mono R T _ _ (y3 i), y4⟩
  · intro i j o o' a b e
    have ha : ∃ p, h.objs i = some p := by
      rcases hd a with ⟨rfl, -⟩ | ⟨-, x⟩
      · exact ⟨_, ho⟩
      · exact ⟨_, x⟩
    have hb : ∃ p, h.objs j = some p := by
      rcases hd b with ⟨rfl, -⟩ | ⟨-, x⟩
      · exact ⟨_, ho⟩
      · exact ⟨_, x⟩
    obtain ⟨p, hp⟩ := ha
    obtain ⟨q, hq⟩ := hb
    exact R.inj _ _ _ _ hp hq e
  · exact fun t x => by simp [ht] at x
  · exact fun t x => by simp [ht] at x
end Go.Av
end
section
set_option linter.unusedSimpArgs false
set_option linter.unusedVariables false
namespace Go.Av
open Go.Sort Go.Proofs
section
variable {α : Type} [Inhabited α]
theorem flat_len {α : Type} {enc : α → List Value} {k : Nat} (hk : ∀ x, (enc x).length = k) : ∀ l : List α, (l.flatMap enc).length = l.length * k
  | [] => by simp
  | x :: l => by simp [flat_len hk l, hk, Nat.add_mul]; omega
theorem flat_get {enc : α → List Value} {k : Nat} (k0 : 0 < k) (hk : ∀ x, (enc x).length = k) : ∀ (l : List α) (t : Nat), t < l.length * k → (l.flatMap enc)[t]! = (enc (l.toArray[t / k]!))[t % k]!
  | [], t, h => by simp at h
  | x :: l, t, h => by
    have ih := flat_get k0 hk l
    by_cases c : t < k
    · have e1 : t / k = 0 := Nat.div_eq_of_lt c
      have e2 : t % k = t := Nat.mod_eq_of_lt c
      rw [e1, e2, List.flatMap_cons]
      have : t < (enc x).length := by rw [hk]; exact c
      simp [List.getElem!_eq_getElem?_getD, List.getElem?_append_left this]
    · have hc : k ≤ t := by omega
      have e1 : t / k = (t - k) / k + 1 := by
        rw [Nat.div_eq t k, if_pos ⟨k0, hc⟩]
      have e2 : t % k = (t - k) % k := Nat.mod_eq_sub_mod hc
      have hb : t - k < l.length * k := by simp [Nat.add_mul] at h; omega
      have := ih (t - k) hb
      rw [e1, e2, List.flatMap_cons]
      have e3 : (enc x).length ≤ t := by rw [hk]; exact hc
      simp only [List.getElem!_eq_getElem?_getD] at this ⊢
      rw [List.getElem?_append_right e3, hk, this]
      have e4 : ∀ i, (x :: l).toArray[i + 1]! = l.toArray[i]! := fun i => by simp [getElem!_def]
      rw [e4]
theorem flat_eq {enc : α → List Value} {k : Nat} (k0 : 0 < k) (hk : ∀ x, (enc x).length = k) (l : List α) : flatK enc k l.toArray = (l.flatMap enc).toArray := by
  refine ext_get! (by simp [flat_len hk]) fun t ht => ?_
  have ht' : t < l.length * k := by simpa using ht
  rw [get_flatK _ _ _ t (by simpa using ht')]
  have := flat_get k0 hk l t ht'
  simpa using this.symm
theorem sorted_world {enc : α → List Value} {k : Nat} (k0 : 0 < k) (hk : ∀ x, (enc x).length = k) {w : World} {blk n : Nat} {l l' : List α} {os : Array Go.Obj} {rest : List Value} {T : TypeId} {fr : Nat × Nat} (hb : blk < w.heap.size) (hl : l'.length = l.length)
    (hg : w.heap[blk]? = some (.cells (l.flatMap enc ++ rest).toArray T fr)) :
    (sortWorldK enc k w blk 0 n l'.toArray os).heap[blk]? = some (.cells (l'.flatMap enc ++ rest).toArray T fr) ∧ (∀ b, b < w.heap.size → b ≠ blk → (sortWorldK enc k w blk 0 n l'.toArray os).heap[b]? = w.heap[b]?) ∧ w.heap.size ≤ (sortWorldK enc k w blk 0 n l'.toArray os).heap.size := by
  have hf := flat_eq k0 hk l'
  have e : ∀ b, b < w.heap.size → (sortWorldK enc k w blk 0 n l'.toArray os).heap[b]? = (w.heap.modify blk (onCells (putCells id 0 (flatK enc k l'.toArray))))[b]? := fun b hb => by
    simp only [sortWorldK, grow, putRowK, putRow, mapBlock, ahead]
    rw [Array.getElem?_append_left (by simpa [ahead] using hb)]
    rfl
  refine ⟨?_, fun b hb hne => ?_, by simp [sortWorldK, grow, putRowK, putRow, mapBlock, ahead]⟩
  · rw [e blk hb, Array.getElem?_modify, if_pos rfl, hg, Option.map_some, onCells, hf]
    congr 2
    apply Array.ext_getElem?
    intro j
    have l1 := flat_len hk l'
    have l2 := flat_len hk l
    simp only [putCells, Array.getElem?_mapIdx, List.getElem?_toArray, List.size_toArray, Nat.zero_le, true_and, Nat.zero_add, Nat.sub_zero, id]
    by_cases c : j < l'.length * k
    · have a1 : j < (l'.flatMap enc).length := by omega
      have a2 : j < (l.flatMap enc).length := by rw [l2, ← hl]; exact c
      rw [List.getElem?_append_left a1, List.getElem?_append_left a2, List.getElem?_eq_getElem a1, List.getElem?_eq_getElem a2, Option.map_some, if_pos a1]
      simp only [List.getElem!_toArray, List.getElem!_eq_getElem?_getD, List.getElem?_eq_getElem a1, Option.getD_some]
    · have a1 : (l'.flatMap enc).length ≤ j := by omega
      have a2 : (l.flatMap enc).length ≤ j := by rw [l2, ← hl]; omega
      rw [List.getElem?_append_right a1, List.getElem?_append_right a2, l1, l2, hl]
      cases rest[j - l.length * k]? with
      | none => rfl
      | some v => rw [Option.map_some, if_neg (by omega)]
  · rw [e b hb, Array.getElem?_modify, if_neg (fun h => hne h.symm)]
theorem sort_t {P : Program} {f g : Nat} {enc : α → List Value} {encA : α → List AV} {k : Nat} (k0 : 0 < k) (hk : ∀ x, (enc x).length = k) (hkA : ∀ l : List α, (l.flatMap encA).length = l.length * k)
    (hE : ∀ (l : List α) G w, VRels G w (l.flatMap encA) (l.flatMap enc)) (hD : ∀ (l : List α) G w vs, VRels G w (l.flatMap encA) vs → vs = l.flatMap enc) (h1 : ∀ l : List α, ∀ v ∈ l.flatMap enc, One v)
    {lt : α → α → Bool} (l l' : List α) (hln : 0 < l.length) (hll : l'.length = l.length)
    (hu : ∀ d' : Array α, PermIn 0 l.length l.toArray d' → SortedIn lt 0 l.length d' → d' = l'.toArray)
    (hcon : ∀ (blk cap : Nat) (w : World), HoldsK enc k w blk 0 l.toArray → blk < w.heap.size → Calls P f #[.slice (some ⟨blk, 0, none⟩) l.length cap, .func (.func g) #[] #[]] w fun e w' => e = .returned (.tuple #[]) ∧ ∃ d' n os, PermIn 0 l.length l.toArray d' ∧ SortedIn lt 0 l.length d' ∧ w' = sortWorldK enc k w blk 0 n d' os)
    {id : Nat} {h : H} (ho : h.objs id = some (.cells (l.flatMap encA))) (htk : h.toks = []) :
    ACalls P f [.tsl k id 0 l.length none, .clo (.func g) [] []] h (.tup []) { h with objs := upd h.objs id (some (.cells (l'.flatMap encA))) } := by
  intro G w vs hv R F
  simp only [VRels, VRel] at hv
  obtain ⟨v1, _, rfl, ⟨hd1, hv1⟩, v2, _, rfl, ⟨va, vb, rfl, rfl, rfl⟩, rfl⟩ := hv
  obtain ⟨C, c, T, fr, rfl, ⟨hnC, hc63⟩, -, hg, hroom⟩ | ⟨hz, -⟩ := hv1
  rotate_left
  · omega
  obtain ⟨-, hown, hB, us, rest, T', fr', hg', hvs, hfr, -⟩ := R.obj id _ ho
  have hus := hD l G w us hvs
  subst hus
  have hH : HoldsK enc k w (G.ι id) 0 l.toArray := by
    intro j hj
    rw [flat_eq k0 hk] at hj ⊢
    have hj' : j < (l.flatMap enc).length := by simpa using hj
    constructor
    · unfold World.cell?
      simp only [hg', Nat.zero_add]
      simp [List.getElem?_append_left hj', getElem!_def, hj', List.getElem?_eq_getElem hj']
    · unfold World.frozen?
      simp only [hg']
      have := hfr
      simp; omega
  refine (hcon (G.ι id) C w hH hB).mono fun e w' ⟨he, d', n, os, hp, hs, hw⟩ => ?_
  have hdd := hu d' hp hs
  subst hdd
  subst he hw
  obtain ⟨w1, w2, w3⟩ := sorted_world k0 hk (n := n) (os := os) hB hll hg'
  obtain ⟨T1, R1⟩ := row_put R ho htk w3 (by rfl) (by rfl) w2 (by rw [hg', w1]; exact ⟨_, _, rfl, by simp [flat_len hk, hll], fun _ _ h => h⟩) (by rw [hkA, flat_len hk]) (hE l') (h1 l') w1 hfr
  exact ⟨_, G, rfl, T1, R1, by simp [VRel, VRels]⟩
theorem pw_eq {α : Type} {r : α → α → Prop} (ir : ∀ x, ¬ r x x) (tr : ∀ x y z, r x y → r y z → r x z) : ∀ {a b : List α}, a.Pairwise r → b.Pairwise r → (∀ x, x ∈ a ↔ x ∈ b) → a = b
  | [], [], _, _, _ => rfl
  | [], y :: b, _, _, h => by have := (h y).2 (by simp); simp at this
  | x :: a, [], _, _, h => by have := (h x).1 (by simp); simp at this
  | x :: a, y :: b, ha, hb, h => by
    have ha' := List.pairwise_cons.1 ha
    have hb' := List.pairwise_cons.1 hb
    have hxy : x = y := by
      rcases List.mem_cons.1 ((h x).1 (by simp)) with e | hx
      · exact e
      · rcases List.mem_cons.1 ((h y).2 (by simp)) with e | hy
        · exact e.symm
        · exact absurd (tr _ _ _ (hb'.1 x hx) (ha'.1 y hy)) (ir _)
    subst hxy
    congr 1
    refine pw_eq ir tr ha'.2 hb'.2 fun p => ⟨fun hp => ?_, fun hp => ?_⟩
    · rcases List.mem_cons.1 ((h p).1 (by simp [hp])) with e | h1
      · subst e; exact absurd (ha'.1 p hp) (ir _)
      · exact h1
    · rcases List.mem_cons.1 ((h p).2 (by simp [hp])) with e | h1
      · subst e; exact absurd (hb'.1 p hp) (ir _)
      · exact h1
theorem sorted_one {α : Type} [Inhabited α] {lt : α → α → Bool} (ir : ∀ x, lt x x = false) (tr : ∀ x y z, lt x y = true → lt y z = true → lt x z = true) {l l' : List α} (tot : ∀ x ∈ l, ∀ y ∈ l, x = y ∨ lt x y = true ∨ lt y x = true) (nd : l.Nodup)
    (hp : l'.Pairwise fun x y => lt x y = true) (hm : ∀ x, x ∈ l' ↔ x ∈ l) {d' : Array α} (h1 : PermIn 0 l.length l.toArray d') (h2 : SortedIn lt 0 l.length d') : d' = l'.toArray := by
  obtain ⟨hs, -, hperm⟩ := h1
  have hs' : d'.size = l.length := by simpa using hs
  have e1 : (d'.extract 0 l.length) = d' := by rw [← hs']; simp
  have e2 : (l.toArray.extract 0 l.length) = l.toArray := by simp
  rw [e1, e2] at hperm
  have hperm : d'.toList.Perm l := by simpa using hperm
  have nd' : d'.toList.Nodup := hperm.nodup_iff.2 nd
  have pw : d'.toList.Pairwise fun x y => lt x y = true := by
    rw [List.pairwise_iff_getElem]
    intro i j hi hj hij
    have hi' : i < d'.size := by simpa using hi
    have hj' : j < d'.size := by simpa using hj
    have := h2 i j (Nat.zero_le _) hij (by omega)
    rw [getElem!_pos d' i hi', getElem!_pos d' j hj'] at this
    have m1 : d'[i] ∈ l := hperm.mem_iff.1 (by simp)
    have m2 : d'[j] ∈ l := hperm.mem_iff.1 (by simp)
    rcases tot _ m1 _ m2 with e | e | e
    · have := (List.nodup_iff_pairwise_ne.1 nd')
      have := List.pairwise_iff_getElem.1 this i j hi hj hij
      exact absurd (by simpa using e) this
    · simpa using e
    · rw [this] at e; cases e
  have := pw_eq (r := fun x y => lt x y = true) (fun x => by rw [ir]; simp) tr pw hp fun x => by rw [hperm.mem_iff, hm]
  rw [← this]
end
end Go.Av
end
section
set_option linter.unusedSimpArgs false
set_option linter.unusedVariables false
set_option maxRecDepth 10000
namespace Go.Proofs.Ytobokfclaooloaa.Space
open Go Go.Av Go.Proofs Go.Proofs.Ytobokfclaooloaa.C Go.Proofs.Ytobokfclaooloaa.Batch
theorem pw_adj {α : Type} [Inhabited α] {r : α → α → Prop} (tr : ∀ x y z, r x y → r y z → r x z) {l : List α} (h : ∀ i, i + 1 < l.length → r (l.getD i default) (l.getD (i + 1) default)) : l.Pairwise r := by
  have key : ∀ d i, i + d + 1 < l.length → r (l.getD i default) (l.getD (i + d + 1) default) := by
    intro d
    induction d with
    | zero => intro i hi; exact h i hi
    | succ d ih => intro i hi; exact tr _ _ _ (ih i (by omega)) (h (i + d + 1) (by omega))
  rw [List.pairwise_iff_getElem]
  intro i j hi hj hij
  have := key (j - i - 1) i (by omega)
  rw [show i + (j - i - 1) + 1 = j by omega, Av.getD_el hi, Av.getD_el hj] at this
  exact this
theorem okL_rise {l : List It} (h : okL l = true) : l.Pairwise fun a b => Op.bytesLess a.1 b.1 = true :=
  pw_adj (r := fun a b : It => Op.bytesLess a.1 b.1 = true) (fun x y z h1 h2 => less_trans h1 h2) fun i hi => by
    have := okL_at h hi
    rw [itOk_pos (by omega), Bool.and_eq_true, Nat.add_sub_cancel] at this
    exact this.2
theorem okL_all {l : List It} (h : okL l = true) : ∀ x ∈ l, mayI x = true := fun x hx => by
  obtain ⟨i, hi, rfl⟩ := List.mem_iff_getElem.1 hx
  have := okL_may h hi
  rwa [Av.getD_el hi] at this
theorem okL_of {l : List It} (h1 : l.Pairwise fun a b => Op.bytesLess a.1 b.1 = true) (h2 : ∀ x ∈ l, mayI x = true) : okL l = true := by
  refine all_yes fun i hi => ?_
  have hm : mayI (l.getD i default) = true := by rw [Av.getD_el hi]; exact h2 _ (List.getElem_mem hi)
  by_cases hz : i = 0
  · rw [itOk_zero hz]; exact hm
  · rw [itOk_pos hz, hm, Bool.true_and, Av.getD_el hi, Av.getD_el (show i - 1 < l.length by omega)]
    exact List.pairwise_iff_getElem.1 h1 (i - 1) i (by omega) hi (by omega)
theorem chB_desc {l : List Ver} (h : chB l = true) : l.Pairwise fun a b => b.t < a.t := by
  rw [List.pairwise_iff_getElem]
  intro i j hi hj hij
  have := desc h hij hj
  rwa [Av.getD_el hi, Av.getD_el hj] at this
theorem chB_all {l : List Ver} (h : chB l = true) : ∀ v ∈ l, okV v = true := fun v hv => by
  obtain ⟨i, hi, rfl⟩ := List.mem_iff_getElem.1 hv
  have := chB_ok h hi
  rwa [Av.getD_el hi] at this
theorem key_inj {k k' : Bs} {t t' : Int} (h1 : 1 ≤ t ∧ t ≤ 1152921504606846976) (h2 : 1 ≤ t' ∧ t' ≤ 1152921504606846976) (h : k ++ be 8 (1152921504606846976 - t).toNat = k' ++ be 8 (1152921504606846976 - t').toNat) : k = k' ∧ t = t' := by
  have e := List.append_inj' h (by rw [be_length, be_length])
  refine ⟨e.1, ?_⟩
  have e2 := congrArg Batch.val e.2
  rw [val_be 8 _ (by omega), val_be 8 _ (by omega)] at e2
  omega
theorem prL_keys {l : List It} (h : okL l = true) : (prL l).Pairwise fun x y => x.k ≠ y.k := by
  unfold prL
  rw [List.pairwise_flatMap]
  have hv : ∀ x ∈ l, ∀ v ∈ x.2, 1 ≤ v.t ∧ v.t ≤ 1152921504606846976 := fun x hx v hv => by
    have := okV_iff.1 (chB_all (mayI_iff.1 (okL_all h x hx)).2.2.1 v hv)
    exact ⟨this.1, this.2.1⟩
  constructor
  · intro x hx
    unfold prI
    rw [List.pairwise_map]
    refine (chB_desc (mayI_iff.1 (okL_all h x hx)).2.2.1).imp_of_mem fun {a b} ha hb hab e => ?_
    have := (key_inj (hv x hx a ha) (hv x hx b hb) e).2
    omega
  · refine (okL_rise h).imp_of_mem fun {a b} ha hb hab x hx y hy e => ?_
    simp only [prI, List.mem_map] at hx hy
    obtain ⟨v, hv1, rfl⟩ := hx
    obtain ⟨u, hu1, rfl⟩ := hy
    have := (key_inj (hv a ha v hv1) (hv b hb u hu1) e).1
    rw [this, less_irrefl] at hab
    cases hab
theorem keys_inj {l : List Pr} (h : l.Pairwise fun x y => x.k ≠ y.k) : ∀ x ∈ l, ∀ y ∈ l, x.k = y.k → x = y := by
  intro x hx y hy e
  obtain ⟨i, hi, rfl⟩ := List.mem_iff_getElem.1 hx
  obtain ⟨j, hj, rfl⟩ := List.mem_iff_getElem.1 hy
  have hp := List.pairwise_iff_getElem.1 h
  rcases Nat.lt_trichotomy i j with h1 | h1 | h1
  · exact absurd e (hp i j hi hj h1)
  · subst h1; rfl
  · exact absurd e.symm (hp j i hj hi h1)
theorem keys_nodup {l : List Pr} (h : l.Pairwise fun x y => x.k ≠ y.k) : l.Nodup := h.imp fun h e => h (by rw [e])
theorem putGo_new {k v : Bs} : ∀ {l : List Pr} {b : Bool}, (∀ x ∈ l, x.k ≠ k) → (putGo k v b l).length = l.length + (if b then 0 else 1) ∧ ∀ x, x ∈ putGo k v b l ↔ (b = false ∧ x = ⟨k, v⟩) ∨ x ∈ l
  | [], b, _ => by cases b <;> simp [putGo]
  | p :: l, b, h => by
    have h1 := putGo_new (k := k) (v := v) (l := l) (b := true) fun x hx => h x (by simp [hx])
    have h2 := putGo_new (k := k) (v := v) (l := l) (b := false) fun x hx => h x (by simp [hx])
    have hp := h p (by simp)
    simp only [if_true, if_false, Bool.false_eq_true, Nat.add_zero, Bool.true_eq_false, false_and, false_or, true_and] at h1 h2
    rw [putGo]
    cases b <;> cases Op.bytesLess p.k k <;> simp [hp, h1.1, h2.1, h1.2, h2.2]
    all_goals (try intro x; try constructor) <;> (try (intro h; rcases h with h | h | h <;> simp [h]))
theorem sorted_new {l : List Pr} (h : l.Pairwise fun x y => x.k ≠ y.k) (hs : ∀ p ∈ l, shut p.k p.v = false) : (sortedP l).length = l.length ∧ ∀ x, x ∈ sortedP l ↔ x ∈ l := by
  revert h hs
  refine snocInd (P := fun l => (l.Pairwise fun x y => x.k ≠ y.k) → (∀ p ∈ l, shut p.k p.v = false) → (sortedP l).length = l.length ∧ ∀ x, x ∈ sortedP l ↔ x ∈ l) (fun _ _ => by simp [sortedP]) (fun a p ih h hs => ?_) l
  have hp := List.pairwise_append.1 h
  obtain ⟨i1, i2⟩ := ih hp.1 fun q hq => hs q (by simp [hq])
  have hsp := hs p (by simp)
  rw [sortedP_snoc, putP, if_neg (by rw [hsp]; simp)]
  have := putGo_new (k := p.k) (v := p.v) (l := sortedP a) (b := false) fun x hx => hp.2.2 x ((i2 x).1 hx) p (by simp)
  refine ⟨by rw [this.1, i1]; simp, fun x => ?_⟩
  rw [this.2, i2]
  simp only [true_and, List.mem_append, List.mem_singleton]
  exact or_comm
theorem prL_shut {l : List It} (h : okL l = true) : ∀ p ∈ prL l, shut p.k p.v = false := fun p hp => by
  simp only [prL, prI, List.mem_flatMap, List.mem_map] at hp
  obtain ⟨x, hx, v, hv, rfl⟩ := hp
  obtain ⟨m1, m2, m3, m4⟩ := mayI_iff.1 (okL_all h x hx)
  have := m4 v hv
  simp only [shut, prV, vval, List.length_append, be_length, Bool.or_eq_false_iff, decide_eq_false_iff_not]
  refine ⟨by omega, ?_⟩
  split
  · simp
  · simp; omega
theorem sort_tot {l : List It} (h : okL l = true) : ∀ x ∈ prL l, ∀ y ∈ prL l, x = y ∨ Op.bytesLess x.k y.k = true ∨ Op.bytesLess y.k x.k = true := fun x hx y hy => by
  rcases less_total x.k y.k with h1 | h1 | h1
  · exact .inr (.inl h1)
  · exact .inl (keys_inj (prL_keys h) x hx y hy h1)
  · exact .inr (.inr h1)
theorem sorted_rise (l : List Pr) : (sortedP l).Pairwise fun x y => Op.bytesLess x.k y.k = true := (sorted_ok l).1
end Go.Proofs.Ytobokfclaooloaa.Space
end
section
set_option linter.unusedSimpArgs false
set_option linter.unusedVariables false
set_option maxRecDepth 10000
namespace Go.Proofs.Ytobokfclaooloaa.Space
open Go Go.Av Go.Proofs Go.Proofs.Ytobokfclaooloaa.C Go.Proofs.Ytobokfclaooloaa.Batch
theorem wiG_true (q : Bs) (v : Ver) : ∀ l, wiG q v true l = l
  | [] => rfl
  | x :: l => by simp [wiG, wiG_true q v l]
theorem wiG_split (q : Bs) (v : Ver) : ∀ l : List It, ∃ a b, l = a ++ b ∧ (∀ x ∈ a, Op.bytesLess x.1 q = true) ∧ ((b = [] ∧ wiG q v false l = a ++ [(q, [v])]) ∨ ∃ y b', b = y :: b' ∧ Op.bytesLess y.1 q = false ∧ ((y.1 = q ∧ wiG q v false l = a ++ (q, plV y.2 v) :: b') ∨ (y.1 ≠ q ∧ wiG q v false l = a ++ (q, [v]) :: y :: b')))
  | [] => ⟨[], [], rfl, by simp, .inl ⟨rfl, rfl⟩⟩
  | x :: l => by
    cases hx : Op.bytesLess x.1 q with
    | true =>
      obtain ⟨a, b, h1, h2, h3⟩ := wiG_split q v l
      refine ⟨x :: a, b, by rw [h1]; rfl, fun y hy => ?_, ?_⟩
      · rcases List.mem_cons.1 hy with rfl | hy
        · exact hx
        · exact h2 y hy
      · have e : wiG q v false (x :: l) = x :: wiG q v false l := by simp [wiG, hx]
        rcases h3 with ⟨rfl, h3⟩ | ⟨y, b', rfl, h4, h3⟩
        · exact .inl ⟨rfl, by rw [e, h3]; rfl⟩
        · refine .inr ⟨y, b', rfl, h4, ?_⟩
          rcases h3 with ⟨h5, h3⟩ | ⟨h5, h3⟩
          · exact .inl ⟨h5, by rw [e, h3]; rfl⟩
          · exact .inr ⟨h5, by rw [e, h3]; rfl⟩
    | false =>
      refine ⟨[], x :: l, rfl, by simp, .inr ⟨x, l, rfl, hx, ?_⟩⟩
      by_cases hk : x.1 = q
      · exact .inl ⟨hk, by subst hk; simp [wiG, hx, wiG_true]⟩
      · exact .inr ⟨hk, by simp [wiG, hx, hk, wiG_true]⟩
theorem plG_end (v : Ver) : ∀ l : List Ver, (∀ u ∈ l, ¬ u.t < v.t) → plG v false l = l ++ [v]
  | [], _ => rfl
  | x :: l, h => by
    have hx := h x (by simp)
    simp [plG, hx, plG_end v l fun u hu => h u (by simp [hu])]
theorem less_app (k : Bs) : ∀ a b : Bs, Op.bytesLess (k ++ a) (k ++ b) = Op.bytesLess a b := by
  induction k with
  | nil => intro a b; rfl
  | cons c k ih =>
    intro a b
    simp [Op.bytesLess, ih]
theorem less_val : ∀ {a b : Bs}, a.length = b.length → Op.bytesLess a b = true → Batch.val a < Batch.val b := by
  have hv : ∀ (c : UInt8) (l : Bs), Batch.val (c :: l) = c.toNat * 256 ^ l.length + Batch.val l := by
    have : ∀ (l : Bs) (n : Nat), l.foldl (fun n c => n * 256 + c.toNat) n = n * 256 ^ l.length + l.foldl (fun n c => n * 256 + c.toNat) 0 := by
      intro l
      induction l with
      | nil => intro n; simp
      | cons c l ih =>
        intro n
        simp only [List.foldl_cons, List.length_cons]
        rw [ih (n * 256 + c.toNat), ih (0 * 256 + c.toNat), Nat.pow_succ, Nat.add_mul, Nat.zero_mul, Nat.zero_add]
        have e : n * 256 * 256 ^ l.length = n * (256 ^ l.length * 256) := by rw [Nat.mul_assoc, Nat.mul_comm 256]
        omega
    intro c l
    unfold Batch.val
    rw [List.foldl_cons, this l]
    simp
  intro a
  induction a with
  | nil => intro b h1 h2; cases b with
    | nil => simp [Op.bytesLess] at h2
    | cons => simp at h1
  | cons c a ih =>
    intro b h1 h2
    cases b with
    | nil => simp at h1
    | cons d b =>
      have hl : a.length = b.length := by simpa using h1
      rw [hv, hv, hl]
      have la := val_lt a
      have lb := val_lt b
      rw [hl] at la
      simp only [Op.bytesLess, Bool.or_eq_true, decide_eq_true_eq, Bool.and_eq_true, beq_iff_eq] at h2
      rcases h2 with h2 | ⟨h2, h3⟩
      · have h4 : c.toNat < d.toNat := h2
        have : (c.toNat + 1) * 256 ^ b.length ≤ d.toNat * 256 ^ b.length := Nat.mul_le_mul_right _ h4
        rw [Nat.add_mul] at this
        omega
      · subst h2
        have := ih hl h3
        omega
def chO (l : List Pr) (q : Bs) : List Ver := (l.filter fun p => decide (vK p = q)).map vV
theorem chO_snoc (l : List Pr) (p : Pr) (q : Bs) : chO (l ++ [p]) q = chO l q ++ (if vK p = q then [vV p] else []) := by
  unfold chO
  rw [List.filter_append, List.map_append]
  congr 1
  by_cases h : vK p = q <;> simp [h]
theorem chO_none {l : List Pr} {q : Bs} (h : ¬ ∃ p ∈ l, vK p = q) : chO l q = [] := by
  unfold chO
  rw [List.filter_eq_nil_iff.2 fun p hp => by simpa using fun e => h ⟨p, hp, e⟩]
  rfl
theorem vOkP_iff {p : Pr} : vOkP p = true ↔ 8 ≤ p.k.length ∧ p.v ≠ [] ∧ (p.v.getD 0 0).toNat ≤ 1 ∧ 0 ≤ vT p ∧ vT p < 1152921504606846976 := by
  simp only [vOkP, vFit, Bool.and_eq_true, decide_eq_true_eq, Bool.not_eq_true', decide_eq_false_iff_not]
  constructor
  · rintro ⟨⟨⟨⟨a, b⟩, c⟩, d⟩, e⟩; exact ⟨a, b, c, d, e⟩
  · rintro ⟨a, b, c, d, e⟩; exact ⟨⟨⟨⟨a, b⟩, c⟩, d⟩, e⟩
theorem vT_val {p : Pr} (h : 8 ≤ p.k.length) (h0 : 0 ≤ vT p) : vT p = (Batch.val (p.k.drop (vN p)) : Int) := i64_pos (by simp [vN]; omega) h0
theorem later {x p : Pr} (hx : vOkP x = true) (hp : vOkP p = true) (hk : vK x = vK p) (hl : Op.bytesLess x.k p.k = true) : vT x < vT p := by
  obtain ⟨x1, -, -, x2, -⟩ := vOkP_iff.1 hx
  obtain ⟨p1, -, -, p2, -⟩ := vOkP_iff.1 hp
  rw [vT_val x1 x2, vT_val p1 p2]
  have e1 : x.k = vK x ++ x.k.drop (vN x) := (List.take_append_drop _ _).symm
  have e2 : p.k = vK p ++ p.k.drop (vN p) := (List.take_append_drop _ _).symm
  rw [e1, e2, hk, less_app] at hl
  have := less_val (by simp [vN]; omega) hl
  omega
structure ItLaw (l : List Pr) (R : List It) : Prop where
  rise : R.Pairwise fun a b => Op.bytesLess a.1 b.1 = true
  ch : ∀ x ∈ R, x.2 = chO l x.1
  key : ∀ q, q ∈ R.map (·.1) ↔ ∃ p ∈ l, vK p = q
theorem not_less {a b : Bs} (h : Op.bytesLess a b = false) (hne : a ≠ b) : Op.bytesLess b a = true := by
  rcases less_total a b with h1 | h1 | h1
  · rw [h] at h1; cases h1
  · exact absurd h1 hne
  · exact h1
theorem itR_law {l : List Pr} (h1 : ∀ p ∈ l, vOkP p = true) (h2 : l.Pairwise fun x y => Op.bytesLess x.k y.k = true) : ItLaw l (itR l) := by
  revert h1 h2
  refine snocInd (P := fun l => (∀ p ∈ l, vOkP p = true) → (l.Pairwise fun x y => Op.bytesLess x.k y.k = true) → ItLaw l (itR l)) (fun _ _ => ⟨by simp [itR], by simp [itR], by simp [itR]⟩) (fun a p ih h1 h2 => ?_) l
  have hp2 := List.pairwise_append.1 h2
  obtain ⟨i1, i2, i3⟩ := ih (fun q hq => h1 q (by simp [hq])) hp2.1
  have hpo := h1 p (by simp)
  rw [itR_snoc]
  have key' : ∀ q, (∃ x ∈ a ++ [p], vK x = q) ↔ (∃ x ∈ a, vK x = q) ∨ vK p = q := fun q => by
    constructor
    · rintro ⟨x, hx, e⟩
      rcases List.mem_append.1 hx with hx | hx
      · exact .inl ⟨x, hx, e⟩
      · rw [List.mem_singleton.1 hx] at e; exact .inr e
    · rintro (⟨x, hx, e⟩ | e)
      · exact ⟨x, by simp [hx], e⟩
      · exact ⟨p, by simp, e⟩
  obtain ⟨A, B, e, hA, hB⟩ := wiG_split (vK p) (vV p) (itR a)
  unfold wiL
  rw [e] at i1 i2 i3
  have hpw := List.pairwise_append.1 i1
  have oth : ∀ x ∈ A ++ B, x.1 ≠ vK p → x.2 = chO (a ++ [p]) x.1 := fun x hx hne => by
    rw [chO_snoc, if_neg (fun h => hne h.symm), List.append_nil]; exact i2 x hx
  rcases hB with ⟨rfl, hB⟩ | ⟨y, b', rfl, hy, ⟨hyk, hB⟩ | ⟨hyk, hB⟩⟩
  · rw [hB]
    rw [List.append_nil] at i1 i2 i3 oth
    have hno : ¬ ∃ x ∈ a, vK x = vK p := fun h => by
      obtain ⟨x, hx, hxe⟩ := List.mem_map.1 ((i3 (vK p)).2 h)
      exact less_ne (hA x hx) hxe
    refine ⟨List.pairwise_append.2 ⟨i1, by simp, fun x hx y hy => ?_⟩, fun x hx => ?_, fun q => ?_⟩
    · rw [List.mem_singleton.1 hy]; exact hA x hx
    · rcases List.mem_append.1 hx with hx | hx
      · exact oth x hx (less_ne (hA x hx))
      · rw [List.mem_singleton.1 hx]
        simp only []
        rw [chO_snoc, chO_none hno, if_pos rfl]; rfl
    · rw [key', ← i3]
      simp only [List.map_append, List.map_cons, List.map_nil, List.mem_append, List.mem_singleton]
      exact ⟨fun h => h.imp_right fun h => h.symm, fun h => h.imp_right fun h => h.symm⟩
  · rw [hB]
    have hy2 := i2 y (by simp)
    have hyb := List.pairwise_cons.1 hpw.2.1
    have hpl : plV y.2 (vV p) = y.2 ++ [vV p] := by
      unfold plV
      refine plG_end _ _ fun u hu => ?_
      rw [hy2] at hu
      obtain ⟨x, hx, rfl⟩ := List.mem_map.1 hu
      have hx := List.mem_filter.1 hx
      have := later (h1 x (by simp [hx.1])) hpo (by rw [of_decide_eq_true hx.2, hyk]) (hp2.2.2 x hx.1 p (by simp))
      simp only [vV]; omega
    refine ⟨List.pairwise_append.2 ⟨hpw.1, List.pairwise_cons.2 ⟨fun z hz => ?_, hyb.2⟩, fun x hx z hz => ?_⟩, fun x hx => ?_, fun q => ?_⟩
    · rw [← hyk]; exact hyb.1 z hz
    · rcases List.mem_cons.1 hz with rfl | hz
      · exact hA x hx
      · exact hpw.2.2 x hx z (by simp [hz])
    · rcases List.mem_append.1 hx with hx | hx
      · exact oth x (by simp [hx]) (less_ne (hA x hx))
      · rcases List.mem_cons.1 hx with rfl | hx
        · simp only []
          rw [chO_snoc, if_pos rfl, hpl, hy2, hyk]
        · exact oth x (by simp [hx]) (fun h => by have := hyb.1 x hx; rw [h, hyk, less_irrefl] at this; cases this)
    · rw [key', ← i3]
      simp only [List.map_append, List.map_cons, List.mem_append, List.mem_cons, hyk]
      constructor
      · rintro (h | h | h)
        · exact .inl (.inl h)
        · exact .inr h.symm
        · exact .inl (.inr (.inr h))
      · rintro ((h | h | h) | h)
        · exact .inl h
        · exact .inr (.inl h)
        · exact .inr (.inr h)
        · exact .inr (.inl h.symm)
  · rw [hB]
    have hqy := not_less hy hyk
    have hyb := List.pairwise_cons.1 hpw.2.1
    have hqb : ∀ z ∈ y :: b', Op.bytesLess (vK p) z.1 = true := fun z hz => by
      rcases List.mem_cons.1 hz with rfl | hz
      · exact hqy
      · exact less_trans hqy (hyb.1 z hz)
    have hno : ¬ ∃ x ∈ a, vK x = vK p := fun h => by
      obtain ⟨x, hx, hxe⟩ := List.mem_map.1 ((i3 (vK p)).2 h)
      rcases List.mem_append.1 hx with hx | hx
      · exact less_ne (hA x hx) hxe
      · exact less_ne (hqb x hx) hxe.symm
    refine ⟨List.pairwise_append.2 ⟨hpw.1, List.pairwise_cons.2 ⟨hqb, hpw.2.1⟩, fun x hx z hz => ?_⟩, fun x hx => ?_, fun q => ?_⟩
    · rcases List.mem_cons.1 hz with rfl | hz
      · exact hA x hx
      · exact hpw.2.2 x hx z hz
    · rcases List.mem_append.1 hx with hx | hx
      · exact oth x (by simp [hx]) (less_ne (hA x hx))
      · rcases List.mem_cons.1 hx with rfl | hx
        · simp only []
          rw [chO_snoc, if_pos rfl, chO_none hno]; rfl
        · exact oth x (List.mem_append.2 (.inr hx)) (less_ne (hqb x hx)).symm
    · rw [key', ← i3]
      simp only [List.map_append, List.map_cons, List.mem_append, List.mem_cons]
      constructor
      · rintro (h | h | h | h)
        · exact .inl (.inl h)
        · exact .inr h.symm
        · exact .inl (.inr (.inl h))
        · exact .inl (.inr (.inr h))
      · rintro ((h | h | h) | h)
        · exact .inl h
        · exact .inr (.inr (.inl h))
        · exact .inr (.inr (.inr h))
        · exact .inr (.inl h.symm)
end Go.Proofs.Ytobokfclaooloaa.Space
end
section
set_option linter.unusedSimpArgs false
set_option linter.unusedVariables false
set_option maxRecDepth 100000
namespace Go.Proofs.Ytobokfclaooloaa.Batch
open Go Go.Proofs Go.Lib Go.RowKit Go.Shelf
def sort_ren : Go.Shelf.Ren := ⟨fun | 6 => 17 | 14 => 38 | 15 => 39 | 20 => 56 | 21 => 57 | 22 => 58 | 23 => 59 | 24 => 60 | 25 => 61 | 26 => 62 | 27 => 63 | 28 => 64 | 29 => 65 | 46 => 79 | 47 => 80 | 48 => 81 | 49 => 82 | 50 => 83 | 57 => 87 | n => n, fun | 0 => 0 | 3 => 3 | 4 => 4 | 5 => 5 | 9 => 9 | 22 => 23 | 24 => 42 | 25 => 58 | 39 => 84 | 45 => 103 | 46 => 104 | 50 => 108 | 53 => 111 | 55 => 88 | 66 => 120 | 70 => 124 | 76 => 128 | 77 => 129 | n => n, fun n => n⟩
theorem sort_lays : SlLaysF0.n6 Try.prog sort_ren where
  mixed := by kernel_rfl
  f6 := ⟨Try.f17.name, by kernel_rfl, Try.func17.trans (congrArg some (by kernel_rfl))⟩
  f14 := ⟨Try.f38.name, by kernel_rfl, Try.func38.trans (congrArg some (by kernel_rfl))⟩
  f15 := Try.func39.trans (congrArg some (by kernel_rfl))
  f20 := ⟨Try.f56.name, by kernel_rfl, Try.func56.trans (congrArg some (by kernel_rfl))⟩
  f21 := ⟨Try.f57.name, by kernel_rfl, Try.func57.trans (congrArg some (by kernel_rfl))⟩
  f22 := ⟨Try.f58.name, by kernel_rfl, Try.func58.trans (congrArg some (by kernel_rfl))⟩
  f23 := ⟨Try.f59.name, by kernel_rfl, Try.func59.trans (congrArg some (by kernel_rfl))⟩
  f24 := ⟨Try.f60.name, by kernel_rfl, Try.func60.trans (congrArg some (by kernel_rfl))⟩
  f25 := ⟨Try.f61.name, by kernel_rfl, Try.func61.trans (congrArg some (by kernel_rfl))⟩
  f26 := ⟨Try.f62.name, by kernel_rfl, Try.func62.trans (congrArg some (by kernel_rfl))⟩
  f27 := ⟨Try.f63.name, by kernel_rfl, Try.func63.trans (congrArg some (by kernel_rfl))⟩
  f28 := Try.func64.trans (congrArg some (by kernel_rfl))
  f29 := Try.func65.trans (congrArg some (by kernel_rfl))
  f46 := ⟨Try.f79.name, by kernel_rfl, Try.func79.trans (congrArg some (by kernel_rfl))⟩
  f47 := Try.func80.trans (congrArg some (by kernel_rfl))
  f48 := Try.func81.trans (congrArg some (by kernel_rfl))
  f49 := ⟨Try.f82.name, by kernel_rfl, Try.func82.trans (congrArg some (by kernel_rfl))⟩
  f50 := ⟨Try.f83.name, by kernel_rfl, Try.func83.trans (congrArg some (by kernel_rfl))⟩
  f57 := ⟨Try.f87.name, by kernel_rfl, Try.func87.trans (congrArg some (by kernel_rfl))⟩
  t0 := Try.underlying0
  a0 := Try.isAgg0
  z0 := Try.sizeOf0
  v0 := Try.zeroValue0
  t3 := Try.underlying3
  a3 := Try.isAgg3
  z3 := Try.sizeOf3
  v3 := Try.zeroValue3
  t4 := Try.underlying4
  a4 := Try.isAgg4
  z4 := Try.sizeOf4
  v4 := Try.zeroValue4
  t5 := Try.underlying5
  a5 := Try.isAgg5
  z5 := Try.sizeOf5
  v5 := Try.zeroValue5
  t9 := Try.underlying9
  a9 := Try.isAgg9
  z9 := Try.sizeOf9
  v9 := Try.zeroValue9
  t22 := Try.underlying23
  a22 := Try.isAgg23
  z22 := Try.sizeOf23
  v22 := Try.zeroValue23
  t25 := Try.underlying58
  a25 := Try.isAgg58
  z25 := Try.sizeOf58
  v25 := Try.zeroValue58
  t39 := Try.underlying84
  a39 := Try.isAgg84
  z39 := Try.sizeOf84
  v39 := Try.zeroValue84
  t45 := Try.underlying103
  a45 := Try.isAgg103
  z45 := Try.sizeOf103
  v45 := Try.zeroValue103
  t46 := Try.underlying104
  a46 := Try.isAgg104
  z46 := Try.sizeOf104
  v46 := Try.zeroValue104
  t50 := Try.underlying108
  a50 := Try.isAgg108
  z50 := Try.sizeOf108
  v50 := Try.zeroValue108
  t53 := Try.underlying111
  a53 := Try.isAgg111
  z53 := Try.sizeOf111
  v53 := Try.zeroValue111
  t55 := Try.underlying88
  a55 := Try.isAgg88
  z55 := Try.sizeOf88
  v55 := Try.zeroValue88
  t66 := Try.underlying120
  a66 := Try.isAgg120
  z66 := Try.sizeOf120
  v66 := Try.zeroValue120
  t70 := Try.underlying124
  a70 := Try.isAgg124
  z70 := Try.sizeOf124
  v70 := Try.zeroValue124
  t76 := Try.underlying128
  a76 := Try.isAgg128
  z76 := Try.sizeOf128
  v76 := Try.zeroValue128
  t77 := Try.underlying129
  a77 := Try.isAgg129
  z77 := Try.sizeOf129
  v77 := Try.zeroValue129
end Go.Proofs.Ytobokfclaooloaa.Batch
end
section
set_option linter.unusedSimpArgs false
set_option linter.unusedVariables false
set_option maxRecDepth 100000
namespace Go.Proofs.Ytobokfclaooloaa.Batch
open Go Go.Proofs Go.Lib Go.RowKit Go.Shelf
theorem isNaN_c (x : ByteArray) (w : World) : Calls Try.prog 40 #[.string x] w fun e w' => e = .returned (.bool false) ∧ w' = w := by
  go_enter Try.func40, Try.ntmps40
  go_wp2
  go_ret
  exact ⟨by simp, rfl⟩
def cmpB (x y : List UInt8) : Int := if Op.bytesLess x y = true then -1 else if Op.bytesLess y x = true then 1 else 0
theorem gtr_run {x y : List UInt8} {b : Bool} (h : Op.bytesLess x y = false) (h2 : Op.bytesLess y x = b) (he : b = false → x = y) (hn : b = true → x ≠ y) (w : World) :
    Sem.run Try.prog (binOp .gtr 9 (.string ⟨x.toArray⟩) (.string ⟨y.toArray⟩)) w = .ok (.bool b) w := by
  have hu := Try.underlying9
  have e : ((x == y) : Bool) = !b := by
    cases b with
    | true => simpa using hn rfl
    | false => simpa using he rfl
  simp [binOp, Op.stringOp, hu, ByteArray.toList_eq, h, h2, e]
set_option maxHeartbeats 1000000 in
theorem compare_c (x y : List UInt8) (w : World) : Calls Try.prog 19 #[.string ⟨x.toArray⟩, .string ⟨y.toArray⟩] w fun e w' => e = .returned (.int .i64 (cmpB x y)) ∧ w' = w := by
  unfold cmpB
  cases h1 : Op.bytesLess x y
  · have hg : ∀ w, Sem.run Try.prog (binOp .gtr 9 (.string ⟨x.toArray⟩) (.string ⟨y.toArray⟩)) w = .ok (.bool (Op.bytesLess y x)) w := fun w => by
      refine gtr_run h1 rfl (fun h2 => ?_) (fun h2 e => ?_) w
      · rcases less_total x y with h | h | h
        · rw [h1] at h; cases h
        · exact h
        · rw [h2] at h; cases h
      · rw [e, less_irrefl] at h2; cases h2
    cases h2 : Op.bytesLess y x
    all_goals
      rw [h2] at hg
      go_enter Try.func19, Try.ntmps19
      go_wp2_with (go_at_call 40; refine (isNaN_c _ _).mono ?_; rintro e w' ⟨rfl, hw⟩; rw [hw])
      go_ret
      exact ⟨by simp, rfl⟩
  · go_enter Try.func19, Try.ntmps19
    go_wp2_with (go_at_call 40; refine (isNaN_c _ _).mono ?_; rintro e w' ⟨rfl, hw⟩; rw [hw])
    go_ret
    exact ⟨by simp, rfl⟩
end Go.Proofs.Ytobokfclaooloaa.Batch
end
section
set_option linter.unusedSimpArgs false
set_option linter.unusedVariables false
set_option maxRecDepth 100000
namespace Go.Proofs.Ytobokfclaooloaa.Batch
open Go Go.Proofs Go.Lib Go.RowKit Go.Shelf Go.Sort
def encP (p : Pr) : List Value := [.string ⟨p.k.toArray⟩, .string ⟨p.v.toArray⟩]
def cfP (x y : Pr) : Int := cmpB x.k y.k
set_option maxHeartbeats 1000000 in
theorem closure_c (x y : Pr) (W : World) : Calls Try.prog 18 #[.agg #[.string ⟨x.k.toArray⟩, .string ⟨x.v.toArray⟩], .agg #[.string ⟨y.k.toArray⟩, .string ⟨y.v.toArray⟩]] W fun e w' => e = .returned (.int .i64 (cfP x y)) ∧ ∃ q os', w' = grow (W.drewN q) os' := by
  have hcon := fun W' => compare_c x.k y.k W'
  unfold cfP
  generalize cmpB x.k y.k = r at hcon ⊢
  go_enter Try.func18, Try.ntmps18
  go_wp2_with (go_at_call 19; refine (hcon _).mono ?_; rintro e w' ⟨rfl, rfl⟩)
  go_ret
  exact ⟨rfl, 0, _, by rw [alloc_eq_grow, alloc_eq_grow, grow_grow]; rfl⟩
theorem cmp_lays (blk off size : Nat) (w : World) : CmpLays Try.prog 18 #[] encP 2 cfP blk off size w :=
  fun _ _ _ _ x y => closure_c x y _
theorem cf_lt (x y : Pr) : ltOf cfP x y = Op.bytesLess x.k y.k := by
  unfold ltOf cfP cmpB
  cases h : Op.bytesLess x.k y.k <;> cases h2 : Op.bytesLess y.k x.k <;> simp
theorem cf_swo : SWO (ltOf cfP) where
  irrefl x := by rw [cf_lt, less_irrefl]
  trans x y z h1 h2 := by rw [cf_lt] at *; exact less_trans h1 h2
  ntrans x y z h1 h2 := by
    rw [cf_lt] at *
    cases h : Op.bytesLess x.k z.k with
    | false => rfl
    | true =>
      rcases less_total x.k y.k with h3 | h3 | h3
      · rw [h1] at h3; cases h3
      · rw [← h3, h] at h2; cases h2
      · rw [less_trans h3 h] at h2; cases h2
end Go.Proofs.Ytobokfclaooloaa.Batch
end
section
set_option linter.unusedSimpArgs false
set_option linter.unusedVariables false
set_option maxRecDepth 100000
namespace Go.Proofs.Ytobokfclaooloaa.Batch
open Go Go.Proofs Go.Lib Go.RowKit Go.Shelf Go.Sort Go.Av
def encA (p : Pr) : List AV := [.str p.k, .str p.v]
theorem encA_rel (p : Pr) (G : Ghost) (w : World) : VRels G w (encA p) (encP p) := by
  simp [encA, encP, VRels, VRel]
theorem rows_rel : ∀ (l : List Pr) (G : Ghost) (w : World), VRels G w (l.flatMap encA) (l.flatMap encP)
  | [], G, w => by simp [VRels]
  | p :: l, G, w => by
    have := rows_rel l G w
    simp only [List.flatMap_cons]
    exact (encA_rel p G w).append this
theorem rows_of : ∀ (l : List Pr) (G : Ghost) (w : World) (vs : List Value), VRels G w (l.flatMap encA) vs → vs = l.flatMap encP
  | [], G, w, vs, h => by simpa [VRels] using h
  | p :: l, G, w, vs, h => by
    simp only [List.flatMap_cons, encA, List.cons_append, List.nil_append, VRels, VRel] at h
    obtain ⟨v, us, rfl, rfl, v', us', rfl, rfl, h⟩ := h
    rw [rows_of l G w us' h]
    rfl
theorem rows_one (l : List Pr) : ∀ v ∈ l.flatMap encP, One v := by
  intro v hv
  obtain ⟨p, -, hp⟩ := List.mem_flatMap.1 hv
  simp only [encP, List.mem_cons, List.not_mem_nil, or_false] at hp
  rcases hp with rfl | rfl <;> exact ⟨(fun _ e => by cases e), (fun _ e => by cases e)⟩
theorem rows_len (l : List Pr) : (l.flatMap encA).length = l.length * 2 := by
  induction l with
  | nil => rfl
  | cons p l ih => simp only [List.flatMap_cons, List.length_append, ih, encA, List.length_cons, List.length_nil]; omega
theorem sort_a (l l' : List Pr) (h0 : 0 < l.length) (hl : l.length < 4611686018427387904) (hll : l'.length = l.length)
    (tot : ∀ x ∈ l, ∀ y ∈ l, x = y ∨ Op.bytesLess x.k y.k = true ∨ Op.bytesLess y.k x.k = true) (nd : l.Nodup) (hp : l'.Pairwise fun x y => Op.bytesLess x.k y.k = true) (hm : ∀ x, x ∈ l' ↔ x ∈ l)
    {id : Nat} {h : H} (ho : h.objs id = some (.cells (l.flatMap encA))) (htk : h.toks = []) :
    ACalls Try.prog 17 [.tsl 2 id 0 l.length none, .clo (.func 18) [] []] h (.tup []) { h with objs := upd h.objs id (some (.cells (l'.flatMap encA))) } := by
  have eg : ∀ args w, (callFunc 18 args).run Try.prog w = .ok (.enter 18 args) w := enters_of Try.func18 (by kernel_rfl) rfl
  have hlt : ltOf cfP = fun x y => Op.bytesLess x.k y.k := by funext x y; exact cf_lt x y
  refine sort_t (enc := encP) (encA := encA) (lt := ltOf cfP) (by omega) (fun _ => rfl) rows_len rows_rel rows_of rows_one l l' h0 hll (fun d' h1 h2 => ?_) (fun blk cap w hH hb => ?_) ho htk
  · refine sorted_one (lt := ltOf cfP) cf_swo.irrefl cf_swo.trans (fun x hx y hy => ?_) nd ?_ hm h1 h2
    · rw [cf_lt, cf_lt]; exact tot x hx y hy
    · rw [hlt]; exact hp
  · have := AnyQ.slices_SortFunc sort_lays 2 Try.isAgg42 Try.sizeOf42 encP (fun _ => rfl) (fun x v hv => by simp [encP] at hv; rcases hv with rfl | rfl <;> rfl) cfP cf_swo 18 #[] blk 0 cap l.toArray w eg (cmp_lays blk 0 l.toArray.size w) hH hb (by simpa using hl)
    exact this
end Go.Proofs.Ytobokfclaooloaa.Batch
end
section
set_option linter.unusedSimpArgs false
set_option linter.unusedVariables false
set_option maxRecDepth 100000
namespace Go.Av
section
variable {P : Program} {T : FT}
def runT0 (T : FT) (k f : Nat) (args : List AV) : Bool :=
  match allPure args, callF T noPrims (run T noPrims k) f args (H0 0 0) with
  | true, some (.tup [], _, _) => true
  | _, _ => false
theorem pcalls_runT0 (ok : T.Ok P) (nm : T.named P = true) {k f : Nat} {args : List AV} (h : runT0 T k f args = true) : PCalls P f args (.tup []) := by
  unfold runT0 at h
  split at h
  · rename_i h' en hp hc
    obtain ⟨⟨h1, h1', tc, ac⟩, -⟩ := callF_ok ok nm noPrims_ok (run_ok ok nm noPrims_ok k) hc
    have e : h1 = H0 0 0 := by
      refine H.ext (fun j => ?_) tc.n ?_ tc.m
      · cases hj : h1.objs j with
        | none => rfl
        | some o => have := tc.sub.1 j o hj; simp [H0, H.only, none'] at this
      · cases ht : h1.toks with
        | nil => rfl
        | cons t l => have := tc.sub.2 t (by rw [ht]; simp); simp [H0, H.only] at this
    subst e
    exact ac.pure0 (allPure_ok _ hp) (VSub.refl _) (isPure_ok _ rfl)
  · cases h
end
end Go.Av
namespace Go.Proofs.Ytobokfclaooloaa.Batch
open Go Go.Av Go.Proofs Go.Proofs.Ytobokfclaooloaa.C
theorem sort0_p : PCalls Try.prog 17 [.sl 2 [] .any, .clo (.func 18) [] []] (.tup []) :=
  pcalls_runT0 (k := 1000) tab_ok tab_named (by kernel_rfl)
theorem sortS0_p : PCalls Try.prog 24 [.sl 1 [] .any] (.tup []) :=
  pcalls_runT0 (k := 1000) tab_ok tab_named (by kernel_rfl)
end Go.Proofs.Ytobokfclaooloaa.Batch
end
section
set_option linter.unusedVariables false
set_option linter.unusedSimpArgs false
namespace Go.Av
section
variable {P : Program} {G : Ghost} {h : H} {w : World}
theorem elems_rows {sz : Nat} : ∀ (rows : List (List AV)) (vs : List Value), (∀ x ∈ rows, x.length = sz) → VRels G w rows.flatten vs → VElems G w sz (rows.map .agg) vs
  | [], vs, _, h => by simpa [VRels, VElems] using h
  | x :: rows, vs, hl, h => by
    have hx := hl x (by simp)
    have h1 := VRels.take sz h
    have h2 := VRels.drop sz h
    rw [List.flatten_cons, List.take_left' hx] at h1
    rw [List.flatten_cons, List.drop_left' hx] at h2
    have hn : (vs.take sz).length = sz := by have := VRels.length h1; omega
    simp only [List.map_cons, VElems]
    refine ⟨.agg (vs.take sz).toArray, vs.drop sz, by simp [Value.cells], by simpa [Value.cells] using hn, ?_, elems_rows rows _ (fun y hy => hl y (by simp [hy])) h2⟩
    simp only [VRel]
    exact ⟨_, rfl, h1⟩
theorem flatten_len {sz : Nat} : ∀ (rows : List (List AV)), (∀ x ∈ rows, x.length = sz) → rows.flatten.length = rows.length * sz
  | [], _ => by simp
  | x :: rows, h => by
    have := flatten_len rows fun y hy => h y (by simp [hy])
    have hx := h x (by simp)
    simp [this, hx, Nat.add_mul]; omega
open Classical in
theorem frz_tslK (R : RepH G h w) {d : Nat → Bool} {sz id : Nat} {rows : List (List AV)} {c : Option Nat} {v : Value} (hr : ∀ x ∈ rows, x.length = sz) (ho : h.objs id = some (.cells rows.flatten)) (hd : d id = true) (r : VRel G w (.tsl sz id 0 rows.length c) v) :
    VRel (G.frz h d) w (.sl sz (rows.map .agg) .any) v := by
  simp only [VRel] at r
  obtain ⟨-, ⟨C, cc, Tt, fr, rfl, ⟨h2, -⟩, -⟩ | ⟨h0, ⟨a, rfl⟩, -⟩⟩ := r
  · obtain ⟨-, r2, r3, vs, rest, T, fr', y1, y2, y3, y4⟩ := R.obj id _ ho
    have hlen := VRels.length y2
    have hfl := flatten_len rows hr
    have hx : VRels (G.frz h d) w rows.flatten vs := VRels.mono R (frz_trans d) _ _ y2
    unfold VRel
    refine .inr ⟨G.ι id, 0, C, vs, by simp, by simpa using h2, by simp; omega, elems_rows rows vs hr hx, ?_, trivial⟩
    intro i v hi
    have hi' := (List.getElem?_eq_some_iff.1 hi).1
    refine ⟨?_, y4 v (List.mem_of_getElem? hi), ?_, ?_⟩
    · unfold World.cell?
      simp only [y1, Nat.zero_add]
      simp [List.getElem?_append_left hi', hi]
    · exact fun x => x.2 ⟨id, _, hd, ho, rfl⟩
    · intro e he'
      have : h.DO G d (G.ι id) := ⟨id, _, hd, ho, rfl⟩
      simp [Ghost.frz, this] at he'
  · have : rows = [] := List.length_eq_zero_iff.1 h0
    subst this
    unfold VRel
    exact .inl ⟨by simp, ⟨_, rfl⟩, trivial⟩
def UpK (h : H) (q r : AV) : Prop := VSub q r ∨ ∃ (rows : List (List AV)) (id sz : Nat) (rest : List AV), q = .tup (.tsl sz id 0 rows.length none :: rest) ∧ (∀ x ∈ rows, x.length = sz) ∧ h.objs id = some (.cells rows.flatten) ∧ VSub (.tup (.sl sz (rows.map .agg) .any :: rest)) r
theorem ACalls.upK {f : FuncId} {args : List AV} {h h' : H} {q r : AV} (hc : ACalls P f args h q h') (u : UpK h' q r) : ACalls P f args h r (h'.drop fun _ => true) := by
  intro G w vs hv R F
  refine (hc G w vs hv R F).mono ?_
  rintro e w' ⟨v, G', rfl, T, R', V⟩
  refine ⟨v, G'.frz h' fun _ => true, rfl, T.trans R R' (frz_trans _), frz_rep R' _, ?_⟩
  rcases u with hs | ⟨rows, id, sz, rest, rfl, hr, ho, hs⟩
  · exact hs _ _ _ (VRel.mono R' (frz_trans _) _ _ V)
  · refine hs _ _ _ ?_
    simp only [VRel, VRels] at V ⊢
    obtain ⟨vs', e, v1, us, rfl, V1, V2⟩ := V
    exact ⟨_, e, v1, us, rfl, by simpa only [VRel] using frz_tslK R' hr ho rfl (by simpa only [VRel] using V1), VRels.mono R' (frz_trans _) _ _ V2⟩
theorem FnIs.pcallsK {f : FuncId} {N : Nat} {ac : AC} {args : List AV} {ds : List RV} {r : AV} (hF : FnIs P f N ac ds) (hl : args.length ≤ N) (ha : allPure args = true) (hp : isPure r = true) (hw : Wp P N ac ⟨initT args, H0 0 0⟩ fun e s' => isEnd e ∧ ∃ q, resOf ds s'.t s'.h = some q ∧ UpK s'.h q r) : PCalls P f args r := by
  obtain ⟨r', h', hcall, hs⟩ := hF.acalls (Q := fun r' h' => UpK h' r' r) hl hw
  exact (hcall.upK hs).pure0 (allPure_ok _ ha) (VSub.refl _) (isPure_ok _ hp)
end
end Go.Av
end
