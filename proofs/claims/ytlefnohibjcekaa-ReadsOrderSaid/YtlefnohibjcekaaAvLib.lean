/- Go's library: slices.Clone. -/
import Derived.Test.YtlefnohibjcekaaAvRun
set_option linter.unusedSimpArgs false
set_option linter.unusedVariables false
set_option maxRecDepth 10000
namespace Go.Av
section
variable {P : Program}

def cloneC (sz bytes : Nat) : AC := (.seq (.reg [⟨some 2, none, .mov (.c (.sl sz [] (.exact 0)))⟩] none)
 (.seq (.seq (.reg [⟨some 3, none, .mov (.t 0)⟩, ⟨some 4, none, .eqN false (.t 3)⟩] none)
 (.cond (.t 4) (.seq (.reg [⟨some 2, none, .mov (.c (.sl sz [] (.exact 0)))⟩] none)
 .ret) .skip))
 (.seq (.reg [⟨some 5, none, .buildSl sz []⟩, ⟨some 6, none, .mov (.t 0)⟩, ⟨some 7, none, .app false sz bytes (.t 5) (.t 6)⟩, ⟨some 2, none, .mov (.t 7)⟩] none)
 .ret)))

theorem VSub.own {sz : Nat} {xs : List AV} {t : Nat} : VSub (.sl sz xs (.own t)) (.sl sz xs .any) := VSub.cap

/-- an empty slice, known to the sign -/
theorem VSub.sc_empty {sz : Nat} {a : Option Addr} {C : Nat} (h : C = 0 ∨ ∃ B off, a = some ⟨B, off, none⟩) : VSub (.sc (.slice a 0 C)) (.sl sz [] .any) := by
  intro G w v hv
  simp only [VRel] at hv
  subst hv
  unfold VRel
  rcases h with rfl | ⟨B, off, rfl⟩
  · exact .inl ⟨rfl, ⟨a, rfl⟩, trivial⟩
  · exact .inr ⟨B, off, C, [], rfl, Nat.zero_le _, by simp, by simp [VElems], Imm.nil, trivial⟩

theorem ACalls.split_empty {f : FuncId} {sz : Nat} {c : Cap} {rest : List AV} {h h' : H} {r : AV} (hc : ∀ a C, (C = 0 ∨ ∃ B off, a = some ⟨B, off, none⟩) → ACalls P f (.sc (.slice a 0 C) :: rest) h r h') : ACalls P f (.sl sz [] c :: rest) h r h' := by
  intro G w vs hv R F
  simp only [VRels] at hv
  obtain ⟨v, us, rfl, hv, hr⟩ := hv
  simp only [VRel] at hv
  rcases hv with ⟨-, ⟨a, rfl⟩, -⟩ | ⟨B, off, C, ws, rfl, -⟩
  · exact hc a 0 (.inl rfl) G w _ (.cons (by simp [VRel]) hr) R F
  · exact hc _ C (.inr ⟨B, off, rfl⟩) G w _ (.cons (by simp [VRel]) hr) R F

theorem clone_gen {f : FuncId} {sz bytes : Nat} (hF : FnIs P f 8 (cloneC sz bytes) [.tmp 2]) (xs : List AV) (hp : allPure xs = true) (hb : xs.length * bytes ≤ 140737488355328) (hl : xs.length < 4611686018427387904) : PCalls P f [.sl sz xs .any] (.sl sz xs .any) := by
  cases xs with
  | nil =>
    intro n m
    refine ACalls.split_empty fun a C hC => ?_
    have : PCalls P f [.sc (.slice a 0 C)] (.sl sz [] .any) := by
      refine hF.pcalls (by simp) (allPure_ok _ rfl) (isPure_ok _ rfl) fun n m => ?_
      unfold cloneC
      refine Wp.seqReg (by simp only [go_sem, reduceIte, Nat.reduceEqDiff, Nat.reduceAdd, Bool.false_eq_true, Bool.true_beq, Bool.false_beq, Bool.not_true, Bool.not_false]; exact rfl) (by trivial) ?_
      refine Wp.seq ?_
      refine Wp.seqReg (by simp only [go_sem, reduceIte, Nat.reduceEqDiff, Nat.reduceAdd, Bool.false_eq_true, Bool.true_beq, Bool.false_beq, Bool.not_true, Bool.not_false]; exact rfl) (by trivial) ?_
      cases ha : a.isNone with
      | true =>
        refine Wp.cond_true (by simp only [go_sem, reduceIte, Nat.reduceEqDiff, Nat.reduceAdd, Bool.false_eq_true, Bool.true_beq, Bool.false_beq, Bool.not_true, Bool.not_false, ha]) ?_
        refine Wp.seqReg (by simp only [go_sem, reduceIte, Nat.reduceEqDiff, Nat.reduceAdd, Bool.false_eq_true, Bool.true_beq, Bool.false_beq, Bool.not_true, Bool.not_false]; exact rfl) (by trivial) ?_
        refine Wp.ret ⟨trivial, _, rfl, ?_⟩
        simp only [go_sem, reduceIte, Nat.reduceEqDiff, Nat.reduceAdd, Bool.false_eq_true, Bool.true_beq, Bool.false_beq, Bool.not_true, Bool.not_false]
        exact VSub.cap
      | false =>
        refine Wp.cond_false (by simp only [go_sem, reduceIte, Nat.reduceEqDiff, Nat.reduceAdd, Bool.false_eq_true, Bool.true_beq, Bool.false_beq, Bool.not_true, Bool.not_false, ha]) ?_
        refine Wp.skip ?_
        refine Wp.le (s' := ⟨tm [(0, .sl sz [] .any)], _⟩) (StLe.tm ⟨VSub.sc_empty hC, trivial⟩) ?_
        refine Wp.seqReg (by simp only [go_sem, reduceIte, Nat.reduceEqDiff, Nat.reduceAdd, Bool.false_eq_true, Bool.true_beq, Bool.false_beq, Bool.not_true, Bool.not_false, Nat.zero_mul, Nat.zero_le, and_self, or_true, if_true, Nat.reduceMul, Nat.reduceLT, Nat.reduceLeDiff, decide_true]; exact rfl) (by trivial) ?_
        refine Wp.ret ⟨trivial, _, rfl, ?_⟩
        simp only [go_sem, reduceIte, Nat.reduceEqDiff, Nat.reduceAdd, Bool.false_eq_true, Bool.true_beq, Bool.false_beq, Bool.not_true, Bool.not_false]
        exact VSub.cap
    exact this n m
  | cons x xs =>
    refine hF.pcalls (by simp) (allPure_ok _ (by simp [allPure, isPure, capPure] at hp ⊢; exact hp)) (isPure_ok _ (by simp [allPure, isPure, capPure] at hp ⊢; exact hp)) fun n m => ?_
    unfold cloneC
    refine Wp.seqReg (by simp only [go_sem, reduceIte, Nat.reduceEqDiff, Nat.reduceAdd, Bool.false_eq_true, Bool.true_beq, Bool.false_beq, Bool.not_true, Bool.not_false]; exact rfl) (by trivial) ?_
    refine Wp.seq ?_
    refine Wp.seqReg (by simp only [go_sem, reduceIte, Nat.reduceEqDiff, Nat.reduceAdd, Bool.false_eq_true, Bool.true_beq, Bool.false_beq, Bool.not_true, Bool.not_false]; exact rfl) (by trivial) ?_
    refine Wp.cond_false (by simp only [go_sem, reduceIte, Nat.reduceEqDiff, Nat.reduceAdd, Bool.false_eq_true, Bool.true_beq, Bool.false_beq, Bool.not_true, Bool.not_false]) ?_
    refine Wp.skip ?_
    simp only [List.length_cons] at hb hl
    have h1 : (0 + (xs.length + 1)) * bytes ≤ 140737488355328 := by rw [Nat.zero_add]; exact hb
    have h2 : 0 + (xs.length + 1) < 4611686018427387904 := by omega
    refine Wp.seqReg (by simp only [go_sem, reduceIte, Nat.reduceEqDiff, Nat.reduceAdd, Bool.false_eq_true, Bool.true_beq, Bool.false_beq, Bool.not_true, Bool.not_false, Nat.zero_mul, Nat.zero_le, and_self, or_true, true_or, if_true, Nat.reduceMul, Nat.reduceLT, Nat.reduceLeDiff, decide_true, hb, hl]; exact rfl) (by trivial) ?_
    refine Wp.ret ⟨trivial, _, rfl, ?_⟩
    simp only [go_sem, reduceIte, Nat.reduceEqDiff, Nat.reduceAdd, Bool.false_eq_true, Bool.true_beq, Bool.false_beq, Bool.not_true, Bool.not_false]
    exact VSub.cap

/-- objects that say less, one by one -/
def OLe (f f' : Nat → Option Obj) : Prop := ∀ j o', f' j = some o' → ∃ o, f j = some o ∧ OSub o o'
theorem OLe.refl (f : Nat → Option Obj) : OLe f f := fun j o h => ⟨o, h, OSub.refl o⟩
theorem OLe.none (f : Nat → Option Obj) : OLe f none' := fun j o h => by cases h
theorem OLe.upd {f f' : Nat → Option Obj} {i : Nat} {o o' : Obj} (h : OLe f f') (hs : OSub o o') : OLe (upd f i (some o)) (upd f' i (some o')) := by
  intro j p hp
  simp only [Go.Av.upd] at hp ⊢
  split at hp
  · rename_i e; rw [if_pos e]; cases hp; exact ⟨o, rfl, hs⟩
  · rename_i e; rw [if_neg e]; exact h j p hp
theorem StLe.of {t t' : Tm} {f f' : Nat → Option Obj} {n n' m m' : Nat} {k k' : List Nat} (ht : ∀ i, VSub (t i) (t' i)) (ho : OLe f f') (hk : ∀ x ∈ k', x ∈ k) (hn : n ≤ n') (hm : m ≤ m') : StLe ⟨t, ⟨f, n, k, m⟩⟩ ⟨t', ⟨f', n', k', m'⟩⟩ :=
  StLe.mk' ht ⟨ho, hk⟩ hn hm
theorem VSub.own_of {sz : Nat} {xs : List AV} {k t : Nat} (h : k = xs.length) : VSub (.sl sz xs (.exact k)) (.sl sz xs (.own t)) := by
  intro G w v hv
  unfold VRel at hv ⊢
  rcases hv with ⟨a, b, -⟩ | ⟨B, off, C, vs, h1, h2, h3, h4, h5, h6⟩
  · exact .inl ⟨a, b, trivial⟩
  · exact .inr ⟨B, off, C, vs, h1, h2, h3, h4, h5, .inl (by simp only [CapOk] at h6; omega)⟩

/-- ways that meet, where the code behind them has been split off already -/
theorem Wp.meet {N : Nat} {c y : AC} {s : St} {Q Q2 : AExit → St → Prop} (S : St) (h1 : Wp P N c s (AExit.andThen (fun s' => StLe s' S) Q)) (h2 : Wp P N y S Q2) : Wp P N c s (AExit.andThen (fun s' => Wp P N y s' Q2) Q) := by
  refine Wp.mono h1 ?_
  intro e s' h
  cases e with
  | normal => exact Wp.le h h2
  | exit id => exact h
  | goto l => exact h
  | ret => exact h
theorem VSubs.own3 {sz : Nat} {x : AV} {xs ys zs : List AV} {a b c ta tb tc : Nat} (h1 : a = xs.length) (h2 : b = ys.length) (h3 : c = zs.length) : VSubs [x, .sl sz xs (.exact a), .sl sz ys (.exact b), .sl sz zs (.exact c)] [x, .sl sz xs (.own ta), .sl sz ys (.own tb), .sl sz zs (.own tc)] :=
  VSubs.cons (VSub.refl _) (VSubs.cons (VSub.own_of h1) (VSubs.cons (VSub.own_of h2) (VSubs.cons (VSub.own_of h3) VSubs.nil)))

theorem OLe.put {f f' : Nat → Option Obj} {i : Nat} {o o' : Obj} (h : OLe f f') (hf : f i = some o) (hs : OSub o o') : OLe f (Go.Av.upd f' i (some o')) := by
  intro j p hp
  simp only [Go.Av.upd] at hp
  split at hp
  · rename_i e; subst e; cases hp; exact ⟨o, hf, hs⟩
  · exact h j p hp
end
end Go.Av
