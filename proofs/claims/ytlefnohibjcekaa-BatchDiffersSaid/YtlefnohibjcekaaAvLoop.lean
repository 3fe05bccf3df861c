/- Loops whose rounds make objects of their own, with a right to append; scopes through which the run goes straight. -/
import Derived.Test.YtlefnohibjcekaaAvTok
import Derived.Test.YtlefnohibjcekaaAvLib
import Derived.Test.YtlefnohibjcekaaAvFrz
set_option linter.unusedVariables false
set_option linter.unusedSimpArgs false
namespace Go.Av

variable {P : Program} {N : Nat} {s : St} {Q : AExit → St → Prop}

/-- a scope that no goto jumps in -/
def AExit.noGoto (Q : AExit → St → Prop) : AExit → St → Prop
  | .goto _, _ => False
  | e, s => Q e s

theorem Wp.straight {c : AC} (h : Wp P N c s (AExit.noGoto Q)) : Wp P N (.scope c) s Q := by
  refine Wp.scope (WpS.step (Wp.mono h ?_))
  intro e s' h
  cases e with
  | normal => exact h
  | exit id => exact h
  | goto l => exact h.elim
  | ret => exact h

theorem StLe.tmN {t : Tm} {f f' : Nat → Option Obj} {n n' m : Nat} {k : List Nat} {l : List (Nat × AV)} (hn : n ≤ n') (ho : OLe f f') (h : AllSub t l) : StLe ⟨t, ⟨f, n, k, m⟩⟩ ⟨Go.Av.tm l, ⟨f', n', k, m⟩⟩ :=
  StLe.trans (StLe.tm h) (StLe.of (fun i => VSub.refl _) ho (fun x hx => hx) hn (Nat.le_refl _))

/-- a loop whose rounds may make objects -/
theorem Wp.loopN {β : Type} (L : List Nat) {K : List (Nat × AV)} {c : AC} {h : H} {t : Tm} (hK : (L.map fun i => (i, t i)) = K) (ch : β → List (Nat × AV)) (I : β → Prop) (μ : β → Nat) (b0 : β) (h0 : I b0) (hs : AllSub t (ch b0))
    (round : ∀ b n, h.n ≤ n → I b → Wp P N c ⟨tm (K ++ ch b), { h with n := n }⟩ (AExit.andThen (fun s' => ∃ b' n', h.n ≤ n' ∧ I b' ∧ μ b' < μ b ∧ StLe s' ⟨tm (K ++ ch b'), { h with n := n' }⟩) Q)) : Wp P N (.loop c) ⟨t, h⟩ Q := by
  refine Wp.loopH (β := β × Nat) L hK (fun j => ch j.1) (fun j => { h with n := j.2 }) (fun j => h.n ≤ j.2 ∧ I j.1) (fun j => μ j.1) (b0, h.n) ⟨Nat.le_refl _, h0⟩ rfl hs ?_
  rintro ⟨b, n⟩ ⟨hn, hb⟩
  refine Wp.mono (round b n hn hb) ?_
  intro e s' h
  cases e with
  | normal => obtain ⟨b', n', h1, h2, h3, h4⟩ := h; exact ⟨(b', n'), ⟨h1, h2⟩, h3, h4⟩
  | exit id => exact h
  | goto l => exact h
  | ret => exact h

theorem Wp.loopTokN {β : Type} (L : List Nat) {K : List (Nat × AV)} {c : AC} {h : H} {t : Tm} (hK : (L.map fun i => (i, t i)) = K) (ch : β → Nat → List (Nat × AV)) (I : β → Prop) (μ : β → Nat) (b0 : β) (tk : Nat) (h0 : I b0) (hh : h.toks = [tk]) (hs : AllSub t (ch b0 tk))
    (round : ∀ b tk n m, h.n ≤ n → I b → Wp P N c ⟨tm (K ++ ch b tk), ⟨h.objs, n, [tk], m⟩⟩ (AExit.andThen (fun s' => ∃ b' tk' n' m', h.n ≤ n' ∧ I b' ∧ μ b' < μ b ∧ StLe s' ⟨tm (K ++ ch b' tk'), ⟨h.objs, n', [tk'], m'⟩⟩) Q)) : Wp P N (.loop c) ⟨t, h⟩ Q := by
  refine Wp.loopH (β := β × Nat × Nat × Nat) L hK (fun j => ch j.1 j.2.1) (fun j => ⟨h.objs, j.2.2.1, [j.2.1], j.2.2.2⟩) (fun j => h.n ≤ j.2.2.1 ∧ I j.1) (fun j => μ j.1) (b0, tk, h.n, h.m) ⟨Nat.le_refl _, h0⟩ (by cases h; simp only at hh; subst hh; rfl) hs ?_
  rintro ⟨b, tk, n, m⟩ ⟨hn, hb⟩
  refine Wp.mono (round b tk n m hn hb) ?_
  intro e s' h
  cases e with
  | normal => obtain ⟨b', tk', n', m', h1, h2, h3, h4⟩ := h; exact ⟨(b', tk', n', m'), ⟨h1, h2⟩, h3, h4⟩
  | exit id => exact h
  | goto l => exact h
  | ret => exact h
end Go.Av
