/- Loops whose rounds make objects of their own, with a right to append; scopes through which the run goes straight. -/
import Derived.Test.YtlefnohibjcekaaAvTok
import Derived.Test.YtlefnohibjcekaaAvLib
import Derived.Test.YtlefnohibjcekaaAvFrz
set_option linter.unusedVariables false
set_option linter.unusedSimpArgs false
namespace Go.Av

variable {P : Program} {N : Nat} {s : St} {Q : AExit → St → Prop}

/-- a scope that no goto jumps in -/
def AExit.noGoto (Q : AExit → St → Prop) : AExit → St → Prop
  | .goto _, _ => False
  | e, s => Q e s

theorem Wp.straight {c : AC} (h : Wp P N c s (AExit.noGoto Q)) : Wp P N (.scope c) s Q := by
  refine Wp.scope (WpS.step (Wp.mono h ?_))
  intro e s' h
  cases e with
  | normal => exact h
  | exit id => exact h
  | goto l => exact h.elim
  | ret => exact h

theorem StLe.tmN {t : Tm} {f f' : Nat → Option Obj} {n n' m : Nat} {k : List Nat} {l : List (Nat × AV)} (hn : n ≤ n') (ho : OLe f f') (h : AllSub t l) : StLe ⟨t, ⟨f, n, k, m⟩⟩ ⟨Go.Av.tm l, ⟨f', n', k, m⟩⟩ :=
  StLe.trans (StLe.tm h) (StLe.of (fun i => VSub.refl _) ho (fun x hx => hx) hn (Nat.le_refl _))

theorem OLe.skip {f : Nat → Option Obj} {i : Nat} {o : Option Obj} (h : f i = Option.none) : OLe (Go.Av.upd f i o) f := by
  intro j p hp
  refine ⟨p, ?_, OSub.refl p⟩
  simp only [Go.Av.upd]
  split
  · rename_i e; subst e; rw [h] at hp; cases hp
  · exact hp

theorem OLe.at {g : Nat → Option Obj} {k : Nat} {A : Obj} (h : g k = some A) : OLe g (Go.Av.upd none' k (some A)) := by
  intro j p hp
  simp only [Go.Av.upd, none'] at hp
  split at hp
  · rename_i e; subst e; cases hp; exact ⟨_, h, OSub.refl _⟩
  · cases hp

/-- a loop whose rounds may make objects -/
theorem Wp.loopN {β : Type} (L : List Nat) {K : List (Nat × AV)} {c : AC} {h : H} {t : Tm} (hK : (L.map fun i => (i, t i)) = K) (ch : β → List (Nat × AV)) (I : β → Prop) (μ : β → Nat) (b0 : β) (h0 : I b0) (hs : AllSub t (ch b0))
    (round : ∀ b n, h.n ≤ n → I b → Wp P N c ⟨tm (K ++ ch b), { h with n := n }⟩ (AExit.andThen (fun s' => ∃ b' n', h.n ≤ n' ∧ I b' ∧ μ b' < μ b ∧ StLe s' ⟨tm (K ++ ch b'), { h with n := n' }⟩) Q)) : Wp P N (.loop c) ⟨t, h⟩ Q := by
  refine Wp.loopH (β := β × Nat) L hK (fun j => ch j.1) (fun j => { h with n := j.2 }) (fun j => h.n ≤ j.2 ∧ I j.1) (fun j => μ j.1) (b0, h.n) ⟨Nat.le_refl _, h0⟩ rfl hs ?_
  rintro ⟨b, n⟩ ⟨hn, hb⟩
  refine Wp.mono (round b n hn hb) ?_
  intro e s' h
  cases e with
  | normal => obtain ⟨b', n', h1, h2, h3, h4⟩ := h; exact ⟨(b', n'), ⟨h1, h2⟩, h3, h4⟩
  | exit id => exact h
  | goto l => exact h
  | ret => exact h

theorem Wp.loopTokN {β : Type} (L : List Nat) {K : List (Nat × AV)} {c : AC} {h : H} {t : Tm} (hK : (L.map fun i => (i, t i)) = K) (ch : β → Nat → List (Nat × AV)) (I : β → Prop) (μ : β → Nat) (b0 : β) (tk : Nat) (h0 : I b0) (hh : h.toks = [tk]) (hs : AllSub t (ch b0 tk))
    (round : ∀ b tk n m, h.n ≤ n → I b → Wp P N c ⟨tm (K ++ ch b tk), ⟨h.objs, n, [tk], m⟩⟩ (AExit.andThen (fun s' => ∃ b' tk' n' m', h.n ≤ n' ∧ I b' ∧ μ b' < μ b ∧ StLe s' ⟨tm (K ++ ch b' tk'), ⟨h.objs, n', [tk'], m'⟩⟩) Q)) : Wp P N (.loop c) ⟨t, h⟩ Q := by
  refine Wp.loopH (β := β × Nat × Nat × Nat) L hK (fun j => ch j.1 j.2.1) (fun j => ⟨h.objs, j.2.2.1, [j.2.1], j.2.2.2⟩) (fun j => h.n ≤ j.2.2.1 ∧ I j.1) (fun j => μ j.1) (b0, tk, h.n, h.m) ⟨Nat.le_refl _, h0⟩ (by cases h; simp only at hh; subst hh; rfl) hs ?_
  rintro ⟨b, tk, n, m⟩ ⟨hn, hb⟩
  refine Wp.mono (round b tk n m hn hb) ?_
  intro e s' h
  cases e with
  | normal => obtain ⟨b', tk', n', m', h1, h2, h3, h4⟩ := h; exact ⟨(b', tk', n', m'), ⟨h1, h2⟩, h3, h4⟩
  | exit id => exact h
  | goto l => exact h
  | ret => exact h

/-- a ghost that knows these objects alone -/
def cutG (G : Ghost) (objs : Nat → Option Obj) : Ghost := { G with dom := fun id => (objs id).isSome, tdom := fun _ => False }

/-- a call that leaves these objects as they were, whatever else it makes -/
theorem ACalls.see {f : FuncId} {args : List AV} {objs : Nat → Option Obj} {k : Nat} {r r' : AV} {h' : H} (hb : ∀ id, (objs id).isSome → id < k) (hpu : ∀ id o, objs id = some o → ∃ cs, o = .cells cs ∧ allPure cs = true)
    (ha : ∀ G w vs, VRels G w args vs → VRels (cutG G objs) w args vs) (hc : ACalls P f args (.only objs [] k 0) r h') (hk : ∀ id o, objs id = some o → h'.objs id = some o) (hs : VSub r r') (hp : VPure r') : RCalls P f args objs r' := by
  intro n m G w vs hv R F
  have hor : ∀ {G1 G2 : Ghost} {w o x}, G2.own = G1.own → G2.lim = G1.lim → (∃ cs, o = .cells cs ∧ allPure cs = true) → ORel G1 w o x → ORel G2 w o x := by
    rintro G1 G2 w o x e1 e2 ⟨cs, rfl, hcs⟩ ⟨ws, rest, T, fr, q1, q2, q3, q4⟩
    exact ⟨ws, rest, T, fr, q1, allPure_ok _ hcs G1 G2 w ws e1 e2 q2, q3, q4⟩
  have R0 : RepH (cutG G objs) (.only objs [] k 0) w := by
    refine ⟨fun id o ho => ?_, fun id id' o o' h1 h2 e => R.inj id id' o o' h1 h2 e, fun t ht => ?_, fun t ht => ?_⟩
    · obtain ⟨-, q2, q3, q4⟩ := R.obj id o ho
      have ho' : objs id = some o := ho
      exact ⟨by simp [cutG, ho'], q2, q3, (hor (G1 := G) (G2 := cutG G objs) rfl rfl (hpu id o ho) q4 : ORel (cutG G objs) w o w.heap[G.ι id]?)⟩
    · simp [H.only] at ht
    · simp [H.only] at ht
  refine (hc (cutG G objs) w vs (ha G w vs hv) R0 ⟨fun id h1 h2 h3 => ?_, fun t _ _ h => h⟩).mono ?_
  · have := hb id h3
    simp only [H.only] at h1; omega
  rintro e w' ⟨v, G', rfl, T, R', V⟩
  have hT : ∀ {G : Ghost} {n m} B, ¬ (H.only objs [] n m).T G B := fun B ⟨t, ht, _⟩ => by simp [H.only] at ht
  have hO : ∀ {n m} {B}, (H.only objs [] n m).O (cutG G objs) B → (H.only objs [] n m).O G B := fun ⟨id, o, q1, q2⟩ => ⟨id, o, q1, q2⟩
  have hO' : ∀ {n m n' m'} {B}, (H.only objs [] n m).O (cutG G objs) B → (H.only objs [] n' m').O G B := fun ⟨id, o, q1, q2⟩ => ⟨id, o, q1, q2⟩
  have hι : ∀ id o, objs id = some o → G'.ι id = G.ι id := fun id o ho => T.ι_eq id (by simp [cutG, ho])
  refine ⟨v, { G' with dom := G.dom, ι := G.ι, tdom := G.tdom, τ := G.τ }, rfl, ?_, ?_, hp G' _ w' v rfl rfl (hs G' w' v V)⟩
  · constructor
    · exact fun _ x => x
    · exact fun _ => .inl
    · exact fun _ _ => rfl
    · exact fun _ x => x
    · exact fun _ => .inl
    · exact fun _ _ => rfl
    · exact Nat.le_refl _
    · exact Nat.le_refl _
    · exact T.size_le
    · exact T.os
    · exact T.output
    · exact T.form
    · exact fun B hB h1 _ => T.keep B hB (fun h => h1 (hO' h)) (hT B)
    · exact fun B hB h1 => T.own_keep B hB (fun h => h1 (hO' h))
    · exact fun B hB h1 _ => T.lim_keep B hB (fun h => h1 (hO' h)) (hT B)
    · exact fun B hB x => absurd x (hT B)
    · exact fun B _ x => x
    · exact fun B _ x => absurd x (hT B)
    · exact fun j o x => .inl ⟨o, x⟩
    · exact fun t x => by simp [H.only] at x
  · refine ⟨fun id o ho => ?_, fun id id' o o' h1 h2 e => R.inj id id' o o' h1 h2 e, fun t ht => by simp [H.only] at ht, fun t ht => by simp [H.only] at ht⟩
    obtain ⟨q1, -, q3, -⟩ := R.obj id o ho
    obtain ⟨-, p2, p3, p4⟩ := R'.obj id o (hk id o ho)
    have e := hι id o ho
    rw [e] at p2 p3 p4
    exact ⟨q1, p2, p3, (hor (G1 := G') (G2 := { G' with dom := G.dom, ι := G.ι, tdom := G.tdom, τ := G.τ }) rfl rfl (hpu id o ho) p4 : ORel _ w' o w'.heap[G.ι id]?)⟩

theorem FnIs.rcalls0 {f : FuncId} {ac : AC} {args : List AV} {objs : Nat → Option Obj} {ds : List RV} {r : AV} (hF : FnIs P f N ac ds) (hl : args.length ≤ N) (k : Nat) (hb : ∀ id, (objs id).isSome → id < k) (hpu : ∀ id o, objs id = some o → ∃ cs, o = .cells cs ∧ allPure cs = true)
    (ha : ∀ G w vs, VRels G w args vs → VRels (cutG G objs) w args vs) (hp : isPure r = true)
    (hw : Wp P N ac ⟨initT args, .only objs [] k 0⟩ fun e s' => isEnd e ∧ ∃ q, resOf ds s'.t s'.h = some q ∧ VSub q r ∧ ∀ id o, objs id = some o → s'.h.objs id = some o) : RCalls P f args objs r := by
  obtain ⟨r', h', hcall, hs, hk⟩ := hF.acalls (Q := fun r' h' => VSub r' r ∧ ∀ id o, objs id = some o → h'.objs id = some o) hl hw
  exact hcall.see hb hpu ha hk hs (isPure_ok _ hp)
end Go.Av
