/- Calls that take the right to append behind a row, and hand one back. -/
import Derived.Test.YtlefnohibjcekaaAvUse
set_option linter.unusedVariables false
set_option linter.unusedSimpArgs false
namespace Go.Av
section
variable {P : Program} {N : Nat}

theorem touch_retok' (h : H) {tk tk' m' : Nat} (htk : tk ∈ h.toks) (hm : h.m ≤ m') : Touch h (.only none' [tk] h.n h.m) (.only none' [tk'] h.n m') { h with toks := tk' :: h.toks.filter (· ≠ tk), m := m' } ⟨[], [], [tk, tk']⟩ where
  sub := ⟨fun j o x => by simp [H.only, none'] at x, fun t x => by simp only [H.only, List.mem_singleton] at x; subst x; exact htk⟩
  n := rfl
  m := rfl
  eq := H.ext (fun j => by simp [H.patch, H.only, none']; omega) rfl (by
    simp only [H.patch, H.only, List.singleton_append, List.cons.injEq, true_and]
    apply List.filter_congr
    intro y _
    simp) rfl
  rd j x := by simp [H.only, none'] at x
  wr id a b := by simp only [H.only] at a b; omega
  chg j x hj := by simp [H.only, none'] at x
  tk t x := by simp only [H.only, List.mem_singleton] at x; subst x; simp
  tn t x := by simp only [H.only, List.mem_singleton] at x; subst x; simp
  le := Nat.le_refl _
  lem := hm

/-- called with the right `t` it leaves the right `t'` -/
def TCalls (P : Program) (f : FuncId) (args : Nat → List AV) (r : Nat → AV) : Prop := ∀ t n m, ∃ t' m', m ≤ m' ∧ ACalls P f (args t) (.only none' [t] n m) (r t') (.only none' [t'] n m')

theorem WpItems.tcall {dst : Option Nat} {g : Option (Nat × Bool)} {f : FuncId} {l : List Opd} {its : List AItem} {t : Tm} {h : H} {log : List Ent} {K : Tm → H → List Ent → Prop} {args : Nat → List AV} {r : Nat → AV} (tk : Nat) (hg : guardOf t g = some true) (hs : VSubs (l.map (ev t)) (args tk)) (hk : tk ∈ h.toks) (hc : TCalls P f args r)
    (rest : ∀ tk' m', h.m ≤ m' → WpItems P N its (putT t dst (r tk')) { h with toks := tk' :: h.toks.filter (· ≠ tk), m := m' } (⟨[], [], [tk, tk']⟩ :: log) K) : WpItems P N (⟨dst, g, .call f l⟩ :: its) t h log K := by
  obtain ⟨tk', m', hm, ha⟩ := hc tk h.n h.m
  exact WpItems.acall hg hs ha (touch_retok' h hk hm) (rest tk' m' hm)

variable {s : St} {Q : AExit → St → Prop}
/-- ways that meet again, each with a right to append -/
theorem Wp.seqJoinTok {x y : AC} {t : Tm} {h : H} (L : List Nat) {K : List (Nat × AV)} (hK : (L.map fun i => (i, t i)) = K) (ch : Nat → List (Nat × AV))
    (h1 : Wp P N x ⟨t, h⟩ (AExit.andThen (fun s' => ∃ tk m, StLe s' ⟨tm (K ++ ch tk), { h with toks := [tk], m := m }⟩) Q))
    (h2 : ∀ tk m, Wp P N y ⟨tm (K ++ ch tk), { h with toks := [tk], m := m }⟩ Q) : Wp P N (.seq x y) ⟨t, h⟩ Q := by
  refine Wp.seq (Wp.mono h1 ?_)
  intro e s' h
  cases e with
  | normal => obtain ⟨tk, m, h⟩ := h; exact Wp.le h (h2 tk m)
  | exit id => exact h
  | goto l => exact h
  | ret => exact h
theorem Wp.loopTok {β : Type} (L : List Nat) {K : List (Nat × AV)} {c : AC} {h : H} {t : Tm} (hK : (L.map fun i => (i, t i)) = K) (ch : β → Nat → List (Nat × AV)) (I : β → Prop) (μ : β → Nat) (b0 : β) (tk : Nat) (h0 : I b0) (hh : h.toks = [tk]) (hs : AllSub t (ch b0 tk))
    (round : ∀ b tk m, I b → Wp P N c ⟨tm (K ++ ch b tk), { h with toks := [tk], m := m }⟩ (AExit.andThen (fun s' => ∃ b' tk' m', I b' ∧ μ b' < μ b ∧ StLe s' ⟨tm (K ++ ch b' tk'), { h with toks := [tk'], m := m' }⟩) Q)) : Wp P N (.loop c) ⟨t, h⟩ Q := by
  refine Wp.loopH (β := β × Nat × Nat) L hK (fun j => ch j.1 j.2.1) (fun j => { h with toks := [j.2.1], m := j.2.2 }) (fun j => I j.1) (fun j => μ j.1) (b0, tk, h.m) h0 (by cases h; simp only at hh; subst hh; rfl) hs ?_
  rintro ⟨b, tk, m⟩ hb
  refine Wp.mono (round b tk m hb) ?_
  intro e s' h
  cases e with
  | normal => obtain ⟨b', tk', m', h1, h2, h3⟩ := h; exact ⟨(b', tk', m'), h1, h2, h3⟩
  | exit id => exact h
  | goto l => exact h
  | ret => exact h
end

section
variable {P : Program} {N : Nat}
theorem touch_see (h : H) {objs : Nat → Option Obj} {ids : List Nat} (ho : ∀ id o, objs id = some o → h.objs id = some o) (hi : ∀ id, (objs id).isSome → id ∈ ids) : Touch h (.only objs [] h.n h.m) (.only objs [] h.n h.m) h ⟨ids, [], []⟩ where
  sub := ⟨fun j o x => ho j o x, fun t x => by simp [H.only] at x⟩
  n := rfl
  m := rfl
  eq := H.ext (fun j => by
    change h.objs j = if (objs j).isSome = true ∨ h.n ≤ j ∧ j < h.n then objs j else h.objs j
    by_cases hc : (objs j).isSome = true ∨ h.n ≤ j ∧ j < h.n
    · rw [if_pos hc]
      rcases hc with hc | hc
      · obtain ⟨o, hx⟩ := Option.isSome_iff_exists.1 hc
        rw [hx, ho j o hx]
      · omega
    · rw [if_neg hc]) rfl (by simp [H.patch, H.only, filter_tt]) rfl
  rd j x := .inl (hi j x)
  wr id a b := by simp only [H.only] at a b; omega
  chg j x hj := rfl
  tk t x := by simp [H.only] at x
  tn t x := by simp [H.only] at x
  le := Nat.le_refl _
  lem := Nat.le_refl _

/-- a call that only looks, over some objects -/
def RCalls (P : Program) (f : FuncId) (args : List AV) (objs : Nat → Option Obj) (r : AV) : Prop := ∀ n m, ACalls P f args (.only objs [] n m) r (.only objs [] n m)

theorem WpItems.rcall {dst : Option Nat} {g : Option (Nat × Bool)} {f : FuncId} {l : List Opd} {its : List AItem} {t : Tm} {h : H} {log : List Ent} {K : Tm → H → List Ent → Prop} {vals : List AV} {r : AV} {objs : Nat → Option Obj} (ids : List Nat) (hg : guardOf t g = some true) (hs : VSubs (l.map (ev t)) vals)
    (ho : ∀ id o, objs id = some o → h.objs id = some o) (hi : ∀ id, (objs id).isSome → id ∈ ids) (hc : RCalls P f vals objs r)
    (rest : WpItems P N its (putT t dst r) h (⟨ids, [], []⟩ :: log) K) : WpItems P N (⟨dst, g, .call f l⟩ :: its) t h log K :=
  WpItems.acall hg hs (hc h.n h.m) (touch_see h ho hi) rest

theorem WpItems.rcallv {dst : Option Nat} {g : Option (Nat × Bool)} {f : FuncId} {fn : Func} {y : Opd} {l : List Opd} {its : List AItem} {t : Tm} {h : H} {log : List Ent} {K : Tm → H → List Ent → Prop} {first caps vals : List AV} {r : AV} {objs : Nat → Option Obj} (ids : List Nat) (hg : guardOf t g = some true) (hy : ev t y = .clo (.func f) first caps)
    (hf : P.funcs[f]? = some fn) (hb : fn.body.isSome = true) (hn : fn.name ≠ "runtime.NumGoroutine") (hs : VSubs (first ++ l.map (ev t) ++ caps) vals)
    (ho : ∀ id o, objs id = some o → h.objs id = some o) (hi : ∀ id, (objs id).isSome → id ∈ ids) (hc : RCalls P f vals objs r)
    (rest : WpItems P N its (putT t dst r) h (⟨ids, [], []⟩ :: log) K) : WpItems P N (⟨dst, g, .callv y l⟩ :: its) t h log K :=
  WpItems.step (touch_see h ho hi) (fun ops i o ho' hit => itrun_callv ho' hit hg rfl hy hf hb hn hs (hc h.n h.m)) (fun h => by simp [touchy] at h) rest

theorem FnIs.rcalls {f : FuncId} {ac : AC} {args : List AV} {objs : Nat → Option Obj} {ds : List RV} {r : AV} (hF : FnIs P f N ac ds) (hl : args.length ≤ N) (hw : ∀ n m, Wp P N ac ⟨initT args, .only objs [] n m⟩ fun e s' => isEnd e ∧ ∃ q, resOf ds s'.t s'.h = some q ∧ q = r ∧ s'.h = .only objs [] n m) : RCalls P f args objs r := by
  intro n m
  obtain ⟨r', h', ha, e1, e2⟩ := hF.acalls (Q := fun q h => q = r ∧ h = .only objs [] n m) hl (hw n m)
  subst e1 e2
  exact ha
end

theorem filter_self (t : Nat) : List.filter (fun x => decide (x ≠ t)) [t] = [] := by simp
theorem id_ne1 (k : Nat) : (k = k + 1) = False := by simp
theorem id_ne2 (k : Nat) : (k + 1 = k) = False := by simp
attribute [go_sem] id_ne1 id_ne2 filter_self List.mem_singleton List.mem_cons true_or
end Go.Av
