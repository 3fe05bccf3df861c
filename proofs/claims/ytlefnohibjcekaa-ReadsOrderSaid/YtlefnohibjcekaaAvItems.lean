/- Statements: their operations one behind the other, calls among them; then whole calls. -/
import Derived.Test.YtlefnohibjcekaaAvWp
set_option linter.unusedVariables false
set_option linter.unusedSimpArgs false
namespace Go.Av
section
variable {P : Program} {N : Nat}

theorem putParts_congr {ρ ρ' : Opd → AV} : ∀ {l : List (Nat × Nat × Opd)} {cs : List AV}, (∀ x ∈ l.map (fun p => p.2.2), ρ x = ρ' x) → putParts ρ l cs = putParts ρ' l cs
  | [], _, _ => rfl
  | (off, n, x) :: l, cs, h => by
    have hx : ρ x = ρ' x := h x (by simp)
    simp only [putParts, hx]
    split
    · exact putParts_congr fun y hy => h y (by simp at hy ⊢; exact .inr hy)
    · rfl

theorem aop_congr {ρ ρ' : Opd → AV} {h : H} {op : AOp} (hh : ∀ x ∈ opdsOf op, ρ x = ρ' x) : aop ρ h op = aop ρ' h op := by
  cases op with
  | build z parts => simp only [aop, putParts_congr (l := parts) hh]
  | buildSl sz parts =>
    have e1 : parts.map ρ = parts.map ρ' := List.map_congr_left hh
    have e2 : parts.all (fun x => decide ((cellsOf (ρ x)).length = sz ∧ shaped (ρ x) = true)) = parts.all (fun x => decide ((cellsOf (ρ' x)).length = sz ∧ shaped (ρ' x) = true)) := by
      rw [Bool.eq_iff_iff]
      simp only [List.all_eq_true]
      exact ⟨fun k x hx => by rw [← hh x hx]; exact k x hx, fun k x hx => by rw [hh x hx]; exact k x hx⟩
    simp only [aop, e1, e2]
  | mkfn fn a b =>
    have e1 : a.map ρ = a.map ρ' := List.map_congr_left fun x hx => hh x (by simp [opdsOf, hx])
    have e2 : b.map ρ = b.map ρ' := List.map_congr_left fun x hx => hh x (by simp [opdsOf, hx])
    simp only [aop, e1, e2]
  | slc str sz x a b c =>
    have e0 : ρ x = ρ' x := hh x (by simp [opdsOf])
    have e1 : ∀ y : Option Opd, (∀ z ∈ y.toList, ρ z = ρ' z) → y.map ρ = y.map ρ' := by
      intro y hy; cases y with
      | none => rfl
      | some z => simp [hy z (by simp)]
    have e2 : (c.map fun m => some (ρ m)) = (c.map fun m => some (ρ' m)) := by
      cases c with
      | none => rfl
      | some z => simp [hh z (by simp [opdsOf])]
    simp only [aop, e0, e1 a (fun z hz => hh z (by simp only [opdsOf, List.mem_cons, List.mem_append]; exact .inr (.inl (.inl hz)))), e1 b (fun z hz => hh z (by simp only [opdsOf, List.mem_cons, List.mem_append]; exact .inr (.inl (.inr hz)))), e2]
  | call f l => rfl
  | callv x l => rfl
  | alloc z => rfl
  | _ => simp [opdsOf] at hh; simp only [aop, hh]

/-- what the names do not reach is of no account -/
def cutTo (l : List Nat) (t : Tm) : Tm := fun i => if l.contains i then t i else .any

theorem cut_rel {l : List Nat} {G : Ghost} {w : World} {t : Tm} {a : Act} (h : TOn l G w t a) : TRel G w (cutTo l t) a := by
  intro i
  unfold cutTo
  split
  · rename_i hh; exact h i (by simpa using hh)
  · simp [VRel]

theorem cut_ev {l : List Nat} {t : Tm} {xs : List Opd} (h : (tmpsOf xs).all (fun i => l.contains i) = true) : ∀ x ∈ xs, ev (cutTo l t) x = ev t x := by
  intro x hx
  cases x with
  | c a => rfl
  | t i =>
    simp only [ev, cutTo]
    rw [List.all_eq_true] at h
    have := h i (by simp only [tmpsOf, List.mem_filterMap]; exact ⟨_, hx, rfl⟩)
    rw [if_pos this]

def guardOf (t : Tm) (g : Option (Nat × Bool)) : Option Bool :=
  match g with
  | none => some true
  | some (d, w) => match t d with
    | .bool b => some (b == w)
    | .sc (.tuple _) => some false
    | _ => none

theorem guard_wanted {ops : Array Oper} {o : Oper} {g : Option (Nat × Bool)} {t : Tm} {a : Act} {G : Ghost} {w : World} {b : Bool} (hg : cGuard ops o.guard = some g) (ht : TOn (names ops o) G w t a) (hb : guardOf t g = some b) :
    Region.wanted o (yielded ops a.tmps) = b := by
  unfold Region.wanted
  cases hog : o.guard with
  | none =>
    rw [hog] at hg
    simp [cGuard] at hg; subst hg
    simp [guardOf] at hb; simp [hb]
  | some jw =>
    obtain ⟨j, want⟩ := jw
    rw [hog] at hg
    simp only [cGuard] at hg
    split at hg
    · rename_i d hd
      cases hg
      simp only [guardOf] at hb
      split at hb
      · rename_i c hc
        cases hb
        have hr := ht d (by simp only [names, hog, List.mem_append]; right; simp [hd])
        rw [hc] at hr
        simp only [VRel] at hr
        have hy : yielded ops a.tmps j = some c := by
          unfold yielded
          rw [hd]
          simp only [Option.bind_some]
          have : a.tmps[d]? = some (.bool c) := by
            cases hk : a.tmps[d]? with
            | none => simp [hk] at hr; simp [undef] at hr
            | some v => simp [hk] at hr; rw [hr]
          rw [this]
        simp only [hy]
        cases c <;> cases want <;> rfl
      · rename_i xs hc
        cases hb
        have hr := ht d (by simp only [names, hog, List.mem_append]; right; simp [hd])
        rw [hc] at hr
        simp only [VRel] at hr
        have hy : yielded ops a.tmps j = none := by
          unfold yielded
          rw [hd]
          simp only [Option.bind_some]
          cases hk : a.tmps[d]? with
          | none => rfl
          | some v => simp [hk] at hr; rw [hr]
        simp only [hy]
        cases want <;> rfl
      · cases hb
    · cases hg

theorem itrun_op {ops : Array Oper} {i : Nat} {o : Oper} {it : AItem} {t : Tm} {h h' : H} {x : AV} {en : Ent} (ho : ops[i]? = some o) (hit : cItem P N ops o = some it) (hg : guardOf t it.guard = some true) (hx : aop (ev t) h it.op = some (x, h', en)) :
    ∃ h1 h1', Touch h h1 h1' h' en ∧ ItRun P ops i o t h1 x h1' := by
  unfold cItem at hit
  split at hit
  · rename_i op g hop hgd
    split at hit <;> cases hit
    rename_i hcond
    simp only [Bool.and_eq_true] at hcond
    have hx' : aop (ev (cutTo (names ops o) t)) h op = some (x, h', en) := by
      rw [aop_congr (cut_ev hcond.2)]; exact hx
    obtain ⟨h1, h1', tc, loc⟩ := aop_loc hop hx'
    refine ⟨h1, h1', tc, fun G w a ht R F K Q hK => ?_⟩
    obtain ⟨nx, v, w', G', e1, e2, T1, R1, V⟩ := loc G w a (cut_rel ht) R F
    unfold wpOp
    rw [ho]
    simp only [guard_wanted hgd ht hg, if_true]
    left
    unfold Oper.wp
    rw [e1]
    rcases e2 with rfl | ⟨rfl, rfl⟩
    · rw [Oper.upon_value]; exact hK G' w' v T1 R1 V
    · rw [Oper.upon_skip]; exact hK G' w' undef T1 R1 V
  · cases hit

theorem itrun_skip {ops : Array Oper} {i : Nat} {o : Oper} {it : AItem} {t : Tm} {h : H} (ho : ops[i]? = some o) (hit : cItem P N ops o = some it) (hg : guardOf t it.guard = some false) :
    ItRun P ops i o t (H0 h.n h.m) (.sc undef) (H0 h.n h.m) := by
  unfold cItem at hit
  split at hit
  · rename_i op g hop hgd
    split at hit <;> cases hit
    intro G w a ht R F K Q hK
    unfold wpOp
    rw [ho]
    simp only [guard_wanted hgd ht hg, if_false, Bool.false_eq_true]
    exact hK G w undef (Trans.refl _ _ _) R (by simp [VRel])
  · cases hit

theorem cOp_call {o : Oper} {f : FuncId} {l : List Opd} (h : cOp P o = some (.call f l)) : ∃ c fn, o.op = .call c ∧ c.callee = .value (.func f) ∧ opds P c.argTypes.toList c.args.toList = some l ∧ P.funcs[f]? = some fn ∧ fn.body.isSome = true ∧ fn.name ≠ "runtime.NumGoroutine" := by
  unfold cOp at h
  split at h
  case h_26 c hop =>
    split at h
    case h_7 f' hc =>
      split at h
      · split at h
        · rename_i fn hfn hcond
          simp only [Option.map_eq_some_iff] at h
          obtain ⟨l', h1, h2⟩ := h
          cases h2
          exact ⟨c, fn, hop, hc, h1, hfn, hcond.1, hcond.2⟩
        · cases h
      · cases h
    all_goals first
      | (cases h; done)
      | ((repeat' split at h) <;> (try cases h) <;> simp at h)
  all_goals first
    | (cases h; done)
    | (simp at h; done)
    | ((repeat' split at h) <;> (try cases h) <;> (try simp at h) ; done)
    | skip

theorem cOp_callv {o : Oper} {y : Opd} {l : List Opd} (h : cOp P o = some (.callv y l)) : ∃ c z, o.op = .call c ∧ c.callee = .value z ∧ opd P 0 z = some y ∧ opds P c.argTypes.toList c.args.toList = some l := by
  unfold cOp at h
  split at h
  case h_26 c hop =>
    split at h
    case h_8 z _ hc =>
      split at h
      · rename_i a l' h1 h2
        cases h
        exact ⟨c, z, hop, hc, h1, h2⟩
      · cases h
    all_goals first
      | (cases h; done)
      | ((repeat' split at h) <;> (try cases h) <;> simp at h)
  all_goals first
    | (cases h; done)
    | (simp at h; done)
    | ((repeat' split at h) <;> (try cases h) <;> (try simp at h) ; done)

theorem run_callFunc {f : FuncId} {fn : Func} {args : Array Value} (w : World) (hf : P.funcs[f]? = some fn) (hb : fn.body.isSome = true) (hn : fn.name ≠ "runtime.NumGoroutine") : (callFunc f args).run P w = .ok (.enter f args) w := by
  have hb' : fn.body ≠ none := by intro h; rw [h] at hb; cases hb
  simp [callFunc, hf, hn, hb']

theorem upon_calls {o : Oper} {f : FuncId} {vals : List AV} {h1 h1' : H} {r : AV} (hc : ACalls P f vals h1 r h1') {G : Ghost} {w : World} {a : Act} {vs : List Value} (hv : VRels G w vals vs) (R : RepH G h1 w) (F : Fresh G h1 h1') {K : Act → World → Prop} {Q : Exit → Act → World → Prop}
    (hK : ∀ G' w' v, Trans G w h1 G' w' h1' → RepH G' h1' w' → VRel G' w' r v → K (a.put o.dst v) w') (hrun : (execOp a.eval o).run P w = .ok (.enter f vs.toArray) w) : o.wp P a w K Q := by
  unfold Oper.wp
  rw [hrun, Oper.upon_enter]
  refine (hc G w vs hv R F).mono ?_
  rintro e w' ⟨v, G', rfl, T, R', V⟩
  exact hK G' w' v T R' V

theorem itrun_call {ops : Array Oper} {i : Nat} {o : Oper} {it : AItem} {t : Tm} {f : FuncId} {l : List Opd} {vals : List AV} {h1 h1' : H} {r : AV} (ho : ops[i]? = some o) (hit : cItem P N ops o = some it) (hg : guardOf t it.guard = some true) (hop : it.op = .call f l)
    (hs : VSubs (l.map (ev t)) vals) (hc : ACalls P f vals h1 r h1') : ItRun P ops i o t h1 r h1' := by
  unfold cItem at hit
  split at hit
  · rename_i op g hcop hgd
    split at hit <;> cases hit
    rename_i hcond
    simp only [Bool.and_eq_true] at hcond
    simp only at hop
    subst hop
    obtain ⟨c, fn, e1, e2, e3, e4, e5, e6⟩ := cOp_call hcop
    intro G w a ht R F K Q hK
    unfold wpOp
    rw [ho]
    simp only [guard_wanted hgd ht hg, if_true]
    left
    have rr := opds_rel (P := P) (cut_rel ht) e3
    have el : l.map (ev (cutTo (names ops o) t)) = l.map (ev t) := List.map_congr_left fun x hx => cut_ev hcond.2 x (by simpa [opdsOf] using hx)
    rw [el] at rr
    refine upon_calls hc (hs G w _ rr) R F hK ?_
    have hargs : (c.args.map a.eval) = (c.args.toList.map a.eval).toArray := by cases c.args; simp
    simp [execOp, e1, resolve, e2, Act.eval, Deferred.ofValue, invoke, hargs, run_callFunc w e4 e5 e6]
  · cases hit

theorem itrun_callv {ops : Array Oper} {i : Nat} {o : Oper} {it : AItem} {t : Tm} {f : FuncId} {fn : Func} {y : Opd} {l : List Opd} {first caps vals : List AV} {h1 h1' : H} {r : AV} (ho : ops[i]? = some o) (hit : cItem P N ops o = some it) (hg : guardOf t it.guard = some true) (hop : it.op = .callv y l)
    (hy : ev t y = .clo (.func f) first caps) (hf : P.funcs[f]? = some fn) (hb : fn.body.isSome = true) (hn : fn.name ≠ "runtime.NumGoroutine")
    (hs : VSubs (first ++ l.map (ev t) ++ caps) vals) (hc : ACalls P f vals h1 r h1') : ItRun P ops i o t h1 r h1' := by
  unfold cItem at hit
  split at hit
  · rename_i op g hcop hgd
    split at hit <;> cases hit
    rename_i hcond
    simp only [Bool.and_eq_true] at hcond
    simp only at hop
    subst hop
    obtain ⟨c, z, e1, e2, e3, e4⟩ := cOp_callv hcop
    intro G w a ht R F K Q hK
    unfold wpOp
    rw [ho]
    simp only [guard_wanted hgd ht hg, if_true]
    left
    have rr := opds_rel (P := P) (cut_rel ht) e4
    have rz := opd_rel (P := P) e3 (cut_rel ht)
    have hcut := cut_ev (t := t) hcond.2
    have el : l.map (ev (cutTo (names ops o) t)) = l.map (ev t) := List.map_congr_left fun x hx => hcut x (by simp [opdsOf, hx])
    rw [el] at rr
    rw [hcut y (by simp [opdsOf]), hy] at rz
    simp only [VRel] at rz
    obtain ⟨vs, us, q1, q2, q3⟩ := rz
    refine upon_calls hc (hs G w _ ((q2.append rr).append q3)) R F hK ?_
    have hargs : (c.args.map a.eval) = (c.args.toList.map a.eval).toArray := by cases c.args; simp
    simp [execOp, e1, resolve, e2, q1, Deferred.ofValue, invoke, hargs, run_callFunc w hf hb hn]
  · cases hit

/-! ## Operations one behind the other -/

def WpItems (P : Program) (N : Nat) (items : List AItem) (t : Tm) (h : H) (log : List Ent) (K : Tm → H → List Ent → Prop) : Prop :=
  ∀ ops i, i ≤ ops.size → cItems P N ops (ops.toList.drop i) = some items →
    ∃ recs t' h', Chain P ops i recs t h t' h' ∧ K t' h' (log.reverse ++ recs.map (·.en)) ∧ ∀ (k : Nat) r it, recs[k]? = some r → items[k]? = some it → touchy it.op = false → r.en = ent0

theorem WpItems.nil {t : Tm} {h : H} {log : List Ent} {K : Tm → H → List Ent → Prop} (hk : K t h log.reverse) : WpItems P N [] t h log K := by
  intro ops i hi hc
  have : i = ops.size := by
    cases hd : ops.toList.drop i with
    | nil => have := List.drop_eq_nil_iff.1 hd; simp at this; omega
    | cons o l =>
      rw [hd] at hc
      simp only [cItems] at hc
      split at hc <;> simp at hc
  exact ⟨[], t, h, .nil this, by simpa using hk, by simp⟩

theorem items_cons {ops : Array Oper} {i : Nat} {it : AItem} {its : List AItem} (hi : i ≤ ops.size) (hc : cItems P N ops (ops.toList.drop i) = some (it :: its)) :
    ∃ o, ops[i]? = some o ∧ cItem P N ops o = some it ∧ i + 1 ≤ ops.size ∧ cItems P N ops (ops.toList.drop (i + 1)) = some its := by
  cases hd : ops.toList.drop i with
  | nil => rw [hd] at hc; simp [cItems] at hc
  | cons o l =>
    rw [hd] at hc
    simp only [cItems] at hc
    split at hc
    · rename_i a r h1 h2
      cases hc
      have hlt : i < ops.toList.length := by
        rcases Nat.lt_or_ge i ops.toList.length with h | h
        · exact h
        · rw [List.drop_eq_nil_of_le h] at hd; cases hd
      have e := List.drop_eq_getElem_cons hlt
      rw [hd] at e
      obtain ⟨e1, e2⟩ := List.cons.inj e
      have hlt' : i < ops.size := by simpa using hlt
      refine ⟨o, ?_, h1, by omega, by rw [← e2]; exact h2⟩
      rw [Array.getElem?_eq_getElem hlt', e1]; simp
    · cases hc

/-- one operation, by whatever shows what it does -/
theorem WpItems.step {it : AItem} {its : List AItem} {t : Tm} {h h' h1 h1' : H} {x : AV} {en : Ent} {log : List Ent} {K : Tm → H → List Ent → Prop} (tc : Touch h h1 h1' h' en)
    (run : ∀ (ops : Array Oper) i o, ops[i]? = some o → cItem P N ops o = some it → ItRun P ops i o t h1 x h1') (hen : touchy it.op = false → en = ent0)
    (rest : WpItems P N its (putT t it.dst x) h' (en :: log) K) : WpItems P N (it :: its) t h log K := by
  intro ops i hi hc
  obtain ⟨o, ho, hit, hi', hc'⟩ := items_cons hi hc
  obtain ⟨recs, t', hh', ch, hk, he⟩ := rest ops (i + 1) hi' hc'
  have hdst : it.dst = o.dst := by
    unfold cItem at hit
    split at hit
    · split at hit <;> cases hit; rfl
    · cases hit
  refine ⟨⟨t, h, h1, h1', h', x, en⟩ :: recs, t', hh', .cons ho rfl rfl tc (run ops i o ho hit) (by rw [← hdst]; exact ch), by simpa using hk, ?_⟩
  intro k r it' hr hit' ht
  cases k with
  | zero => simp at hr hit'; subst hr hit'; exact hen ht
  | succ k => simp at hr hit'; exact he k r it' hr hit' ht

theorem aop_ent {ρ : Opd → AV} {h h' : H} {op : AOp} {x : AV} {en : Ent} (ht : touchy op = false) (hx : aop ρ h op = some (x, h', en)) : en = ent0 ∨ ∃ n y, op = .load n y := by
  cases op <;> simp [touchy] at ht <;> simp only [aop] at hx <;> first
    | (simp only [Option.some.injEq, Prod.mk.injEq] at hx; exact .inl hx.2.2.symm)
    | (simp only [Option.map_eq_some_iff, Prod.mk.injEq] at hx; obtain ⟨_, _, _, _, h⟩ := hx; exact .inl h.symm)
    | ((repeat' split at hx) <;> (first | (cases hx; done) | (cases hx; exact .inl rfl) | (simp only [Option.map_eq_some_iff, Prod.mk.injEq] at hx; obtain ⟨_, _, _, _, h⟩ := hx; exact .inl h.symm) | skip))
  all_goals simp_all

def evalOps : List AItem → Tm → H → List Ent → List AItem × Tm × H × List Ent
  | [], t, h, l => ([], t, h, l)
  | it :: its, t, h, l => match guardOf t it.guard with
    | some true => (match aop (ev t) h it.op with
      | some (x, h', en) => evalOps its (putT t it.dst x) h' (en :: l)
      | none => (it :: its, t, h, l))
    | some false => evalOps its (putT t it.dst (.sc undef)) h (ent0 :: l)
    | none => (it :: its, t, h, l)

theorem WpItems.evalA {b : List AItem} : ∀ {items its : List AItem} {t t' : Tm} {h h' : H} {log log' : List Ent} {K : Tm → H → List Ent → Prop}, evalOps items t h log = (its, t', h', log') → WpItems P N (its ++ b) t' h' log' K → WpItems P N (items ++ b) t h log K
  | [], its, t, t', h, h', log, log', K, he, hw => by simp only [evalOps, Prod.mk.injEq] at he; obtain ⟨rfl, rfl, rfl, rfl⟩ := he; exact hw
  | it :: items, its, t, t', h, h', log, log', K, he, hw => by
    simp only [evalOps] at he
    split at he
    · rename_i hg
      split at he
      · rename_i x h2 en hx
        have rest := WpItems.evalA he hw
        intro ops i hi hc
        obtain ⟨o, ho, hit, hi', hc'⟩ := items_cons hi hc
        obtain ⟨h1, h1', tc, run⟩ := itrun_op ho hit hg hx
        obtain ⟨recs, t', hh', ch, hk, hen⟩ := rest ops (i + 1) hi' hc'
        have hdst : it.dst = o.dst := by
          unfold cItem at hit
          split at hit
          · split at hit <;> cases hit; rfl
          · cases hit
        refine ⟨⟨t, h, h1, h1', h2, x, en⟩ :: recs, t', hh', .cons ho rfl rfl tc run (by rw [← hdst]; exact ch), by simpa using hk, ?_⟩
        intro k r it' hr hit' ht
        cases k with
        | zero =>
          simp at hr hit'; subst hr hit'
          rcases aop_ent ht hx with h | ⟨n, y, h⟩
          · exact h
          · rw [h] at ht; simp [touchy] at ht
        | succ k => simp at hr hit'; exact hen k r it' hr hit' ht
      · simp only [Prod.mk.injEq] at he; obtain ⟨rfl, rfl, rfl, rfl⟩ := he; exact hw
    · rename_i hg
      have rest := WpItems.evalA he hw
      exact WpItems.step (touch_none h) (fun ops i o ho hit => itrun_skip ho hit hg) (fun _ => rfl) rest
    · simp only [Prod.mk.injEq] at he; obtain ⟨rfl, rfl, rfl, rfl⟩ := he; exact hw

theorem WpItems.eval {items its : List AItem} {t t' : Tm} {h h' : H} {log log' : List Ent} {K : Tm → H → List Ent → Prop} (he : evalOps items t h log = (its, t', h', log')) (hw : WpItems P N its t' h' log' K) : WpItems P N items t h log K := by
  have := WpItems.evalA (b := []) he (by rw [List.append_nil]; exact hw)
  rwa [List.append_nil] at this
/-- the first operations -/
theorem WpItems.part (k : Nat) {items : List AItem} {t t' : Tm} {h h' : H} {log log' : List Ent} {K : Tm → H → List Ent → Prop} (he : evalOps (items.take k) t h log = ([], t', h', log')) (hw : WpItems P N (items.drop k) t' h' log' K) : WpItems P N items t h log K := by
  have := WpItems.evalA (b := items.drop k) he (by rw [List.nil_append]; exact hw)
  rwa [List.take_append_drop] at this

/-- a call that only computes -/
theorem WpItems.pcall {dst : Option Nat} {g : Option (Nat × Bool)} {f : FuncId} {l : List Opd} {its : List AItem} {t : Tm} {h : H} {log : List Ent} {K : Tm → H → List Ent → Prop} {vals : List AV} {r : AV} (hg : guardOf t g = some true) (hs : VSubs (l.map (ev t)) vals) (hc : PCalls P f vals r)
    (rest : WpItems P N its (putT t dst r) h (ent0 :: log) K) : WpItems P N (⟨dst, g, .call f l⟩ :: its) t h log K :=
  WpItems.step (touch_none h) (fun ops i o ho hit => itrun_call ho hit hg rfl hs (hc h.n h.m)) (fun _ => rfl) rest

theorem WpItems.pcallv {dst : Option Nat} {g : Option (Nat × Bool)} {f : FuncId} {fn : Func} {y : Opd} {l : List Opd} {its : List AItem} {t : Tm} {h : H} {log : List Ent} {K : Tm → H → List Ent → Prop} {first caps vals : List AV} {r : AV} (hg : guardOf t g = some true) (hy : ev t y = .clo (.func f) first caps)
    (hf : P.funcs[f]? = some fn) (hb : fn.body.isSome = true) (hn : fn.name ≠ "runtime.NumGoroutine") (hs : VSubs (first ++ l.map (ev t) ++ caps) vals) (hc : PCalls P f vals r)
    (rest : WpItems P N its (putT t dst r) h (ent0 :: log) K) : WpItems P N (⟨dst, g, .callv y l⟩ :: its) t h log K :=
  WpItems.step (touch_none h) (fun ops i o ho hit => itrun_callv ho hit hg rfl hy hf hb hn hs (hc h.n h.m)) (fun _ => rfl) rest

/-- a call over objects and tokens -/
theorem WpItems.acall {dst : Option Nat} {g : Option (Nat × Bool)} {f : FuncId} {l : List Opd} {its : List AItem} {t : Tm} {h h' h1 h1' : H} {log : List Ent} {en : Ent} {K : Tm → H → List Ent → Prop} {vals : List AV} {r : AV} (hg : guardOf t g = some true) (hs : VSubs (l.map (ev t)) vals) (hc : ACalls P f vals h1 r h1')
    (tc : Touch h h1 h1' h' en) (rest : WpItems P N its (putT t dst r) h' (en :: log) K) : WpItems P N (⟨dst, g, .call f l⟩ :: its) t h log K :=
  WpItems.step tc (fun ops i o ho hit => itrun_call ho hit hg rfl hs hc) (fun h => by simp [touchy] at h) rest
end
end Go.Av
