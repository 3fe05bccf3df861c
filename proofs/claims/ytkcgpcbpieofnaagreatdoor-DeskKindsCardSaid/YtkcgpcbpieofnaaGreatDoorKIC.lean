/- Parts of a proof: a layer of abstract values over the model, the functions' walks, plain laws. -/
import Derived.Deep.CondSized
import Derived.Deep.DeepHandedRow
import Derived.IntWalk
import Derived.KernelRfl
import Derived.Laws.Append
import Derived.Laws.AppendOwn
import Derived.Laws.BytesArg
import Derived.Laws.ComplexArith
import Derived.Laws.Cover3
import Derived.Laws.Entries
import Derived.Laws.IdiomCopy
import Derived.Laws.IdiomStrings
import Derived.Laws.Pointers
import Derived.Laws.Small
import Derived.Laws.Strings
import Derived.Laws.StructEq
import Derived.Lib.LaidTab
import Derived.MapKept
import Derived.OpenShut
import Derived.Orders
import Derived.OrdersIn
import Derived.ProofKit
import Derived.RangeFuncRecord
import Derived.RangeFuncSeq
import Derived.ReadAgain
import Derived.Scope
import Derived.Shelf.Slices.Cells
import Derived.Shelf.Spec.SlicesInsertGrow
import Derived.SizedLaws
import Derived.Test.YtkcgpcbpieofnaaGreatDoorCards
import Derived.Test.YtkcgpcbpieofnaaGreatDoorProg
import Derived.Test.YtkcgpcbpieofnaaGreatDoorTie
import Derived.Test.YtkcgpcbpieofnaaGreatDoorKIB
section
set_option linter.unusedVariables false
set_option linter.unusedSimpArgs false
namespace Go.Av
section
variable {P : Program} {N : Nat}
def YCalls (P : Program) (id : Nat) (args : List AV) (h : H) (r : AV) (h' : H) : Prop :=
  ∀ G w vs, G.dom id → VRels G w args vs → RepH G h w → Fresh G h h' → YieldAt Fence.wide 0 P (G.ι id) vs.toArray w fun e w' => ∃ v G', e = .returned v ∧ Trans G w h G' w' h' ∧ RepH G' h' w' ∧ VRel G' w' r v
theorem roundIn_rd {ro : Option Nat} {n l : Nat} {f : FuncId} {tmps : Array Value} {assign body : Code} {w : World} {R : Ending → World → Prop} (h : RoundIn Fence.wide n P l f tmps assign body w R) : RoundIn (rd ro) n P l f tmps assign body w R := h
theorem itrun_yield {ops : Array Oper} {i : Nat} {o : Oper} {it : AItem} {t : Tm} {id : Nat} {y : Opd} {l : List Opd} {vals : List AV} {h1 h1' : H} {r : AV} (ho : ops[i]? = some o) (hit : cItem P N ops o = some it) (hg : guardOf t it.guard = some true) (hop : it.op = .callv y l)
    (hy : ev t y = .yld id) (hs : VSubs (l.map (ev t)) vals) (hc : YCalls P id vals h1 r h1') : ItRun P ops i o t h1 r h1' := by
  unfold cItem at hit
  split at hit
  · rename_i op g hcop hgd
    split at hit <;> cases hit
    rename_i hcond
    simp only [Bool.and_eq_true] at hcond
    simp only at hop
    subst hop
    have hcop := cOpD_of hcop (by simp) rfl
    obtain ⟨c, z, e1, e2, e3, e4⟩ := cOp_callv hcop
    intro G w a ht R F K Q hK ro
    unfold wpOpIn
    rw [ho]
    simp only [guard_wanted hgd ht hg, if_true]
    have rr := opds_rel (P := P) (cut_rel ht) e4
    have rz := opd_rel (P := P) e3 (cut_rel ht)
    have hcut := cut_ev (t := t) hcond.2
    have el : l.map (ev (cutTo (names ops o) t)) = l.map (ev t) := List.map_congr_left fun x hx => hcut x (by simp [opdsOf, hx])
    rw [el] at rr
    rw [hcut y (by simp [opdsOf]), hy] at rz
    simp only [VRel] at rz
    obtain ⟨rdom, rz⟩ := rz
    refine ⟨fun _ _ => trivial, ?_⟩
    obtain ⟨fn, tmps, asg, body, q1, q2⟩ := hc G w _ rdom (hs G w _ rr) R F
    have hargs : (c.args.map a.eval) = (c.args.toList.map a.eval).toArray := by cases c.args; simp
    have hrun : (execOp a.eval o).run P w = .ok (.round (G.ι id) fn tmps asg body) w := by
      simp [execOp, e1, resolve, e2, rz, Deferred.ofValue, invoke, hargs]
      exact q1
    rw [Oper.semAt_eq _ _ _ (cOp_plain hcop), hrun, Oper.uponIn_round]
    refine ⟨fun h => by simp [rd, Fence.wide] at h, roundIn_rd (q2.mono ?_)⟩
    rintro e w' ⟨v, G', rfl, T, R', V⟩
    exact hK G' w' v T R' V
  · cases hit
def putPs (t : Tm) : List Nat → List AV → Tm
  | p :: ps, x :: xs => putPs (upd t p x) ps xs
  | _, _ => t
theorem putPs_rel {G : Ghost} {w : World} : ∀ {ps : List Nat} {xs : List AV} {vs : List Value} {t : Tm} {tmps : Array Value}, VRels G w xs vs → (∀ p ∈ ps, p < tmps.size) → (∀ i, VRel G w (t i) (tmps.getD i undef)) →
    (∀ i, VRel G w (putPs t ps xs i) (((ps.zip vs).foldl (fun tm (p : Nat × Value) => tm.setIfInBounds p.1 p.2) tmps).getD i undef)) ∧ ((ps.zip vs).foldl (fun tm (p : Nat × Value) => tm.setIfInBounds p.1 p.2) tmps).size = tmps.size
  | [], xs, vs, t, tmps, _, _, h => by simpa [putPs] using h
  | p :: ps, [], vs, t, tmps, hv, _, h => by
    simp only [VRels] at hv; subst hv
    simpa [putPs] using h
  | p :: ps, x :: xs, vs, t, tmps, hv, hp, h => by
    simp only [VRels] at hv
    obtain ⟨v, us, rfl, h1, h2⟩ := hv
    have hk := hp p (by simp)
    have := putPs_rel (ps := ps) (t := upd t p x) (tmps := tmps.setIfInBounds p v) h2 (fun q hq => by simpa using hp q (by simp [hq])) (fun i => by
      simp only [upd]
      by_cases e : i = p
      · subst e; simp [Array.getElem?_setIfInBounds, hk]; exact h1
      · have e2 : (tmps.setIfInBounds p v).getD i undef = tmps.getD i undef := by simp [Array.getElem?_setIfInBounds, Ne.symm e]
        rw [if_neg e, e2]; exact h i)
    simp only [putPs, List.zip_cons_cons, List.foldl_cons]
    exact ⟨this.1, by rw [this.2]; simp⟩
inductive RoundEnd : AExit → Bool → LoopState → Option Code → Prop where
  | normal : RoundEnd .normal true .ready none
  | ret : RoundEnd .ret false .done (some .ret)
  | exit (i : Nat) : RoundEnd (.exit i) false .done (some (.exit i))
  | goto (l : Nat) : RoundEnd (.goto l) false .done (some (.goto l))
theorem loop_turn {G : Ghost} {w : World} {f : Objs} {n m id M : Nat} {T : List Nat} {t : Nat → AV} {ps : List Nat} {asg body : Code} {st : LoopState} {pend : Option Code} (R : RepH G ⟨f, n, T, m⟩ w) (ho : f id = some (.loop M t ps asg body st pend)) {r : Loop}
    (hr : w.heap[G.ι id]? = some (.loop r)) (st' : LoopState) (pend' : Option Code) :
    Trans G w ⟨f, n, T, m⟩ G (w.putObj (G.ι id) (.loop { r with state := st', pending := pend' })) ⟨upd f id (some (.loop M t ps asg body st' pend')), n, T, m⟩ ∧
    RepH G ⟨upd f id (some (.loop M t ps asg body st' pend')), n, T, m⟩ (w.putObj (G.ι id) (.loop { r with state := st', pending := pend' })) := by
  obtain ⟨d1, d2, d3, r0, e0, d4⟩ := R.obj id _ ho
  have hrr : r0 = r := by
    have := hr
    rw [e0] at this
    cases this; rfl
  subst hrr
  have tu : Turned (G.ι id) w (w.putObj (G.ι id) (.loop { r0 with state := st', pending := pend' })) :=
    ⟨by simp, fun B hB => World.putObj_heap_other hB, fun c T fr e => absurd (hr.symm.trans e) (by simp), rfl, rfl⟩
  have hO : ∀ B, H.O ⟨f, n, T, m⟩ G B ↔ H.O ⟨upd f id (some (.loop M t ps asg body st' pend')), n, T, m⟩ G B := by
    intro B
    constructor
    · rintro ⟨j, o, h1, h2⟩
      by_cases e : j = id
      · exact ⟨id, .loop M t ps asg body st' pend', by simp [upd], by rw [← h2, e]⟩
      · exact ⟨j, o, by simpa [upd, e] using h1, h2⟩
    · rintro ⟨j, o, h1, h2⟩
      by_cases e : j = id
      · exact ⟨id, _, ho, by rw [← h2, e]⟩
      · exact ⟨j, o, by simpa [upd, e] using h1, h2⟩
  have hne : ∀ B, ¬ H.O ⟨f, n, T, m⟩ G B → B ≠ G.ι id := fun B h e => h ⟨id, _, ho, e.symm⟩
  have Tr : Trans G w ⟨f, n, T, m⟩ G (w.putObj (G.ι id) (.loop { r0 with state := st', pending := pend' })) ⟨upd f id (some (.loop M t ps asg body st' pend')), n, T, m⟩ := by
    constructor
    · exact fun _ x => x
    · exact fun _ => .inl
    · exact fun _ _ => rfl
    · exact fun _ x => x
    · exact fun _ => .inl
    · exact fun _ _ => rfl
    · exact Nat.le_refl _
    · exact Nat.le_refl _
    · rw [tu.size]; exact Nat.le_refl _
    · exact tu.os
    · exact tu.out
    · intro B hB
      by_cases e : B = G.ι id
      · subst e
        rw [hr, World.putObj_heap_same d3]
        exact ⟨_, rfl⟩
      · rw [tu.same B e]; exact SameForm.refl _
    · exact fun B hB h1 _ => tu.same B (hne B h1)
    · exact fun _ _ _ => Iff.rfl
    · exact fun _ _ _ _ => rfl
    · intro B hB h1 h2 e he
      refine ⟨fun j hj => ?_, fun e' he' => by rw [he] at he'; cases he'; exact Nat.le_refl _⟩
      have := tu.same B (hne B h2)
      unfold World.cell?
      simp only [this]
    · exact fun B _ h => (hO B).2 h
    · exact fun B _ h => h
    · intro j o h
      by_cases e : j = id
      · exact .inl ⟨_, by rw [e]; exact ho⟩
      · exact .inl ⟨o, by simpa [upd, e] using h⟩
    · exact fun _ => .inl
  refine ⟨Tr, ⟨fun j o hj => ?_, fun i j o o' h1 h2 => ?_, fun t ht => ⟨(R.tok t ht).1, fun B e he => by rw [tu.size]; exact (R.tok t ht).2 B e he⟩, R.tinj⟩⟩
  · by_cases e : j = id
    · subst e
      have : o = .loop M t ps asg body st' pend' := by simpa [upd] using hj.symm
      subst this
      refine ⟨d1, d2, by rw [tu.size]; exact d3, _, World.putObj_heap_same d3, d4.1, fun i => VRel.turn tu _ _ (d4.2.1 i), d4.2.2.1, d4.2.2.2.1, d4.2.2.2.2.1, rfl, rfl⟩
    · have hj' : f j = some o := by simpa [upd, e] using hj
      obtain ⟨a1, a2, a3, a4⟩ := R.obj j o hj'
      refine ⟨a1, a2, by rw [tu.size]; exact a3, ?_⟩
      have hb : G.ι j ≠ G.ι id := fun e' => e (R.inj j id o _ hj' ho e')
      rw [tu.same _ hb]
      exact a4.turn tu
  · have get : ∀ k p, upd f id (some (.loop M t ps asg body st' pend')) k = some p → ∃ p', f k = some p' := by
      intro k p hk
      by_cases e : k = id
      · exact ⟨_, by rw [e]; exact ho⟩
      · exact ⟨p, by simpa [upd, e] using hk⟩
    obtain ⟨p, hp⟩ := get i o h1
    obtain ⟨p', hp'⟩ := get j o' h2
    exact R.inj i j p p' hp hp'
theorem ycalls_of {id M n m : Nat} {f : Objs} {T : List Nat} {t : Tm} {ps : List Nat} {asg body : Code} {x y : AC} {args : List AV} {Q : AV → H → Prop} (ho : f id = some (.loop M t ps asg body .ready none)) (ha : cCode P M asg = some x) (hb : cCode P M body = some y) (hna : noRF asg = true) (hnb : noRF body = true)
    (hl : args.length = ps.length) (hps : ∀ p ∈ ps, p < M)
    (hw : Wp P M x ⟨putPs t ps args, ⟨f, n, T, m⟩⟩ fun e s => e = .normal ∧ ∃ t1, s.h.objs id = some (.loop M t1 ps asg body .ready none) ∧
      Wp P M y ⟨s.t, { s.h with objs := upd s.h.objs id (some (.loop M t1 ps asg body .busy none)) }⟩ fun e2 s2 => ∃ t2 b st pend, s2.h.objs id = some (.loop M t2 ps asg body .busy none) ∧ RoundEnd e2 b st pend ∧
        Q (.bool b) { s2.h with objs := upd s2.h.objs id (some (.loop M t2 ps asg body st pend)) }) :
    ∃ r h', YCalls P id args ⟨f, n, T, m⟩ r h' ∧ Q r h' := by
  obtain ⟨e, s, run, rfl, t1, ho1, hw2⟩ := hw asg ha
  obtain ⟨e2, s2, run2, t2, b, st, pend, ho2, hre, hq⟩ := hw2 body hb
  refine ⟨_, _, ?_, hq⟩
  have nm1 := run.1
  have nm2 := run2.1
  simp only at nm1 nm2
  intro G w vs hdom hv R F
  obtain ⟨d1, d2, d3, r, e0, d4, d5, d6, d7, d8, d9, d10⟩ := R.obj id _ ho
  have hsz : vs.toArray.size = r.params.size := by
    have h1 := hv.length
    have h2 : r.params.toList.length = ps.length := by rw [d6]
    simp at h2 ⊢
    omega
  refine ⟨r.fn, _, r.assign, r.body, run_yield e0 hsz, ?_⟩
  refine roundIn_of_wpIn (F := Fence.wide) trivial ?_
  have hzip : (r.params.zip vs.toArray).foldl (fun tmps (p : Tmp × Value) => tmps.setIfInBounds p.1 p.2) r.tmps = (ps.zip vs).foldl (fun tm (p : Nat × Value) => tm.setIfInBounds p.1 p.2) r.tmps := by
    rw [← Array.foldl_toList, Array.toList_zip, d6]
  have hput := putPs_rel (ps := ps) (t := t) (tmps := r.tmps) hv (fun p hp => by rw [d4]; exact hps p hp) d5
  have F1 : Fresh G ⟨f, n, T, m⟩ s.h := F.sub (Nat.le_refl _) nm2.1 (Nat.le_refl _) nm2.2
  have rel0 : Rel M ⟨putPs t ps args, ⟨f, n, T, m⟩⟩ G w { tmps := (r.params.zip vs.toArray).foldl (fun tmps (p : Tmp × Value) => tmps.setIfInBounds p.1 p.2) r.tmps, defers := [] } := by
    rw [hzip]
    exact ⟨hput.2.trans d4, hput.1, R, by simp, by simp⟩
  have w1 := run.2 (some (G.ι id)) (.inr hna) G w _ rel0 F1
  rw [d7, d8]
  refine wpIn_mono w1 ?_
  rintro e' a1 w1' ⟨h1, -, G1, T1, r1⟩
  cases e' <;> simp only [AExit.says] at h1
  have hι : G1.ι id = G.ι id := T1.ι_eq id d1
  obtain ⟨k1, k2, k3, r', k4, k5, k6, k7, k8, k9, k10, k11⟩ := r1.h.obj id _ ho1
  rw [hι] at k3 k4
  have hbr := run_beginRound (P := P) k4 k10
  refine ⟨_, hbr, ?_⟩
  have k4' : w1'.heap[G1.ι id]? = some (.loop r') := by rw [hι]; exact k4
  obtain ⟨T2, R2⟩ := loop_turn (n := s.h.n) (m := s.h.m) (T := s.h.toks) (f := s.h.objs) r1.h ho1 k4' .busy none
  rw [hι] at T2 R2
  have hrec : { r' with state := LoopState.busy, pending := (none : Option Code) } = { r' with state := .busy } := by rw [← k11]
  rw [hrec] at T2 R2
  have rel1 : Rel M ⟨s.t, { s.h with objs := upd s.h.objs id (some (.loop M t1 ps asg body .busy none)) }⟩ G1 (w1'.putObj (G.ι id) (.loop { r' with state := .busy })) a1 :=
    ⟨r1.size, fun i => VRel.mono r1.h T2 _ _ (r1.t i), R2, r1.df.mono T2⟩
  have F2 : Fresh G1 { s.h with objs := upd s.h.objs id (some (.loop M t1 ps asg body .busy none)) } s2.h := by
    have := (F.step (h' := { s2.h with objs := upd s2.h.objs id (some (.loop M t2 ps asg body st pend)) }) T1)
    exact this
  refine wpIn_mono (run2.2 (some (G.ι id)) (.inr hnb) G1 _ a1 rel1 F2) ?_
  rintro e' a2 w2 ⟨q1, -, G2, T3, r2⟩
  have hι2 : G2.ι id = G.ι id := (T3.ι_eq id k1).trans hι
  obtain ⟨j1, j2, j3, r'', j4, j5, j6, j7, j8, j9, j10, j11⟩ := r2.h.obj id _ ho2
  have j4' : w2.heap[G.ι id]? = some (.loop r'') := by rw [← hι2]; exact j4
  obtain ⟨T4, R4⟩ := loop_turn (n := s2.h.n) (m := s2.h.m) (T := s2.h.toks) (f := s2.h.objs) r2.h ho2 j4 st pend
  rw [hι2] at T4 R4
  have Tall := ((T1.trans R r1.h T2).trans R R2 T3).trans R r2.h T4
  cases hre
  all_goals
    cases e' <;> simp only [AExit.says] at q1
    try subst q1
    have hend := fun j => run_endRound (P := P) j j4'
    refine ⟨_, _, hend _, _, G2, rfl, Tall, R4, ?_⟩
    simp only [VRel, Option.isNone_none, Option.isNone_some]
theorem code_rfun {code : Code} {g : Opd} {ps : List Nat} {x y : AC} (h : cCode P N code = some (.rfun g ps x y)) : ∃ z qs a b, code = .rangeFunc z qs a b ∧ opd P 0 z = some g ∧ qs.toList = ps ∧ cCode P N a = some x ∧ cCode P N b = some y ∧ noRF a = true ∧ noRF b = true := by
  cases code with
  | rangeFunc z qs a b =>
    simp only [cCode] at h
    split at h
    · rename_i g' x' y' h1 h2 h3
      split at h
      · rename_i hcc
        cases h
        have hcc' : noRF a = true ∧ noRF b = true := by simpa using hcc
        exact ⟨_, _, _, _, rfl, h1, rfl, h2, h3, hcc'.1, hcc'.2⟩
      · cases h
    · cases h
  | _ =>
    simp only [cCode] at h
    first | (simp at h; done) | (cases h; done) | ((repeat' split at h) <;> cases h; done)
inductive LoopEnd : Option Code → AExit → Prop where
  | none : LoopEnd none .normal
  | ret : LoopEnd (some .ret) .ret
  | exit (i : Nat) : LoopEnd (some (.exit i)) (.exit i)
  | goto (l : Nat) : LoopEnd (some (.goto l)) (.goto l)
theorem Wp.rfun {g : Opd} {ps : List Nat} {x y : AC} {t : Tm} {f : Objs} {n m : Nat} {T : List Nat} {Q : AExit → St → Prop} {fi : FuncId} {fn : Func} {first caps : List AV} (hg : ev t g = .clo (.func fi) first caps) (hf : P.funcs[fi]? = some fn) (hfb : fn.body.isSome = true) (hfn : fn.name ≠ "runtime.NumGoroutine")
    (hfresh : f n = none)
    (hw : ∀ asg body, cCode P N asg = some x → cCode P N body = some y → noRF asg = true → noRF body = true → ∃ r f2 n2 T2 m2 t2 st pend e,
      ACalls P fi (first ++ [.yld n] ++ caps) ⟨upd f n (some (.loop N t ps asg body .ready none)), n + 1, T, m⟩ r ⟨f2, n2, T2, m2⟩ ∧ n + 1 ≤ n2 ∧ m ≤ m2 ∧ f2 n = some (.loop N t2 ps asg body st pend) ∧ st ≠ .busy ∧ LoopEnd pend e ∧
      Q e ⟨t, ⟨fun j => if j = n then none else f2 j, n2, T2, m2⟩⟩) : Wp P N (.rfun g ps x y) ⟨t, ⟨f, n, T, m⟩⟩ Q := by
  intro code hc
  obtain ⟨z, qs, asg, body, rfl, c1, c2, c3, c4, c5, c6⟩ := code_rfun hc
  obtain ⟨r, f2, n2, T2, m2, t2, st, pend, e, hcall, hn2, hm2, ho2, hst, hle, hq⟩ := hw asg body c3 c4 c5 c6
  refine ⟨e, _, ⟨⟨by simp only; omega, by simp only; omega⟩, fun ro okc G w a rel F => ?_⟩, hq⟩
  obtain rfl : ro = none := by
    rcases okc with h | h
    · exact h
    · simp [noRF] at h
  have hz : VRel G w (.clo (.func fi) first caps) (a.eval z) := by rw [← hg]; exact opd_rel c1 rel.t
  simp only [VRel] at hz
  obtain ⟨vs, us, hz, hv1, hv2⟩ := hz
  refine wpIn_rangeFunc (F := rd none) (n := 0) fun fid _ => ?_
  let D := w.heap.size
  let rec0 : Loop := { state := .ready, pending := none, fn := fid, tmps := a.tmps, params := qs, assign := asg, body := body, defers := w.heap.size }
  let w1 := (w.alloc (.deferred (some []))).alloc (.loop rec0)
  have hD1 : w1.heap[D]? = some (.deferred (some [])) := by
    show ((w.heap.push (.deferred (some []))).push (.loop rec0))[w.heap.size]? = _
    rw [Array.getElem?_push, if_neg (by simp), Array.getElem?_push, if_pos rfl]
  have hL1 : w1.heap[D + 1]? = some (.loop rec0) := by
    show ((w.heap.push (.deferred (some []))).push (.loop rec0))[w.heap.size + 1]? = _
    rw [Array.getElem?_push, if_pos (by simp)]
  have hsz1 : w1.heap.size = w.heap.size + 2 := by show ((w.heap.push (.deferred (some []))).push (.loop rec0)).size = _; simp
  have hold : ∀ B, B < w.heap.size → w1.heap[B]? = w.heap[B]? := by
    intro B hB
    show ((w.heap.push (.deferred (some []))).push (.loop rec0))[B]? = _
    rw [Array.getElem?_push, if_neg (by rw [Array.size_push]; omega), Array.getElem?_push, if_neg (by omega)]
  have hndom : ¬ G.dom n := F.1 n (Nat.le_refl _) (by simp only; omega)
  let G1 : Ghost := { G with dom := fun j => G.dom j ∨ j = n, ι := upd G.ι n (D + 1), own := fun B => G.own B ∨ B = D + 1 }
  have hι1 : ∀ j, G.dom j → G1.ι j = G.ι j := fun j hj => by
    simp only [G1, upd]; rw [if_neg]; rintro rfl; exact hndom hj
  have hιn : G1.ι n = D + 1 := by simp [G1, upd]
  have hne : ∀ j o, f j = some o → j ≠ n := fun j o h e => by subst e; rw [hfresh] at h; cases h
  have hO : ∀ B, B < w.heap.size → H.O ⟨upd f n (some (.loop N t ps asg body .ready none)), n + 1, T, m⟩ G1 B → H.O ⟨f, n, T, m⟩ G B := by
    rintro B hB ⟨j, o, h1, h2⟩
    by_cases e' : j = n
    · subst e'; rw [hιn] at h2; omega
    · have h1' : f j = some o := by simpa [upd, e'] using h1
      exact ⟨j, o, h1', by rw [← hι1 j (rel.h.obj j o h1').1]; exact h2⟩
  have Tr1 : Trans G w ⟨f, n, T, m⟩ G1 w1 ⟨upd f n (some (.loop N t ps asg body .ready none)), n + 1, T, m⟩ := by
    constructor
    · exact fun _ x => .inl x
    · rintro j (h | rfl)
      · exact .inl h
      · exact .inr ⟨Nat.le_refl _, Nat.lt_succ_self _⟩
    · exact hι1
    · exact fun _ x => x
    · exact fun _ => .inl
    · exact fun _ _ => rfl
    · exact Nat.le_succ _
    · exact Nat.le_refl _
    · rw [hsz1]; omega
    · rfl
    · rfl
    · intro B hB; rw [hold B hB]; exact SameForm.refl _
    · exact fun B hB _ _ => hold B hB
    · intro B hB _
      exact ⟨fun h => h.resolve_right (by omega), .inl⟩
    · exact fun _ _ _ _ => rfl
    · intro B hB h1 h2 e' he'
      refine ⟨fun j hj => ?_, fun e'' he'' => ?_⟩
      · have := hold B hB
        unfold World.cell?
        simp only [this]
      · have he2 : G.lim B = some e'' := he''
        rw [he'] at he2; cases he2; exact Nat.le_refl _
    · exact hO
    · exact fun _ _ h => h
    · intro j o h
      by_cases e' : j = n
      · subst e'; exact .inr ⟨Nat.le_refl _, Nat.lt_succ_self _⟩
      · exact .inl ⟨o, by simpa [upd, e'] using h⟩
    · exact fun _ => .inl
  have R1 : RepH G1 ⟨upd f n (some (.loop N t ps asg body .ready none)), n + 1, T, m⟩ w1 := by
    refine ⟨fun j o h => ?_, fun i j o o' h1 h2 h3 => ?_, fun k hk => ⟨(rel.h.tok k hk).1, fun B e' he' => ?_⟩, rel.h.tinj⟩
    · by_cases e' : j = n
      · subst e'
        have : o = .loop N t ps asg body .ready none := by simpa [upd] using h.symm
        subst this
        refine ⟨.inr rfl, by rw [hιn]; exact .inr rfl, by rw [hιn, hsz1]; show w.heap.size + 1 < _; omega, rec0, by rw [hιn]; exact hL1, rel.size, fun i => VRel.mono rel.h Tr1 _ _ (rel.t i), c2, rfl, rfl, rfl, rfl⟩
      · have h' : f j = some o := by simpa [upd, e'] using h
        obtain ⟨a1, a2, a3, a4⟩ := rel.h.obj j o h'
        refine ⟨.inl a1, by rw [hι1 j a1]; exact .inl a2, by rw [hι1 j a1, hsz1]; omega, ?_⟩
        rw [hι1 j a1, hold _ a3]
        exact a4.mono rel.h Tr1
    · have low : ∀ k p, f k = some p → G1.ι k < w.heap.size := fun k p hk => by rw [hι1 k (rel.h.obj k p hk).1]; exact (rel.h.obj k p hk).2.2.1
      by_cases e1 : i = n
      · by_cases e2 : j = n
        · rw [e1, e2]
        · have := low j o' (by simpa [upd, e2] using h2)
          rw [← h3, e1, hιn] at this
          omega
      · have hi : f i = some o := by simpa [upd, e1] using h1
        by_cases e2 : j = n
        · have := low i o hi
          rw [h3, e2, hιn] at this
          omega
        · have hj : f j = some o' := by simpa [upd, e2] using h2
          exact rel.h.inj i j o o' hi hj (by rw [← hι1 i (rel.h.obj i o hi).1, ← hι1 j (rel.h.obj j o' hj).1]; exact h3)
    · obtain ⟨b1, b2, b3⟩ := (rel.h.tok k hk).2 B e' he'
      refine ⟨b1, ?_, by rw [hsz1]; omega⟩
      rintro (h | h)
      · exact b2 h
      · omega
  have F1 : Fresh G1 ⟨upd f n (some (.loop N t ps asg body .ready none)), n + 1, T, m⟩ ⟨f2, n2, T2, m2⟩ := F.step Tr1
  have hargs : VRels G1 w1 (first ++ [.yld n] ++ caps) (vs ++ [Value.func (.yield (D + 1)) #[] #[]] ++ us) := by
    refine VRels.append (VRels.append (VRels.mono rel.h Tr1 _ _ hv1) ?_) (VRels.mono rel.h Tr1 _ _ hv2)
    simp only [VRels, VRel]
    exact ⟨_, [], rfl, ⟨.inr rfl, by rw [hιn]⟩, rfl⟩
  refine ⟨D + 1, [{ target := .collected D, args := #[] }], w1, { target := .fn (.func fi) us.toArray, args := vs.toArray ++ #[Value.func (.yield (D + 1)) #[] #[]] }, w1, fi, (vs ++ [Value.func (.yield (D + 1)) #[] #[]] ++ us).toArray, w1, ?_, ?_, fun _ _ => trivial, ?_, fun h => by simp [rd, Fence.wide] at h, callsIn_rd ?_⟩
  · exact run_enterLoop_outer fid a.tmps qs asg body
  · have he : ∀ v, a.eval (.const v) = v := fun _ => rfl
    simp [resolve, rangeCall, hz, Deferred.ofValue, he]
  · simp [invoke, run_callFunc w1 hf hfb hfn]
  · refine (hcall G1 w1 _ hargs R1 F1).mono ?_
    rintro e' w3 ⟨v, G3, rfl, T3, R3, V3⟩
    obtain ⟨b1, b2, b3, ⟨st3, pend3, fn3, tmps3, params3, asg3, body3, df3⟩, b4, b5, b6, b7, b8, b9, b10, b11⟩ := R3.obj n _ ho2
    simp only at b10 b11
    subst b11
    have hι3 : G3.ι n = D + 1 := (T3.ι_eq n (.inr rfl)).trans hιn
    rw [hι3] at b3 b4
    have hDO1 : ¬ H.O ⟨upd f n (some (.loop N t ps asg body .ready none)), n + 1, T, m⟩ G1 D := by
      rintro ⟨j, o, h1, h2⟩
      by_cases e' : j = n
      · subst e'; rw [hιn] at h2; omega
      · have h1' : f j = some o := by simpa [upd, e'] using h1
        have := (rel.h.obj j o h1').2.2.1
        rw [hι1 j (rel.h.obj j o h1').1] at h2
        omega
    have hDT1 : ¬ H.T ⟨upd f n (some (.loop N t ps asg body .ready none)), n + 1, T, m⟩ G1 D := by
      rintro ⟨k, hk, e', he'⟩
      have := ((rel.h.tok k hk).2 D e' he').2.2
      omega
    have hDlt : D < w1.heap.size := by rw [hsz1]; show w.heap.size < _; omega
    have hD3 : w3.heap[D]? = some (.deferred (some [])) := (T3.keep D hDlt hDO1 hDT1).trans hD1
    have hDO3 : ¬ H.O ⟨f2, n2, T2, m2⟩ G3 D := fun h => hDO1 (T3.O_new D hDlt h)
    have hDT3 : ¬ H.T ⟨f2, n2, T2, m2⟩ G3 D := fun h => hDT1 (T3.T_new D hDlt h)
    refine ⟨pend3, _, run_endLoop b4 (by simp only; rw [b10]; exact hst), ?_⟩
    let w4 := w3.putObj (D + 1) (.loop ⟨.exhausted, pend3, fn3, tmps3, params3, asg3, body3, df3⟩)
    have tu : Turned (D + 1) w3 w4 := ⟨by simp [w4], fun B hB => World.putObj_heap_other hB, fun c T fr e => absurd (b4.symm.trans e) (by simp), rfl, rfl⟩
    have hle3 : HLe ⟨f2, n2, T2, m2⟩ ⟨fun j => if j = n then none else f2 j, n2, T2, m2⟩ := by
      refine ⟨fun j o' hj => ?_, fun t h => h⟩
      simp only at hj
      split at hj
      · cases hj
      · exact ⟨o', hj, OSub.refl _⟩
    have T03 : Trans G w ⟨f, n, T, m⟩ G3 w3 ⟨fun j => if j = n then none else f2 j, n2, T2, m2⟩ := (Tr1.trans rel.h R1 T3).trans rel.h R3 (Trans.le hle3 (Nat.le_refl _) (Nat.le_refl _))
    have R03 := R3.le hle3
    have hLO : ¬ H.O ⟨fun j => if j = n then none else f2 j, n2, T2, m2⟩ G3 (D + 1) := by
      rintro ⟨j, o, h1, h2⟩
      simp only at h1
      split at h1
      · cases h1
      · rename_i hjn
        exact hjn (R3.inj j n o _ h1 ho2 (by rw [h2, hι3]))
    have T04 := T03.turn tu (by show w.heap.size ≤ w.heap.size + 1; omega)
    have R04 := R03.turn tu hLO
    have hD4 : w4.heap[D]? = some (.deferred (some [])) := by rw [tu.same D (by omega)]; exact hD3
    have relEnd : Rel N ⟨t, ⟨fun j => if j = n then none else f2 j, n2, T2, m2⟩⟩ G3 w4 { a with defers := [({ target := .collected D, args := #[] } : Deferred)] ++ a.defers } := by
      refine ⟨rel.size, fun i => VRel.turn tu _ _ (VRel.mono rel.h T03 _ _ (rel.t i)), R04, ?_, ?_⟩
      · show ([({ target := .collected D, args := #[] } : Deferred)] ++ a.defers).Nodup
        rw [List.singleton_append, List.nodup_cons]
        refine ⟨fun hm => ?_, rel.df.1⟩
        obtain ⟨D', e', h1, -⟩ := rel.df.2 _ hm
        simp only [Deferred.mk.injEq, Target.collected.injEq, and_true] at e'
        have := heap_lt h1
        rw [← e'] at this
        exact absurd this (Nat.lt_irrefl _)
      · intro d hd
        rcases List.mem_append.1 hd with hd | hd
        · rw [List.mem_singleton.1 hd]
          exact ⟨D, rfl, hD4, fun ⟨j, o, h1, h2⟩ => by
            simp only at h1
            split at h1
            · cases h1
            · exact hDO3 ⟨j, o, h1, h2⟩, hDT3⟩
        · exact (rel.df.mono T04).2 d hd
    have hnew : NewM w a.defers ([({ target := .collected D, args := #[] } : Deferred)] ++ a.defers) := by
      intro d hd
      rcases List.mem_append.1 hd with hd | hd
      · rw [List.mem_singleton.1 hd]; exact .inr ⟨D, Nat.le_refl _, rfl⟩
      · exact .inl hd
    cases hle with
    | none => exact ⟨trivial, hnew, G3, T04, relEnd⟩
    | ret => exact wpIn_ret ⟨trivial, hnew, G3, T04, relEnd⟩
    | exit i => exact wpIn_exit ⟨rfl, hnew, G3, T04, relEnd⟩
    | goto l => exact wpIn_goto ⟨rfl, hnew, G3, T04, relEnd⟩
end
end Go.Av
end
section
set_option linter.unusedVariables false
set_option linter.unusedSimpArgs false
namespace Go.Av
section
variable {P : Program} {N : Nat} {o : Oper} {t : Tm} {h : H} {en : Ent} {G : Ghost} {w : World}
theorem new_tslC {w' : World} {cs : List AV} {vs rest : List Value} {T : TypeId} {n m sz len C : Nat} (hp : Pushed w w' (.cells (vs ++ rest).toArray T (0, 0))) (hr : VRels G w cs vs) (h1 : ∀ v ∈ vs, One v) (hf : ¬ G.dom n) (hC : len ≤ C ∧ C ≤ 9223372036854775807) (hroom : C * sz ≤ vs.length + rest.length) :
    ∃ G', Trans G w (.only none' [] n m) G' w' (.only (upd none' n (some (.cells cs))) [] (n + 1) m) ∧ RepH G' (.only (upd none' n (some (.cells cs))) [] (n + 1) m) w' ∧ VRel G' w' (.tsl sz n 0 len (some C)) (.slice (some ⟨w.heap.size, 0, none⟩) len C) := by
  obtain ⟨G', T1, R1, V⟩ := new_objR (n := n) (m := m) hp hr h1 hf
  refine ⟨G', T1, R1, ?_⟩
  simp only [VRel] at V
  obtain ⟨hd, hv⟩ := V
  simp only [Value.pointer.injEq, Option.some.injEq, Addr.mk.injEq, and_true] at hv
  unfold VRel
  refine ⟨hd, .inl ⟨C, (vs ++ rest).toArray, T, (0, 0), by rw [hv], hC, (fun _ h => by cases h; rfl), ?_, by simpa using hroom⟩⟩
  rw [← hv]; exact hp.new
theorem buildSlC_loc {ty e : TypeId} {len : Nat} {parts : Array (Nat × Operand)} {ys : List Opd} {z : Value} (hop : o.op = .buildSlice ty len parts) (hu : P.underlying ty = some (.slice e)) (hi : (P.info? e).isSome = true) (hn : parts.size = len) (hpos : 0 < P.cellsOf e)
    (hz : (P.info? e).bind (·.zero) = some z) (hzs : z.cells.size = P.cellsOf e)
    (hys : elemsOf P e 0 parts.toList = some ys) (hs : ∀ y ∈ ys, (cellsOf (ev t y)).length = P.cellsOf e ∧ shaped (ev t y) = true) (hle : ys.length * P.cellsOf e ≤ 16777216) :
    Loc P o t h (.tsl (P.cellsOf e) h.n 0 ys.length (some ys.length)) { h with objs := upd h.objs h.n (some (.cells ((ys.map (ev t)).flatMap cellsOf))), n := h.n + 1 } ⟨[], [h.n], []⟩ := by
  refine ⟨_, _, touch_new h _, fun G w a ht R F => ?_⟩
  obtain ⟨r1, r2, r3⟩ := opdVals_rel ht hys
  simp only [Array.length_toList, hn] at r2 r3
  have hsz : ∀ v ∈ parts.toList.map (fun p => a.eval p.2), v.cells.size = P.cellsOf e ∧ ∀ u ∈ v.cells.toList, One u := by
    intro v hv
    obtain ⟨k, hk⟩ := List.getElem?_of_mem hv
    have hlt : k < (parts.toList.map (fun p => a.eval p.2)).length := by
      rcases Nat.lt_or_ge k (parts.toList.map (fun p => a.eval p.2)).length with h | h
      · exact h
      · rw [List.getElem?_eq_none h] at hk; cases hk
    have hlt' : k < ys.length := by simp at hlt; omega
    obtain ⟨u, hu1, hu2⟩ := r1.get (i := k) (x := ev t ys[k]) (by simp [List.getElem?_eq_getElem hlt'])
    have e : u = v := Option.some.inj (hu1.symm.trans hk)
    subst e
    obtain ⟨s1, s2⟩ := hs ys[k] (List.getElem_mem hlt')
    obtain ⟨c1, c2⟩ := shaped_cells hu2 s2
    have := c1.length
    exact ⟨by simpa [s1] using this, cells_one c1 c2⟩
  generalize hV : parts.toList.map (fun p => a.eval p.2) = vals at *
  have hvl : vals.length = len := by rw [← hV]; simp [hn]
  have he := elems_of_rels r1 fun v hv => (hsz v hv).1
  have hfl : (vals.flatMap (·.cells.toList)).length = len * P.cellsOf e := by
    have := he.length; rw [this]; simp [r3]
  have hfill : ∀ cells : Array Value, cells.size = len * P.cellsOf e → Instr.fill (fun i => some (i * P.cellsOf e, P.cellsOf e)) cells ((parts.map fun (i, x) => (i, a.eval x)).toList) = some (vals.flatMap (·.cells.toList)).toArray := by
    intro cells hc
    have hz : (parts.map fun (i, x) => (i, a.eval x)).toList = (List.range' 0 vals.length).zip vals := by
      have : ∀ l : List (Nat × Operand), l.map (fun (i, x) => (i, a.eval x)) = (l.map (·.1)).zip (l.map fun p => a.eval p.2) := by
        intro l; induction l with
        | nil => rfl
        | cons p l ih => simp [ih]
      rw [Array.toList_map, this, r2, hV, hvl]
    rw [hz]
    have := fill_elems (sz := P.cellsOf e) (cells := cells) vals 0 [] cells (by simp) (by simp) (by rw [hc, hvl]; simp) (fun v hv => (hsz v hv).1)
    simpa using this
  have hle' : ¬ (len * P.cellsOf e > 16777216) := by rw [← r3]; omega
  obtain ⟨G', T1, R1, V⟩ := new_tslC (m := h.m) (sz := P.cellsOf e) (len := len) (C := len) (rest := []) (vs := vals.flatMap fun v : Value => v.cells.toList) (pushed_alloc w (.cells ((vals.flatMap fun v : Value => v.cells.toList) ++ []).toArray e (0, 0))) (rels_of_elems he (by
    rw [List.all_map]
    exact List.all_eq_true.2 fun y hy => (hs y hy).2)) (by
    intro u hu
    obtain ⟨v, hv, hu'⟩ := List.mem_flatMap.1 hu
    exact (hsz v hv).2 u hu') (fresh_n F (by simp [H.only])) ⟨Nat.le_refl _, by
    have := Nat.le_mul_of_pos_right len hpos
    omega⟩ (by rw [hfl]; simp)
  rw [List.append_nil] at T1 R1 V
  refine ⟨.value (.slice (some ⟨w.heap.size, 0, none⟩) len len), _, _, G', ?_, .inl rfl, T1, R1, by rw [r3]; exact V⟩
  obtain ⟨i, hi1, hi2⟩ := Option.bind_eq_some_iff.1 hz
  have hle2 : ¬ (16777216 < len * P.cellsOf e) := by omega
  have hmap : ∀ (zc : Array Value), ((Array.range (len * P.cellsOf e)).map (zc[· % zc.size]!)).size = len * P.cellsOf e := by intro zc; simp
  have hrz : (zeroValue e).run P w = .ok z w := by simp [zeroValue, typeInfo, hi1, hi2]
  simp only [execOp, hop, Sem.run_bind, Instr.buildSlice, run_underlying hu, Result.andThen_ok, run_size P w e hi, if_neg hle2, Sem.run_pure, Sem.run_ite, hrz, hfill _ (hmap _)]
  by_cases h0 : len * P.cellsOf e = 0
  · rw [if_pos h0]; simp [newRow]
  · rw [if_neg h0]; simp [newRow]
theorem freeze_at {w : World} {B : Nat} {c : Array Value} {T : TypeId} {fr : Nat × Nat} (h : w.heap[B]? = some (.cells c T fr)) (hfr : fr.1 = fr.2) (k : Nat) :
    (w.freeze ⟨B, k, none⟩ 1).heap[B]? = some (.cells c T (k, k + 1)) ∧ (∀ b, b ≠ B → (w.freeze ⟨B, k, none⟩ 1).heap[b]? = w.heap[b]?) ∧ (w.freeze ⟨B, k, none⟩ 1).heap.size = w.heap.size ∧ (w.freeze ⟨B, k, none⟩ 1).os = w.os ∧ (w.freeze ⟨B, k, none⟩ 1).output = w.output := by
  obtain ⟨lo, hi⟩ := fr
  simp only at hfr
  subst hfr
  have hB : B < w.heap.size := (Array.getElem?_eq_some_iff.1 h).1
  refine ⟨?_, fun b hb => ?_, ?_, rfl, rfl⟩
  · simp [World.freeze, Array.getElem?_modify, h]
  · simp [World.freeze, Array.getElem?_modify, Ne.symm hb]
  · simp [World.freeze]
theorem s2s_loc {ty e : TypeId} {z : Operand} {y : Opd} {id k : Nat} {cs : List AV} (hop : o.op = .convert ty ty z) (hu : P.underlying ty = some (.slice e)) (he : P.underlying e = some (.int .u8)) (hy : opd P ty z = some y)
    (hx : ev t y = .tsl 1 id 0 cs.length (some k)) (ho : h.objs id = some (.cells cs)) (hl : 0 < cs.length) : Loc P o t h (.sl 1 cs (.exact k)) { h with objs := fun j => if j = id then none else h.objs j } ⟨[], [id], []⟩ := by
  refine ⟨_, _, touch_drop h ho, fun G w a ht R F => ?_⟩
  have r := opd_rel hy ht
  rw [hx] at r
  simp only [VRel] at r
  obtain ⟨hd, ⟨C, c, T1, fr1, hv, ⟨hC, -⟩, hk, hg1, hroom⟩ | ⟨h0, -⟩⟩ := r
  · have hCk := hk k rfl
    have hob : (H.only (upd none' id (some (.cells cs))) [] h.n h.m).objs id = some (.cells cs) := by simp [H.only, upd]
    obtain ⟨q1, q2, q3, vs, rest, T, fr, y1, y2, y3, y4⟩ := R.obj id _ hob
    have hlen := VRels.length y2
    obtain ⟨f1, f2, f3, f4, f5⟩ := freeze_at y1 y3 (vs ++ rest).toArray.size
    generalize hB : G.ι id = B at *
    generalize hw' : w.freeze ⟨B, (vs ++ rest).toArray.size, none⟩ 1 = w' at *
    let G' : Ghost := { G with own := fun b => G.own b ∧ b ≠ B, lim := fun b => if b = B then none else G.lim b }
    have hO : (H.only (upd none' id (some (.cells cs))) [] h.n h.m).O G B := ⟨id, _, hob, hB⟩
    have hne : ∀ b, ¬ (H.only (upd none' id (some (.cells cs))) [] h.n h.m).O G b → b ≠ B := fun b h1 e => h1 (e ▸ hO)
    have T1' : Trans G w (.only (upd none' id (some (.cells cs))) [] h.n h.m) G' w' (H0 h.n h.m) := by
      constructor
      · exact fun _ x => x
      · exact fun _ => .inl
      · exact fun _ _ => rfl
      · exact fun _ x => x
      · exact fun _ => .inl
      · exact fun _ _ => rfl
      · exact Nat.le_refl _
      · exact Nat.le_refl _
      · rw [f3]; exact Nat.le_refl _
      · exact f4
      · exact f5
      · intro b hb
        by_cases e : b = B
        · subst e
          rw [y1, f1]
          exact ⟨_, _, rfl, rfl, fun j hj h1 => by simp only at h1; omega⟩
        · rw [f2 b e]; exact SameForm.refl _
      · exact fun b hb h1 _ => f2 b (hne b h1)
      · exact fun b hb h1 => ⟨fun x => x.1, fun x => ⟨x, hne b h1⟩⟩
      · intro b hb h1 _
        show (if b = B then none else G.lim b) = _
        rw [if_neg (hne b h1)]
      · exact fun b hb x => absurd x (only_T0 b)
      · exact fun b _ x => absurd x (only_O b)
      · exact fun b _ x => absurd x (only_T0 b)
      · exact fun j o x => by simp [H0, H.only, none'] at x
      · exact fun t x => by simp [H0, H.only] at x
    have hvs := VRels.mono R T1' _ _ y2
    have hel := elems_of_rels (sz := 1) hvs (fun v hv => by rw [one_cells (y4 v hv)]; rfl)
    have hfl : vs.flatMap (·.cells.toList) = vs := by
      have : ∀ l : List Value, (∀ v ∈ l, One v) → l.flatMap (·.cells.toList) = l := by
        intro l
        induction l with
        | nil => intro _; rfl
        | cons x l ih => intro hl; rw [List.flatMap_cons, one_cells (hl x (by simp)), ih (fun v hv => hl v (by simp [hv]))]; rfl
      exact this _ y4
    rw [hfl] at hel
    refine ⟨.value (a.eval z), _, w', G', ?_, .inl rfl, T1', only_rep, ?_⟩
    · rw [hv]
      have hbeq : (ty == ty) = true := by simp
      have hsh : w.shape? B = some (T, (vs ++ rest).toArray.size) := by simp [World.shape?, y1]
      simp only [execOp, hop, hv, convert, Sem.run_bind, run_underlying hu, Result.andThen_ok, hbeq, run_underlying he, markStringish, run_shape, hsh, run_freeze, hw', Sem.run_pure]
    · rw [hv]
      unfold VRel
      refine .inr ⟨B, 0, C, vs, rfl, hC, by omega, hel, fun i v hi => ?_, hCk⟩
      have hi' := (List.getElem?_eq_some_iff.1 hi).1
      refine ⟨?_, y4 v (List.mem_of_getElem? hi), fun x => x.2 rfl, fun e he' => by simp [G'] at he'⟩
      unfold World.cell?
      simp only [f1]
      simp [List.getElem?_append_left hi', hi]
  · omega
def aopV (ρ : Opd → AV) (h : H) : AOp → Option (AV × H × Ent)
  | .buildSl sz parts => if parts.all (fun x => (cellsOf (ρ x)).length = sz ∧ shaped (ρ x)) = true ∧ parts.length * sz ≤ 16777216 then
      some (.tsl sz h.n 0 parts.length (some parts.length), { h with objs := upd h.objs h.n (some (.cells ((parts.map ρ).flatMap cellsOf))), n := h.n + 1 }, ⟨[], [h.n], []⟩) else none
  | .conv .s2s x => match ρ x with
    | .tsl 1 id 0 len (some k) => match h.objs id with
      | some (.cells cs) => if len = cs.length ∧ 0 < cs.length then some (.sl 1 cs (.exact k), { h with objs := fun j => if j = id then none else h.objs j }, ⟨[], [id], []⟩) else none
      | _ => none
    | _ => none
  | _ => none
theorem cOp_s2s {y : Opd} (h : cOp P o = some (.conv .s2s y)) : ∃ ty e z, o.op = .convert ty ty z ∧ P.underlying ty = some (.slice e) ∧ P.underlying e = some (.int .u8) ∧ opd P ty z = some y := by
  unfold cOp at h
  split at h
  case h_12 src dst z hop =>
    split at h
    · cases h
    · split at h <;> cases h
    · split at h <;> cases h
    · cases h
    · split at h
      · rename_i hq
        cases h
        obtain ⟨rfl, hq, -⟩ := hq
        exact ⟨_, _, z, hop, ‹_›, isU8_eq hq, ‹_›⟩
      · cases h
    · cases h
  all_goals first
    | (cases h; done)
    | (simp at h; done)
    | ((repeat' split at h) <;> (try cases h) <;> (try simp at h) ; done)
    | skip
theorem aopV_loc {op : AOp} {x : AV} {h' : H} (hc : cOp P o = some op) (hx : aopV (ev t) h op = some (x, h', en)) : Loc P o t h x h' en := by
  cases op <;> (try (simp [aopV] at hx; done))
  case buildSl sz parts =>
    obtain ⟨ty, e, len, ps, z, hop, hu, hi, hn, hpos, hz, hzs, hys, rfl⟩ := cOp_buildSl hc
    simp only [aopV] at hx
    split at hx
    · rename_i hq
      cases hx
      exact buildSlC_loc hop hu hi hn hpos hz hzs hys (fun y hy => by simpa using List.all_eq_true.1 hq.1 y hy) hq.2
    · cases hx
  case conv k x0 =>
    cases k <;> (try (simp [aopV] at hx; done))
    obtain ⟨ty, e, z, hop, hu, he, hy⟩ := cOp_s2s hc
    simp only [aopV] at hx
    split at hx
    · rename_i e1
      split at hx
      · rename_i e2
        split at hx
        · rename_i hq
          obtain ⟨rfl, hq⟩ := hq
          cases hx
          exact s2s_loc hop hu he hy e1 e2 hq
        · cases hx
      · cases hx
    · cases hx
theorem aopV_congr {ρ ρ' : Opd → AV} {op : AOp} (hx : ∀ y ∈ opdsOf op, ρ y = ρ' y) : aopV ρ h op = aopV ρ' h op := by
  cases op <;> (try rfl)
  case buildSl sz parts =>
    have e1 : parts.map ρ = parts.map ρ' := List.map_congr_left fun y hy => hx y (by simpa [opdsOf] using hy)
    have e2 : parts.all (fun x => (cellsOf (ρ x)).length = sz ∧ shaped (ρ x)) = parts.all (fun x => (cellsOf (ρ' x)).length = sz ∧ shaped (ρ' x)) := by
      refine Bool.eq_iff_iff.2 ?_
      simp only [List.all_eq_true]
      exact ⟨fun h y hy => by rw [← hx y (by simpa [opdsOf] using hy)]; exact h y hy, fun h y hy => by rw [hx y (by simpa [opdsOf] using hy)]; exact h y hy⟩
    simp only [aopV, e1, e2]
  case conv k x0 =>
    cases k <;> (try rfl)
    simp only [aopV, hx x0 (by simp [opdsOf])]
theorem itrun_opV {ops : Array Oper} {i : Nat} {o : Oper} {it : AItem} {t : Tm} {h h' : H} {x : AV} {en : Ent} (ho : ops[i]? = some o) (hit : cItem P N ops o = some it) (hg : guardOf t it.guard = some true) (hx : aopV (ev t) h it.op = some (x, h', en)) :
    ∃ h1 h1', Touch h h1 h1' h' en ∧ ItRun P ops i o t h1 x h1' := by
  unfold cItem at hit
  split at hit
  · rename_i op g hop hgd
    split at hit <;> cases hit
    rename_i hcond
    simp only [Bool.and_eq_true] at hcond
    have hop := cOpD_of hop (by rintro rfl; simp [aopV] at hx) (by cases op <;> first | rfl | (simp [aopV] at hx))
    have hx' : aopV (ev (cutTo (names ops o) t)) h op = some (x, h', en) := by
      rw [aopV_congr (cut_ev hcond.2)]; exact hx
    obtain ⟨h1, h1', tc, loc⟩ := aopV_loc hop hx'
    refine ⟨h1, h1', tc, fun G w a ht R F K Q hK ro => ?_⟩
    obtain ⟨nx, v, w', G', e1, e2, T1, R1, V⟩ := loc G w a (cut_rel ht) R F
    unfold wpOpIn
    rw [ho]
    simp only [guard_wanted hgd ht hg, if_true]
    refine ⟨fun _ _ => trivial, ?_⟩
    rw [Oper.semAt_eq _ _ _ (cOp_plain hop), e1]
    rcases e2 with rfl | ⟨rfl, rfl⟩
    · rw [Oper.uponIn_value]; exact hK G' w' v T1 R1 V
    · rw [Oper.uponIn_skip]; exact hK G' w' undef T1 R1 V
  · cases hit
end
end Go.Av
end
section
set_option linter.unusedVariables false
set_option linter.unusedSimpArgs false
namespace Go.Av
section
variable {P : Program} {N : Nat} {o : Oper} {t : Tm} {h : H} {en : Ent} {G : Ghost} {w : World}
theorem only1 {id n m : Nat} {c : Obj} {j : Nat} {o : Obj} (ho : (H.only (upd none' id (some c)) [] n m).objs j = some o) : j = id ∧ o = c := by
  simp only [H.only, upd, none'] at ho
  split at ho
  · cases ho; exact ⟨‹_›, rfl⟩
  · cases ho
theorem store_tail {id n m : Nat} {cs xs : List AV} {us : List Value} (R : RepH G (.only (upd none' id (some (.cells cs))) [] n m) w) (hn : ¬ G.dom n) (hr : VRels G w xs us) (h1 : ∀ v ∈ us, One v)
    {c : Array Value} {T0 : TypeId} {fr0 : Nat × Nat} (hc0 : w.heap[G.ι id]? = some (.cells c T0 fr0)) (hl : cs.length + xs.length ≤ c.size) :
    ∃ w' G', (storeCells ⟨G.ι id, cs.length, none⟩ us 0).run P w = .ok () w' ∧ Trans G w (.only (upd none' id (some (.cells cs))) [] n m) G' w' (.only (upd none' n (some (.cells (cs ++ xs)))) [] (n + 1) m) ∧ RepH G' (.only (upd none' n (some (.cells (cs ++ xs)))) [] (n + 1) m) w' ∧
      G'.dom n ∧ G'.ι n = G.ι id ∧ ∃ c' T' fr', w'.heap[G.ι id]? = some (.cells c' T' fr') ∧ c'.size = c.size := by
  have hme : (H.only (upd none' id (some (.cells cs))) [] n m).objs id = some (.cells cs) := by simp [H.only, upd]
  obtain ⟨d1, d2, d3, -⟩ := R.obj id _ hme
  obtain ⟨vs, rest, T, fr, hg, hvs, hfr, hone⟩ := obj_cells R hme
  have hlen := hvs.length
  have hul := hr.length
  have hcs : c.size = vs.length + rest.length := by
    rw [hg] at hc0
    cases hc0
    simp
  have hc : ∀ j, w.cell? ⟨G.ι id, j, none⟩ = (vs ++ rest)[j]? := by
    intro j; unfold World.cell?; simp only [hg]; simp
  have hcell : ∀ j, j < us.length → (w.cell? ⟨G.ι id, cs.length + 0 + j, none⟩).isSome = true := fun j hj => by rw [hc]; simp; omega
  have hfrz : ∀ j, j < us.length → w.frozen? ⟨G.ι id, cs.length + 0 + j, none⟩ = false := fun j hj => by
    unfold World.frozen?; simp only [hg]
    have : ¬ (fr.1 ≤ cs.length + 0 + j ∧ cs.length + 0 + j < fr.2) := fun h => by omega
    simpa using this
  have honec : ∀ v ∈ us, v.oneCell' = true := fun v hv => by
    obtain ⟨k1, k2⟩ := h1 v hv
    cases v with
    | agg a => exact absurd rfl (k1 a)
    | tuple a => exact absurd rfl (k2 a)
    | _ => rfl
  have hrun := run_storeCells_cells (P := P) (G.ι id) cs.length us 0 w hcell hfrz honec
  rw [Nat.add_zero] at hrun
  obtain ⟨a1, a2, a3, a4, a5⟩ := setCells_heap (G.ι id) T fr us cs.length (vs ++ rest) w hg (by simp; omega)
  have ecur : (vs ++ rest).take cs.length ++ us ++ (vs ++ rest).drop (cs.length + us.length) = (vs ++ us) ++ rest.drop us.length := by
    rw [List.take_append_of_le_length (by omega), List.take_of_length_le (by omega), List.drop_append, List.drop_of_length_le (by omega), hlen, List.nil_append]
    congr 2; omega
  rw [ecur] at a1
  clear hcell hfrz honec
  generalize w.setCells (G.ι id) cs.length us = w1 at *
  let G' : Ghost := { G with dom := fun j => G.dom j ∨ j = n, ι := upd G.ι n (G.ι id) }
  have hιn : G'.ι n = G.ι id := by simp [G', upd]
  have hι : ∀ j, G.dom j → G'.ι j = G.ι j := fun j hj => by
    simp only [G', upd]; rw [if_neg]; rintro rfl; exact hn hj
  refine ⟨w1, G', hrun, ?_⟩
  have T1 : Trans G w (.only (upd none' id (some (.cells cs))) [] n m) G' w1 (.only (upd none' n (some (.cells (cs ++ xs)))) [] (n + 1) m) := by
    constructor
    · exact fun _ x => .inl x
    · rintro j (x | rfl)
      · exact .inl x
      · exact .inr ⟨by simp [H.only], by simp [H.only]⟩
    · exact hι
    · exact fun _ x => x
    · exact fun _ => .inl
    · exact fun _ _ => rfl
    · simp [H.only]
    · exact Nat.le_refl _
    · rw [a3]; exact Nat.le_refl _
    · exact a4
    · exact a5
    · intro B hB
      by_cases hBi : B = G.ι id
      · subst hBi
        rw [a1, hg]
        exact ⟨_, _, rfl, by simp; omega, fun _ _ h => h⟩
      · rw [a2 B hBi]; exact SameForm.refl _
    · intro B hB hO _
      exact a2 B fun e => hO ⟨id, _, hme, e.symm⟩
    · exact fun _ _ _ => Iff.rfl
    · exact fun _ _ _ _ => rfl
    · rintro B hB ⟨t, ht, _⟩; simp [H.only] at ht
    · rintro B hB ⟨j, o, ho, e⟩
      obtain ⟨rfl, rfl⟩ := only1 ho
      exact ⟨id, _, hme, by rw [← e, hιn]⟩
    · rintro B hB ⟨t, ht, _⟩; simp [H.only] at ht
    · intro j o ho
      obtain ⟨rfl, rfl⟩ := only1 ho
      exact .inr ⟨by simp [H.only], by simp [H.only]⟩
    · intro t ht; simp [H.only] at ht
  refine ⟨T1, ⟨?_, ?_, ?_, ?_⟩, .inr rfl, hιn, _, T, fr, a1, ?_⟩
  · intro j o ho
    obtain ⟨rfl, rfl⟩ := only1 ho
    refine ⟨.inr rfl, by rw [hιn]; exact d2, by rw [hιn, a3]; exact d3, ?_⟩
    rw [hιn, a1]
    refine ⟨_, _, T, fr, rfl, (VRels.mono R T1 _ _ hvs).append (VRels.mono R T1 _ _ hr), hfr, ?_⟩
    intro v hv
    rcases List.mem_append.1 hv with hv | hv
    · exact hone v hv
    · exact h1 v hv
  · intro j j' o o' ho ho' _
    rw [(only1 ho).1, (only1 ho').1]
  · intro t ht; simp [H.only] at ht
  · intro t ht; simp [H.only] at ht
  · simp; omega
theorem Trans.weak1 {id n m : Nat} {c : Obj} {G' : Ghost} {w' : World} {h' : H} (T : Trans G w (.only none' [] n m) G' w' h') : Trans G w (.only (upd none' id (some c)) [] n m) G' w' h' := by
  constructor
  · exact T.dom_le
  · exact T.dom_new
  · exact T.ι_eq
  · exact T.tdom_le
  · exact T.tdom_new
  · exact T.τ_eq
  · exact T.n_le
  · exact T.m_le
  · exact T.size_le
  · exact T.os
  · exact T.output
  · exact T.form
  · exact fun B hB _ _ => T.keep B hB (only_O B) (only_T0 B)
  · exact fun B hB _ => T.own_keep B hB (only_O B)
  · exact fun B hB _ _ => T.lim_keep B hB (only_O B) (only_T0 B)
  · exact fun B hB x => absurd x (only_T0 B)
  · exact fun B hB x => absurd (T.O_new B hB x) (only_O B)
  · exact fun B hB x => absurd (T.T_new B hB x) (only_T0 B)
  · intro j o ho
    rcases T.objs_new j o ho with ⟨o', x⟩ | x
    · simp [H.only, none'] at x
    · exact .inr x
  · exact T.toks_new
theorem touch_next (h : H) {id : Nat} {ob ob' : Obj} (ho : h.objs id = some ob) : Touch h (.only (upd none' id (some ob)) [] h.n h.m) (.only (upd none' h.n (some ob')) [] (h.n + 1) h.m) { h with objs := upd (fun j => if j = id then none else h.objs j) h.n (some ob'), n := h.n + 1 } ⟨[], [id, h.n], []⟩ where
  sub := ⟨fun j o hj => by obtain ⟨rfl, rfl⟩ := only1 hj; exact ho, fun t ht => by simp [H.only] at ht⟩
  n := rfl
  m := rfl
  eq := by
    refine H.ext (fun j => ?_) rfl (by simp [H.patch, H.only]; exact (List.filter_eq_self.2 fun _ _ => rfl).symm) rfl
    simp only [H.patch, H.only, upd, none']
    by_cases e1 : j = h.n
    · subst e1; simp
    · by_cases e2 : j = id
      · subst e2; simp [e1]
      · have : ¬ (h.n ≤ j ∧ j < h.n + 1) := by omega
        simp [e1, e2, this]
  rd j x := by
    right
    simp only [H.only, upd, none'] at x
    split at x
    · rename_i e; simp [e]
    · simp at x
  wr j a b := by simp only [H.only] at a b; simp; omega
  chg j x hx := by
    simp only [H.only, upd, none'] at x
    split at x
    · rename_i e; subst e; simp at hx
    · simp at x
  tk t x := by simp [H.only] at x
  tn t x := by simp [H.only] at x
  le := by simp [H.only]
  lem := Nat.le_refl _
theorem appK_loc {c : Call} {zs zx : Operand} {ys yx : Opd} {T U e : TypeId} {d : TypeDesc} {i : TypeInfo} {id len : Nat} {cap : Option Nat} {cs els : List AV} (hop : o.op = .call c) (hc : c.callee = .builtin .append) (ha : c.args.toList = [zs, zx]) (hta : c.argTypes.toList = [T, U])
    (hT : P.underlying T = some (.slice e)) (hU : P.underlying U = some d) (hd : (∃ e', d = .slice e') ∨ d = .string) (hi : P.info? e = some i) (hz : i.zero.any (fun z => z.cells.size == i.size) = true) (hsz : 0 < i.size)
    (hys : opd P T zs = some ys) (hyx : opd P U zx = some yx) (hs : ev t ys = .tsl i.size id 0 len cap) (ho : h.objs id = some (.cells cs)) (hcl : cs.length = len * i.size) (hx : ∃ s' c', ev t yx = .sl s' els c' ∧ s' = i.size) (hsh : els.all shaped = true)
    (hb : (len + els.length) * i.bytes ≤ 140737488355328) (hlen : len + els.length < 4611686018427387904) :
    Loc P o t h (.tsl i.size h.n 0 (len + els.length) none) { h with objs := upd (fun j => if j = id then none else h.objs j) h.n (some (.cells (cs ++ els.flatMap cellsOf))), n := h.n + 1 } ⟨[], [id, h.n], []⟩ := by
  have ha' : c.args = #[zs, zx] := by rw [← Array.toArray_toList (xs := c.args), ha]
  have hta' : c.argTypes = #[T, U] := by rw [← Array.toArray_toList (xs := c.argTypes), hta]
  obtain ⟨z, hz1, hz2⟩ : ∃ z, i.zero = some z ∧ z.cells.size = i.size := by
    cases hzz : i.zero with
    | none => rw [hzz] at hz; simp at hz
    | some z => rw [hzz] at hz; exact ⟨z, rfl, by simpa using hz⟩
  refine ⟨_, _, touch_next h ho, fun G w a ht R F => ?_⟩
  have r1 := opd_rel hys ht
  have r2 := opd_rel hyx ht
  rw [hs] at r1
  obtain ⟨s', c', hx, hs'⟩ := hx
  rw [hx] at r2
  obtain ⟨news, n1, n2, n3⟩ := src_slice (P := P) (.inl hs') r2
  have hnl := n2.length
  have hnr := rels_of_elems n2 hsh
  have hnrl := hnr.length
  have hdn : ¬ G.dom h.n := F.1 h.n (by simp [H.only]) (by simp [H.only])
  have hme : (H.only (upd none' id (some (.cells cs))) [] h.n h.m).objs id = some (.cells cs) := by simp [H.only, upd]
  obtain ⟨d1, d2, d3, -⟩ := R.obj id _ hme
  obtain ⟨vs, rest, T0, fr, hg, hvs, hfr, hone⟩ := obj_cells R hme
  have hvl := hvs.length
  have hmul : (len + els.length) * i.size = len * i.size + els.length * i.size := Nat.add_mul _ _ _
  have fin : ∀ v w' G', (execOp a.eval o).run P w = .ok (.value v) w' → Trans G w (.only (upd none' id (some (.cells cs))) [] h.n h.m) G' w' (.only (upd none' h.n (some (.cells (cs ++ els.flatMap cellsOf)))) [] (h.n + 1) h.m) → RepH G' (.only (upd none' h.n (some (.cells (cs ++ els.flatMap cellsOf)))) [] (h.n + 1) h.m) w' → VRel G' w' (.tsl i.size h.n 0 (len + els.length) none) v →
      ∃ nx v w' G', (execOp a.eval o).run P w = .ok nx w' ∧ (nx = .value v ∨ nx = .skip ∧ v = undef) ∧ Trans G w (.only (upd none' id (some (.cells cs))) [] h.n h.m) G' w' (.only (upd none' h.n (some (.cells (cs ++ els.flatMap cellsOf)))) [] (h.n + 1) h.m) ∧ RepH G' (.only (upd none' h.n (some (.cells (cs ++ els.flatMap cellsOf)))) [] (h.n + 1) h.m) w' ∧ VRel G' w' (.tsl i.size h.n 0 (len + els.length) none) v :=
    fun v w' G' a b c d => ⟨_, v, w', G', a, .inl rfl, b, c, d⟩
  have hex : ∀ {va vx r : Value} {w' : World}, a.eval zs = va → (Builtin.append_ #[T, U] o.type #[va, a.eval zx]).run P w = .ok r w' → (execOp a.eval o).run P w = .ok (.value r) w' := by
    intro va vx r w' h1 h2
    simp [execOp, hop, resolve, hc, ha', hta', invoke, builtin, h1, h2]
  simp only [VRel] at r1
  obtain ⟨-, ⟨C, c1, T1, fr1, hv, ⟨hC, hC2⟩, -, hg1, hroom⟩ | ⟨rfl, ⟨a0, hv⟩, -⟩⟩ := r1
  · have hc1 : c1.size = vs.length + rest.length := by rw [hg] at hg1; cases hg1; simp
    by_cases hfit : len + els.length ≤ C
    · have hCs : (len + els.length) * i.size ≤ C * i.size := Nat.mul_le_mul_right _ hfit
      obtain ⟨w', G', q1, q2, q3, q4, q5, c', T', fr', q6, q7⟩ := store_tail (P := P) R hdn hnr n3 hg1 (by omega)
      have hst : (storeCells ((⟨G.ι id, 0, none⟩ : Addr).add (len * i.size)) news).run P w = .ok () w' := by
        have e : (⟨G.ι id, 0, none⟩ : Addr).add (len * i.size) = ⟨G.ι id, cs.length, none⟩ := by rw [add_plain, hcl, Nat.zero_add]
        rw [e]; exact q1
      refine fin _ w' G' (hex (vx := .nilIface) hv (run_append_fits (ty := o.type) hT hU hd hi n1 hfit hst)) q2 q3 ?_
      unfold VRel
      refine ⟨q4, .inl ⟨C, c', T', fr', by rw [q5], ⟨hfit, hC2⟩, (fun _ h => by cases h), by rw [q5]; exact q6, by omega⟩⟩
    · have hsrc : Src P w i.size (.slice (some ⟨G.ι id, 0, none⟩) len C) len vs := by
        refine ⟨by simp [Builtin.lenOf], fun w' hw => ?_⟩
        have := run_loadCells_list (P := P) w' ⟨G.ι id, 0, none⟩ vs (fun j u hu => by
          rw [add_plain, cell_of_heap hw]
          unfold World.cell?
          simp only [hg]
          have hj := (List.getElem?_eq_some_iff.1 hu).1
          simp [List.getElem?_append_left hj, hu])
        simp only [Builtin.firstCells]
        rw [← hcl, ← hvl]; exact this
      obtain ⟨w', C', rest', e1, e2, e3, e4⟩ := run_append_grows (ty := o.type) hT hU hd hi hz1 hz2 hsz n1 hsrc hfit hC hb hlen
      obtain ⟨G', T2, R2, V⟩ := new_tsl (m := h.m) (sz := i.size) (cs := cs ++ els.flatMap cellsOf) e2 (hvs.append hnr) (fun u hu => by
        rcases List.mem_append.1 hu with h | h
        · exact hone u h
        · exact n3 u h) hdn e3 (by simp only [List.length_append]; omega)
      exact fin _ w' G' (hex (vx := .nilIface) hv e1) T2.weak1 R2 V
  · by_cases hk : els = []
    · subst hk
      have hnn : news = [] := by simpa [VElems] using n2
      subst hnn
      have hcs0 : cs = [] := by
        cases cs with
        | nil => rfl
        | cons x l => simp at hcl
      subst hcs0
      obtain ⟨w', G', q1, q2, q3, q4, q5, -⟩ := store_tail (P := P) (xs := []) (us := []) R hdn .nil (by simp) hg (by simp)
      have hw' : w' = w := by simpa [storeCells] using q1.symm
      subst hw'
      refine fin _ w' G' (hex (vx := .nilIface) hv (run_append_fits (ty := o.type) hT hU hd hi n1 (Nat.le_refl _) (w' := w') (by cases a0 <;> rfl))) q2 q3 ?_
      unfold VRel
      exact ⟨q4, .inr ⟨rfl, ⟨a0, rfl⟩, fun _ h => by cases h⟩⟩
    · have hpos : 0 < els.length := List.length_pos_iff.2 hk
      have hcs0 : cs = [] := by
        cases cs with
        | nil => rfl
        | cons x l => simp at hcl
      subst hcs0
      obtain ⟨w', C', rest', e1, e2, e3, e4⟩ := run_append_grows (ty := o.type) hT hU hd hi hz1 hz2 hsz n1 (src_none (some a0)) (by omega) (Nat.le_refl _) (by simpa using hb) (by simpa using hlen)
      rw [List.nil_append] at e2
      obtain ⟨G', T2, R2, V⟩ := new_tsl (m := h.m) (sz := i.size) e2 hnr n3 hdn e3 (by omega)
      exact fin _ w' G' (hex (vx := .nilIface) hv e1) T2.weak1 R2 V
def aopK (ρ : Opd → AV) (h : H) : AOp → Option (AV × H × Ent)
  | .app false sz bytes s x => match ρ s, ρ x with
    | .tsl z id 0 len _, .sl s' els _ => match h.objs id with
      | some (.cells cs) => if z = sz ∧ s' = sz ∧ cs.length = len * sz ∧ els.all shaped = true ∧ (len + els.length) * bytes ≤ 140737488355328 ∧ len + els.length < 4611686018427387904 then
          some (.tsl sz h.n 0 (len + els.length) none, { h with objs := upd (fun j => if j = id then none else h.objs j) h.n (some (.cells (cs ++ els.flatMap cellsOf))), n := h.n + 1 }, ⟨[], [id, h.n], []⟩) else none
      | _ => none
    | _, _ => none
  | _ => none
theorem aopK_loc {op : AOp} {x : AV} {h' : H} (hc : cOp P o = some op) (hx : aopK (ev t) h op = some (x, h', en)) : Loc P o t h x h' en := by
  cases op <;> (try (simp [aopK] at hx; done))
  case app str sz bytes s x0 =>
    cases str <;> (try (simp [aopK] at hx; done))
    obtain ⟨c, zs, zx, T, U, e, e', i, hop, hcal, ha, hta, hys, hyx, hT, hU, hi, hs1, hs2, rfl, rfl⟩ := cOp_app hc
    simp only [aopK] at hx
    split at hx
    · split at hx
      · split at hx
        · rename_i hq
          obtain ⟨q1, q2, q3, q4, q5, q6⟩ := hq
          subst q1
          cases hx
          exact appK_loc hop hcal ha hta hT hU (.inl ⟨_, rfl⟩) hi hs2 hs1 hys hyx ‹_› ‹_› q3 ⟨_, _, ‹_›, q2⟩ q4 q5 q6
        · cases hx
      · cases hx
    · cases hx
theorem aopK_congr {ρ ρ' : Opd → AV} {op : AOp} (hx : ∀ y ∈ opdsOf op, ρ y = ρ' y) : aopK ρ h op = aopK ρ' h op := by
  cases op <;> (try rfl)
  case app str sz bytes s x0 =>
    cases str
    · simp only [aopK, hx s (by simp [opdsOf]), hx x0 (by simp [opdsOf])]
    · rfl
theorem itrun_opK {ops : Array Oper} {i : Nat} {o : Oper} {it : AItem} {t : Tm} {h h' : H} {x : AV} {en : Ent} (ho : ops[i]? = some o) (hit : cItem P N ops o = some it) (hg : guardOf t it.guard = some true) (hx : aopK (ev t) h it.op = some (x, h', en)) :
    ∃ h1 h1', Touch h h1 h1' h' en ∧ ItRun P ops i o t h1 x h1' := by
  unfold cItem at hit
  split at hit
  · rename_i op g hop hgd
    split at hit <;> cases hit
    rename_i hcond
    simp only [Bool.and_eq_true] at hcond
    have hop := cOpD_of hop (by rintro rfl; simp [aopK] at hx) (by cases op <;> first | rfl | (simp [aopK] at hx))
    have hx' : aopK (ev (cutTo (names ops o) t)) h op = some (x, h', en) := by
      rw [aopK_congr (cut_ev hcond.2)]; exact hx
    obtain ⟨h1, h1', tc, loc⟩ := aopK_loc hop hx'
    refine ⟨h1, h1', tc, fun G w a ht R F K Q hK ro => ?_⟩
    obtain ⟨nx, v, w', G', e1, e2, T1, R1, V⟩ := loc G w a (cut_rel ht) R F
    unfold wpOpIn
    rw [ho]
    simp only [guard_wanted hgd ht hg, if_true]
    refine ⟨fun _ _ => trivial, ?_⟩
    rw [Oper.semAt_eq _ _ _ (cOp_plain hop), e1]
    rcases e2 with rfl | ⟨rfl, rfl⟩
    · rw [Oper.uponIn_value]; exact hK G' w' v T1 R1 V
    · rw [Oper.uponIn_skip]; exact hK G' w' undef T1 R1 V
  · cases hit
end
end Go.Av
end
section
set_option linter.unusedVariables false
set_option linter.unusedSimpArgs false
namespace Go.Av
structure LR where
  id : Nat
  N : Nat
  x : AC
  y : AC
abbrev Sg := Nat → Code × Code
def sgO (c : Code × Code) : Obj → Obj
  | .loop N t ps _ _ st pd => .loop N t ps c.1 c.2 st pd
  | o => o
def H.sg (σ : Sg) (h : H) : H := ⟨fun j => (h.objs j).map (sgO (σ j)), h.n, h.toks, h.m⟩
def St.sg (σ : Sg) (s : St) : St := ⟨s.t, s.h.sg σ⟩
def LkOk (P : Program) (σ : Sg) (L : List LR) : Prop := ∀ r ∈ L, cCode P r.N (σ r.id).1 = some r.x ∧ cCode P r.N (σ r.id).2 = some r.y ∧ noRF (σ r.id).1 = true ∧ noRF (σ r.id).2 = true
theorem sg_cells {σ : Sg} {h : H} {id : Nat} {cs : List AV} (e : h.objs id = some (.cells cs)) : (h.sg σ).objs id = some (.cells cs) := by
  simp [H.sg, e, sgO]
theorem sg_upd_cells (σ : Sg) (f : Nat → Option Obj) (id : Nat) (cs : List AV) : (fun j => (upd f id (some (.cells cs)) j).map (sgO (σ j))) = upd (fun j => (f j).map (sgO (σ j))) id (some (.cells cs)) := by
  funext j
  simp only [upd]
  split <;> rfl
theorem sg_upd_map (σ : Sg) (f : Nat → Option Obj) (id : Nat) (es : List (AV × AV)) : (fun j => (upd f id (some (.map es)) j).map (sgO (σ j))) = upd (fun j => (f j).map (sgO (σ j))) id (some (.map es)) := by
  funext j
  simp only [upd]
  split <;> rfl
theorem aop_sg {σ : Sg} {ρ : Opd → AV} {h h' : H} {op : AOp} {x : AV} {en : Ent} (hx : aop ρ h op = some (x, h', en)) : aop ρ (h.sg σ) op = some (x, h'.sg σ, en) := by
  cases op <;> simp only [aop] at hx ⊢
  all_goals first
    | (simp only [Option.map_eq_some_iff, Prod.mk.injEq] at hx ⊢; obtain ⟨v, h1, h2, h3, h4⟩ := hx; subst h3; exact ⟨v, h1, h2, rfl, h4⟩)
    | ((repeat' split at hx) <;> simp only [Option.some.injEq, Prod.mk.injEq, Option.map_eq_some_iff, reduceCtorEq] at hx <;> first
        | (obtain ⟨h2, h3, h4⟩ := hx; subst h3; simp [*, H.sg, sgO, sg_upd_cells, sg_upd_map]; done)
        | (obtain ⟨h2, h3, h4⟩ := hx; subst h3; simp_all [H.sg, sgO, sg_upd_cells, sg_upd_map]; done)
        | (obtain ⟨v, hv, h2, h3, h4⟩ := hx; subst h3; simp [*, H.sg, sgO, sg_upd_cells, sg_upd_map]; done)
        | (obtain ⟨h2, h3, h4⟩ := hx; subst h3; rename_i hh _ _ _ _; simp_all [H.sg, sgO, sg_upd_cells, sg_upd_map]; intro hne; rcases hh.1 with e | e; exact absurd (e.trans hh.2.1) hne; exact e)
        | (obtain ⟨v, hv, h2, h3, h4⟩ := hx; subst h3; simp_all [H.sg, sgO, sg_upd_cells, sg_upd_map]))
theorem resOf_sg {σ : Sg} {ds : List RV} {t : Tm} {h : H} {r : AV} (e : resOf ds t h = some r) : resOf ds t (h.sg σ) = some r := by
  have key : ∀ d x, rv t h d = some x → rv t (h.sg σ) d = some x := by
    intro d x hd
    cases d with
    | tmp d => exact hd
    | cell d n =>
      simp only [rv] at hd ⊢
      split at hd
      · split at hd
        · rename_i hc
          rw [sg_cells hc]; exact hd
        · cases hd
      · cases hd
  have keys : ∀ l xs, rvs t h l = some xs → rvs t (h.sg σ) l = some xs := by
    intro l
    induction l with
    | nil => intro xs hd; exact hd
    | cons a l ih =>
      intro xs hd
      simp only [rvs] at hd ⊢
      split at hd
      · rename_i h1 h2
        rw [key _ _ h1, ih _ h2]; exact hd
      · cases hd
  unfold resOf at e ⊢
  cases hr : rvs t h ds with
  | none => rw [hr] at e; cases e
  | some l => rw [hr] at e; rw [keys _ _ hr]; exact e
theorem norm_sg (σ : Sg) (N : Nat) (s : St) : StLe (s.sg σ) ((norm N s).sg σ) := by
  refine StLe.mk' (fun i => ?_) (H.sub.le ⟨fun j o hj => ?_, fun t x => x⟩) (Nat.le_refl _) (Nat.le_refl _)
  · simp only [St.sg, norm, List.getD_eq_getElem?_getD, List.getElem?_map]
    cases h : (List.range N)[i]? with
    | none => exact VSub.any _
    | some k =>
      have : k = i := by
        obtain ⟨hlt, he⟩ := List.getElem?_eq_some_iff.1 h
        rw [List.getElem_range] at he
        exact he.symm
      subst this
      exact VSub.refl _
  · simp only [St.sg, H.sg, norm, Option.map_eq_some_iff] at hj ⊢
    obtain ⟨o1, h1, h2⟩ := hj
    exact ⟨o1, lookN_ok h1, h2⟩
def nextS2s (dst : Option Nat) : List AItem → Bool
  | ⟨_, _, .conv .s2s (.t d)⟩ :: _ => match dst with
    | some e => Nat.beq d e
    | none => false
  | _ => false
def nextIns (dst : Option Nat) (its : List AItem) : Bool :=
  match dst with
  | some d => its.any fun it => match it.op with
    | .call _ [_, _, .t j] => Nat.beq j d
    | _ => false
  | none => false
def aopW (ρ : Opd → AV) (h : H) (dst : Option Nat) (its : List AItem) (op : AOp) : Option (AV × H × Ent) :=
  match op with
  | .buildSl _ _ => match nextS2s dst its || nextIns dst its with
    | true => aopV ρ h op
    | false => aop ρ h op
  | .conv .s2s _ => aopV ρ h op
  | .app false 1 16 _ _ => match aopK ρ h op with
    | some r => some r
    | none => match aopT ρ h op with
      | some r => some r
      | none => aop ρ h op
  | _ => aop ρ h op
theorem aopW_or {ρ : Opd → AV} {h : H} {dst : Option Nat} {its : List AItem} {op : AOp} : aopW ρ h dst its op = aop ρ h op ∨ ((aopW ρ h dst its op = aopV ρ h op ∨ aopW ρ h dst its op = aopK ρ h op ∨ aopW ρ h dst its op = aopT ρ h op) ∧ touchy op = true) := by
  unfold aopW
  split
  · split
    · exact .inr ⟨.inl rfl, rfl⟩
    · exact .inl rfl
  · exact .inr ⟨.inl rfl, rfl⟩
  · split
    · rename_i e; exact .inr ⟨.inr (.inl e.symm), rfl⟩
    · split
      · rename_i e; exact .inr ⟨.inr (.inr e.symm), rfl⟩
      · exact .inl rfl
  · exact .inl rfl
theorem aopK_sg {σ : Sg} {ρ : Opd → AV} {h h' : H} {op : AOp} {x : AV} {en : Ent} (hx : aopK ρ h op = some (x, h', en)) : aopK ρ (h.sg σ) op = some (x, h'.sg σ, en) := by
  cases op <;> (try (simp [aopK] at hx; done))
  case app str sz bytes s0 x0 =>
    cases str <;> (try (simp [aopK] at hx; done))
    simp only [aopK] at hx ⊢
    split at hx
    · split at hx
      · rename_i e2
        rw [sg_cells e2]
        simp only
        split at hx
        · rename_i hq
          rw [if_pos hq]
          cases hx
          simp only [Option.some.injEq, Prod.mk.injEq, true_and]
          refine ⟨rfl, H.ext (fun j => ?_) rfl rfl rfl, rfl⟩
          simp only [H.sg, upd]
          by_cases h1 : j = h.n
          · simp [h1, sgO]
          · simp only [h1, if_false]
            split <;> rfl
        · cases hx
      · cases hx
    · cases hx
theorem aopT_sg {σ : Sg} {ρ : Opd → AV} {h h' : H} {op : AOp} {x : AV} {en : Ent} (hx : aopT ρ h op = some (x, h', en)) : aopT ρ (h.sg σ) op = some (x, h'.sg σ, en) := by
  cases op <;> (try (simp [aopT] at hx; done))
  case app str sz bytes s0 x0 =>
    cases str <;> (try (simp [aopT] at hx; done))
    simp only [aopT] at hx ⊢
    split at hx
    · cases hx; rfl
    · split at hx
      · rename_i hq
        rw [if_pos hq]
        cases hx
        simp only [H.sg, sg_upd_cells]
      · cases hx
    · cases hx
  case buildSl sz parts =>
    simp only [aopT] at hx ⊢
    split at hx
    · rename_i hq
      rw [if_pos hq]
      cases hx
      simp only [H.sg, sg_upd_cells]
    · cases hx
theorem aopV_sg {σ : Sg} {ρ : Opd → AV} {h h' : H} {op : AOp} {x : AV} {en : Ent} (hx : aopV ρ h op = some (x, h', en)) : aopV ρ (h.sg σ) op = some (x, h'.sg σ, en) := by
  cases op <;> (try (simp [aopV] at hx; done))
  case buildSl sz parts =>
    simp only [aopV] at hx ⊢
    split at hx
    · rename_i hq
      rw [if_pos hq]
      cases hx
      simp only [H.sg, sg_upd_cells]
    · cases hx
  case conv k x0 =>
    cases k <;> (try (simp [aopV] at hx; done))
    simp only [aopV] at hx ⊢
    split at hx
    · rename_i e1
      split at hx
      · rename_i e2
        rw [sg_cells e2]
        simp only
        split at hx
        · rename_i hq
          rw [if_pos hq]
          cases hx
          simp only [Option.some.injEq, Prod.mk.injEq, true_and, and_true]
          refine H.ext (fun j => ?_) rfl rfl rfl
          simp only [H.sg]
          split <;> rfl
        · cases hx
      · cases hx
    · cases hx
theorem aopW_sg {σ : Sg} {ρ : Opd → AV} {h h' : H} {dst : Option Nat} {its : List AItem} {op : AOp} {x : AV} {en : Ent} (hx : aopW ρ h dst its op = some (x, h', en)) : aop ρ (h.sg σ) op = some (x, h'.sg σ, en) ∨ ((aopV ρ (h.sg σ) op = some (x, h'.sg σ, en) ∨ aopK ρ (h.sg σ) op = some (x, h'.sg σ, en) ∨ aopT ρ (h.sg σ) op = some (x, h'.sg σ, en)) ∧ touchy op = true) := by
  rcases aopW_or (ρ := ρ) (h := h) (dst := dst) (its := its) (op := op) with e | ⟨e | e | e, ht⟩
  · exact .inl (aop_sg (e ▸ hx))
  · exact .inr ⟨.inl (aopV_sg (e ▸ hx)), ht⟩
  · exact .inr ⟨.inr (.inl (aopK_sg (e ▸ hx))), ht⟩
  · exact .inr ⟨.inr (.inr (aopT_sg (e ▸ hx))), ht⟩
def reachY (objs : Nat → Option Obj) : Nat → List Nat → List Nat → List Nat
  | 0, _, seen => seen
  | _ + 1, [], seen => seen
  | k + 1, i :: todo, seen => match seen.contains i with
    | true => reachY objs k todo seen
    | false => match objs i with
      | some (.cells cs) => reachY objs k (idsAs cs ++ todo) (i :: seen)
      | some (.map es) => reachY objs k (es.flatMap (fun e => idsA e.1 ++ idsA e.2) ++ todo) (i :: seen)
      | some (.loop N t _ _ _ _ _) => reachY objs k (idsAs ((List.range N).map t) ++ todo) (i :: seen)
      | none => reachY objs k todo seen
def toksInY (objs : Nat → Option Obj) (l : List Nat) : List Nat := l.flatMap fun j => match objs j with
  | some (.cells cs) => toksAs cs
  | some (.map es) => es.flatMap fun e => toksA e.1 ++ toksA e.2
  | some (.loop N t _ _ _ _ _) => toksAs ((List.range N).map t)
  | none => []
def callY (T : FT) (pr : Prims) (rn : Nat → AC → St → Option (AExit × St)) (f : Nat) (args : List AV) (h : H) : Option (AV × H × Ent) :=
  match pr f args h with
  | some r => some r
  | none => match T.get f with
  | none => none
  | some F => match Nat.ble args.length F.N with
    | false => none
    | true => match allPure args with
      | true => match rn F.N F.ac ⟨initT args, H0 h.n h.m⟩ with
        | some (e, s') => match isEndB e, resOf F.ds s'.t s'.h with
          | true, some r => match isPure r with
            | true => some (r, h, ent0)
            | false => match Nat.ble h.n s'.h.n && Nat.ble h.m s'.h.m with
              | true => some (r, h.patch (H0 h.n h.m) s'.h, ⟨[], (List.range (s'.h.n - h.n)).map (h.n + ·), s'.h.toks⟩)
              | false => none
          | _, _ => none
        | none => none
      | false =>
        let ids := reachY h.objs 1000000 (idsAs args) []
        let h1 := h.cut ids (toksAs args ++ toksInY h.objs ids)
        match rn F.N F.ac ⟨initT args, h1⟩ with
        | some (e, s') => match isEndB e, resOf F.ds s'.t s'.h with
          | true, some r => match Nat.ble h.n s'.h.n && Nat.ble h.m s'.h.m with
            | true => some (r, h.patch h1 s'.h, ⟨[], ids ++ (List.range (s'.h.n - h.n)).map (h.n + ·), h1.toks ++ s'.h.toks⟩)
            | false => none
          | _, _ => none
        | none => none
def findLR : List LR → Nat → Option LR
  | [], _ => none
  | r :: l, id => match Nat.beq r.id id with
    | true => some r
    | false => findLR l id
theorem findLR_mem : ∀ {L : List LR} {id : Nat} {r : LR}, findLR L id = some r → r ∈ L ∧ r.id = id
  | a :: l, id, r, h => by
    simp only [findLR] at h
    split at h
    · rename_i e
      cases h
      exact ⟨by simp, Nat.eq_of_beq_eq_true e⟩
    · have := findLR_mem h
      exact ⟨by simp [this.1], this.2⟩
def beqL : List Nat → List Nat → Bool
  | [], [] => true
  | a :: l, b :: m => Nat.beq a b && beqL l m
  | _, _ => false
theorem beqL_eq : ∀ {l m : List Nat}, beqL l m = true → l = m
  | [], [], _ => rfl
  | a :: l, b :: m, h => by
    simp only [beqL, Bool.and_eq_true] at h
    rw [Nat.eq_of_beq_eq_true h.1, beqL_eq h.2]
def roundB : AExit → Option (Bool × LoopState × Option Code)
  | .normal => some (true, .ready, none)
  | .ret => some (false, .done, some .ret)
  | .exit i => some (false, .done, some (.exit i))
  | .goto l => some (false, .done, some (.goto l))
  | .panic _ => none
theorem roundB_ok {e : AExit} {b : Bool} {st : LoopState} {p : Option Code} (h : roundB e = some (b, st, p)) : RoundEnd e b st p := by
  cases e <;> simp only [roundB, Option.some.injEq, Prod.mk.injEq, reduceCtorEq] at h <;> obtain ⟨rfl, rfl, rfl⟩ := h <;> constructor
def yldY (L : List LR) (rn : Nat → AC → St → Option (AExit × St)) (id : Nat) (args : List AV) (h : H) : Option (AV × H × Ent) :=
  match findLR L id with
  | none => none
  | some r =>
    let ids := reachY h.objs 1000000 (id :: idsAs args) []
    let h1 := h.cut ids (toksAs args ++ toksInY h.objs ids)
    match h1.objs id with
    | some (.loop M t ps a b .ready none) => match Nat.beq M r.N && Nat.beq args.length ps.length && ps.all (fun p => Nat.blt p M) with
      | true => match rn M r.x ⟨putPs t ps args, h1⟩ with
        | some (.normal, s) => match s.h.objs id with
          | some (.loop M1 t1 ps1 _ _ .ready none) => match Nat.beq M1 M && beqL ps1 ps with
            | true => match rn M r.y ⟨s.t, { s.h with objs := upd s.h.objs id (some (.loop M t1 ps a b .busy none)) }⟩ with
              | some (e, s2) => match s2.h.objs id, roundB e with
                | some (.loop M2 t2 ps2 _ _ .busy none), some (v, st, pd) => match Nat.beq M2 M && beqL ps2 ps && (Nat.ble h.n s2.h.n && Nat.ble h.m s2.h.m) with
                  | true =>
                    let h2 : H := { s2.h with objs := upd s2.h.objs id (some (.loop M t2 ps a b st pd)) }
                    some (.bool v, h.patch h1 h2, ⟨[], ids ++ (List.range (h2.n - h.n)).map (h.n + ·), h1.toks ++ h2.toks⟩)
                  | false => none
                | _, _ => none
              | none => none
            | false => none
          | _ => none
        | _ => none
      | false => none
    | _ => none
def runItemsY (call : Nat → List AV → H → Option (AV × H × Ent)) (yld : Nat → List AV → H → Option (AV × H × Ent)) : List AItem → Tm → H → List Ent → Option (Tm × H × List Ent)
  | [], t, h, l => some (t, h, l)
  | ⟨dst, g, op⟩ :: its, t, h, l => match guardOf t g with
    | some true => match op with
      | .call f args => match call f (args.map (ev t)) h with
        | some (r, h', en) => runItemsY call yld its (putT t dst r) h' (en :: l)
        | none => none
      | .callv y args => match ev t y with
        | .clo (.func f) first caps => match call f (first ++ args.map (ev t) ++ caps) h with
          | some (r, h', en) => runItemsY call yld its (putT t dst r) h' (en :: l)
          | none => none
        | .yld id => match yld id (args.map (ev t)) h with
          | some (r, h', en) => runItemsY call yld its (putT t dst r) h' (en :: l)
          | none => none
        | _ => none
      | op => match aopW (ev t) h dst its op with
        | some (x, h', en) => runItemsY call yld its (putT t dst x) h' (en :: l)
        | none => none
    | some false => runItemsY call yld its (putT t dst (.sc undef)) h (ent0 :: l)
    | none => none
def endLoop : Option Code → Option AExit
  | none => some .normal
  | some .ret => some .ret
  | some (.exit i) => some (.exit i)
  | some (.goto l) => some (.goto l)
  | _ => none
theorem endLoop_ok {p : Option Code} {e : AExit} (h : endLoop p = some e) : LoopEnd p e := by
  unfold endLoop at h
  split at h <;> cases h <;> constructor
def notBusy : LoopState → Bool
  | .busy => false
  | _ => true
def rfunY (T : FT) (rn : List LR → Nat → AC → St → Option (AExit × St)) (L : List LR) (N : Nat) (g : Opd) (ps : List Nat) (x y : AC) (s : St) : Option (AExit × St) :=
  match ev s.t g with
  | .clo (.func fi) first caps => match T.get fi with
    | none => none
    | some F => match s.h.objs s.h.n with
      | some _ => none
      | none => match Nat.ble (first ++ [AV.yld s.h.n] ++ caps).length F.N with
        | false => none
        | true =>
          match rn (⟨s.h.n, N, x, y⟩ :: L.filter fun r => !Nat.beq r.id s.h.n) F.N F.ac ⟨initT (first ++ [AV.yld s.h.n] ++ caps), ⟨upd s.h.objs s.h.n (some (.loop N s.t ps .skip .skip .ready none)), s.h.n + 1, s.h.toks, s.h.m⟩⟩ with
          | some (e, s2) => match isEndB e, resOf F.ds s2.t s2.h, s2.h.objs s.h.n with
            | true, some _, some (.loop N2 _ ps2 _ _ st pd) => match Nat.beq N2 N && beqL ps2 ps && notBusy st && (Nat.ble (s.h.n + 1) s2.h.n && Nat.ble s.h.m s2.h.m), endLoop pd with
              | true, some e2 => some (e2, ⟨s.t, ⟨fun j => if j = s.h.n then none else s2.h.objs j, s2.h.n, s2.h.toks, s2.h.m⟩⟩)
              | _, _ => none
            | _, _, _ => none
          | none => none
  | _ => none
def runY (T : FT) (pr : Prims) : Nat → List LR → Nat → AC → St → Option (AExit × St)
  | 0, _, _, _, _ => none
  | k + 1, L, N, c, s => match c with
    | .skip => some (.normal, s)
    | .ret => some (.ret, s)
    | .exit i => some (.exit i, s)
    | .reg items p => match runItemsY (callY T pr (runY T pr k L)) (yldY L (runY T pr k L)) items s.t s.h [] with
      | some (t, h, l) => match pairsQB p l.reverse with
        | true => some (.normal, ⟨t, h⟩)
        | false => none
      | none => none
    | .seq a b => match runY T pr k L N a s with
      | some (.normal, s') => runY T pr k L N b s'
      | r => r
    | .cond c a b => match ev s.t c with
      | .bool true => runY T pr k L N a s
      | .bool false => runY T pr k L N b s
      | _ => none
    | .block id a => match runY T pr k L N a s with
      | some (.exit i, s') => match Nat.beq i id with
        | true => some (.normal, s')
        | false => some (.exit i, s')
      | r => r
    | .loop a => match runY T pr k L N a s with
      | some (.normal, s') => runY T pr k L N (.loop a) (norm N s')
      | r => r
    | .label _ => some (.normal, s)
    | .goto l => some (.goto l, s)
    | .scope a => runS (runY T pr k L N) (norm N) k a a s
    | .rfun g ps x y => rfunY T (runY T pr k) L N g ps x y (norm N s)
section
variable {P : Program} {T : FT}
def PrimsOkY (P : Program) (pr : Prims) : Prop := ∀ σ f args h r h' en, pr f args h = some (r, h', en) → (∃ h1 h1', Touch (h.sg σ) h1 h1' (h'.sg σ) en ∧ ACalls P f args h1 r h1') ∧ ∃ fn, P.funcs[f]? = some fn ∧ fn.body.isSome = true ∧ fn.name ≠ "runtime.NumGoroutine"
def RunsOkY (P : Program) (σ : Sg) (rn : Nat → AC → St → Option (AExit × St)) : Prop := ∀ N c s e s', rn N c s = some (e, s') → Wp P N c (s.sg σ) fun e2 s2 => e2 = e ∧ s2 = s'.sg σ
theorem acalls_runY {σ : Sg} {rn : Nat → AC → St → Option (AExit × St)} (hr : RunsOkY P σ rn) {f : Nat} {F : Fun} (hF : FnIs P f F.N F.ac F.ds) {args : List AV} (hl : args.length ≤ F.N) {h1 : H} {e : AExit} {s' : St} {r : AV}
    (hrun : rn F.N F.ac ⟨initT args, h1⟩ = some (e, s')) (he : isEndB e = true) (hres : resOf F.ds s'.t s'.h = some r) : ACalls P f args (h1.sg σ) r (s'.h.sg σ) := by
  obtain ⟨r', h', hc, e1, e2⟩ := hF.acalls (args := args) (h := h1.sg σ) (Q := fun q h => q = r ∧ h = s'.h.sg σ) hl (Wp.mono (hr _ _ _ _ _ hrun) fun e2 s2 ⟨a, b⟩ => by
    subst a b
    exact ⟨isEndB_ok he, r, resOf_sg hres, rfl, rfl⟩)
  subst e1 e2
  exact hc
theorem patch_sg (σ : Sg) (h h1 h1' : H) : (h.patch h1 h1').sg σ = (h.sg σ).patch (h1.sg σ) (h1'.sg σ) := by
  refine H.ext (fun j => ?_) rfl rfl rfl
  simp only [H.sg, H.patch, Option.isSome_map]
  split <;> rfl
theorem sub_sg {σ : Sg} {h1 h : H} (hs : h1.sub h) : (h1.sg σ).sub (h.sg σ) := by
  refine ⟨fun j o hj => ?_, hs.2⟩
  simp only [H.sg, Option.map_eq_some_iff] at hj ⊢
  obtain ⟨o1, h2, h3⟩ := hj
  exact ⟨o1, hs.1 j o1 h2, h3⟩
theorem H0_sg (σ : Sg) (n m : Nat) : (H0 n m).sg σ = H0 n m := H.ext (fun j => by simp [H.sg, H0, H.only, none']) rfl rfl rfl
theorem touch_genY (σ : Sg) (h h1 h1' : H) {ids : List Nat} (hs : h1.sub h) (n : h1.n = h.n) (m : h1.m = h.m) (hi : ∀ id, (h1.objs id).isSome → id ∈ ids) (le : h.n ≤ h1'.n) (lem : h.m ≤ h1'.m) :
    Touch (h.sg σ) (h1.sg σ) (h1'.sg σ) ((h.patch h1 h1').sg σ) ⟨[], ids ++ (List.range (h1'.n - h.n)).map (h.n + ·), h1.toks ++ h1'.toks⟩ := by
  rw [patch_sg]
  exact touch_gen (h.sg σ) (h1.sg σ) (h1'.sg σ) (sub_sg hs) n m (fun id hx => hi id (by simpa [H.sg] using hx)) le lem
theorem callY_ok (ok : T.Ok P) (nm : T.named P = true) {σ : Sg} {pr : Prims} (hpr : PrimsOkY P pr) {rn : Nat → AC → St → Option (AExit × St)} (hr : RunsOkY P σ rn) {f : Nat} {args : List AV} {h h' : H} {r : AV} {en : Ent} (hc : callY T pr rn f args h = some (r, h', en)) :
    (∃ h1 h1', Touch (h.sg σ) h1 h1' (h'.sg σ) en ∧ ACalls P f args h1 r h1') ∧ ∃ fn, P.funcs[f]? = some fn ∧ fn.body.isSome = true ∧ fn.name ≠ "runtime.NumGoroutine" := by
  unfold callY at hc
  split at hc
  · rename_i q hq
    cases hc
    exact hpr _ _ _ _ _ _ _ hq
  split at hc
  · cases hc
  · rename_i F hF
    obtain ⟨fi, fx⟩ := FT.get_ok ok nm hF
    refine ⟨?_, fx⟩
    split at hc
    · cases hc
    · rename_i hl
      have hl := Nat.le_of_ble_eq_true hl
      split at hc
      · rename_i hp
        split at hc
        · rename_i e s' hrun
          split at hc
          · rename_i r' he hres
            have ac := acalls_runY hr fi hl hrun he hres
            rw [H0_sg] at ac
            split at hc
            · rename_i hpr
              cases hc
              exact ⟨_, _, touch_none (h.sg σ), ac.pure (allPure_ok _ hp) (VSub.refl _) (isPure_ok _ hpr)⟩
            · split at hc
              · rename_i hb
                cases hc
                simp only [Bool.and_eq_true] at hb
                refine ⟨_, _, ?_, ac⟩
                have := touch_genY σ h (H0 h.n h.m) s'.h (ids := []) ⟨fun j o hj => by simp [H0, H.only, none'] at hj, fun t ht => by simp [H0, H.only] at ht⟩ rfl rfl (fun id hx => by simp [H0, H.only, none'] at hx) (Nat.le_of_ble_eq_true hb.1) (Nat.le_of_ble_eq_true hb.2)
                rw [H0_sg] at this
                simpa [H0, H.only] using this
              · cases hc
          · cases hc
        · cases hc
      · simp only at hc
        split at hc
        · rename_i e s' hrun
          split at hc
          · rename_i r' he hres
            have ac := acalls_runY hr fi hl hrun he hres
            split at hc
            · rename_i hb
              cases hc
              simp only [Bool.and_eq_true] at hb
              exact ⟨_, _, touch_genY σ h _ s'.h (cut_sub h _ _) rfl rfl (cut_ids h _ _) (Nat.le_of_ble_eq_true hb.1) (Nat.le_of_ble_eq_true hb.2), ac⟩
            · cases hc
          · cases hc
        · cases hc
theorem sg_upd_loop (σ : Sg) (f : Nat → Option Obj) (id : Nat) (M : Nat) (t : Nat → AV) (ps : List Nat) (a b : Code) (st : LoopState) (pd : Option Code) : (fun j => (upd f id (some (.loop M t ps a b st pd)) j).map (sgO (σ j))) = upd (fun j => (f j).map (sgO (σ j))) id (some (.loop M t ps (σ id).1 (σ id).2 st pd)) := by
  funext j
  simp only [upd]
  by_cases e : j = id
  · rw [if_pos e, if_pos e, e]; rfl
  · rw [if_neg e, if_neg e]
theorem yldY_ok {σ : Sg} {L : List LR} (hL : LkOk P σ L) {rn : Nat → AC → St → Option (AExit × St)} (hr : RunsOkY P σ rn) {id : Nat} {args : List AV} {h h' : H} {r : AV} {en : Ent} (hc : yldY L rn id args h = some (r, h', en)) :
    ∃ h1 h1', Touch (h.sg σ) h1 h1' (h'.sg σ) en ∧ YCalls P id args h1 r h1' := by
  unfold yldY at hc
  split at hc
  · cases hc
  rename_i lr hlr
  obtain ⟨hmem, rfl⟩ := findLR_mem hlr
  obtain ⟨c1, c2, c3, c4⟩ := hL lr hmem
  simp only at hc
  generalize hids : reachY h.objs 1000000 (lr.id :: idsAs args) [] = ids at hc
  generalize htk : toksAs args ++ toksInY h.objs ids = tks at hc
  split at hc
  · rename_i M t ps a b ho
    split at hc
    · rename_i hcond
      simp only [Bool.and_eq_true, List.all_eq_true] at hcond
      have hM : M = lr.N := Nat.eq_of_beq_eq_true hcond.1.1
      have hlen : args.length = ps.length := Nat.eq_of_beq_eq_true hcond.1.2
      have hps : ∀ p ∈ ps, p < M := fun p hp => Nat.le_of_ble_eq_true (hcond.2 p hp)
      split at hc
      · rename_i s1 hrun1
        split at hc
        · rename_i M1 t1 ps1 a1 b1 ho1
          split at hc
          · rename_i hcond1
            simp only [Bool.and_eq_true] at hcond1
            have hM1 := Nat.eq_of_beq_eq_true hcond1.1
            have hp1 := beqL_eq hcond1.2
            subst hM1 hp1
            split at hc
            · rename_i e s2 hrun2
              split at hc
              · rename_i M2 t2 ps2 a2 b2 v st pd ho2 hre
                split at hc
                · rename_i hcond2
                  simp only [Bool.and_eq_true] at hcond2
                  have hM2 := Nat.eq_of_beq_eq_true hcond2.1.1
                  have hp2 := beqL_eq hcond2.1.2
                  subst hM2 hp2
                  simp only [Option.some.injEq, Prod.mk.injEq] at hc
                  obtain ⟨rfl, rfl, rfl⟩ := hc
                  subst hM
                  refine ⟨_, _, touch_genY σ h _ _ (cut_sub h _ _) rfl rfl (cut_ids h _ _) (Nat.le_of_ble_eq_true hcond2.2.1) (Nat.le_of_ble_eq_true hcond2.2.2), ?_⟩
                  have w1 := hr _ _ _ _ _ hrun1
                  have w2 := hr _ _ _ _ _ hrun2
                  have e0 : (H.sg σ (h.cut ids tks)).objs lr.id = some (.loop lr.N t ps2 (σ lr.id).1 (σ lr.id).2 .ready none) := by simp only [H.sg, ho]; rfl
                  have := ycalls_of (P := P) (id := lr.id) (M := lr.N) (n := (h.cut ids tks).n) (m := (h.cut ids tks).m) (f := (H.sg σ (h.cut ids tks)).objs) (T := (h.cut ids tks).toks) (t := t) (ps := ps2) (args := args)
                    (Q := fun r' h'' => r' = .bool v ∧ h'' = H.sg σ { s2.h with objs := upd s2.h.objs lr.id (some (.loop lr.N t2 ps2 a b st pd)) }) e0 c1 c2 c3 c4 hlen hps (Wp.mono w1 fun e' s' ⟨q1, q2⟩ => by
                      subst q1 q2
                      refine ⟨rfl, t1, by simp only [St.sg, H.sg, ho1]; rfl, ?_⟩
                      have e3 : (St.sg σ ⟨s1.t, { s1.h with objs := upd s1.h.objs lr.id (some (.loop lr.N t1 ps2 a b .busy none)) }⟩) = ⟨(s1.sg σ).t, { (s1.sg σ).h with objs := upd (s1.sg σ).h.objs lr.id (some (.loop lr.N t1 ps2 (σ lr.id).1 (σ lr.id).2 .busy none)) }⟩ := by
                        simp only [St.sg, H.sg, sg_upd_loop]
                      rw [e3] at w2
                      refine Wp.mono w2 fun e' s' ⟨q1, q2⟩ => ?_
                      subst q1 q2
                      refine ⟨t2, v, st, pd, by simp only [St.sg, H.sg, ho2]; rfl, roundB_ok hre, rfl, ?_⟩
                      simp only [St.sg, H.sg, sg_upd_loop])
                  obtain ⟨r', h'', hy, rfl, rfl⟩ := this
                  exact hy
                · cases hc
              · cases hc
            · cases hc
          · cases hc
        · cases hc
      · cases hc
    · cases hc
  · cases hc
theorem runItemsY_ok {σ : Sg} {call yld : Nat → List AV → H → Option (AV × H × Ent)} (hcall : ∀ f args h r h' en, call f args h = some (r, h', en) → (∃ h1 h1', Touch (h.sg σ) h1 h1' (h'.sg σ) en ∧ ACalls P f args h1 r h1') ∧ ∃ fn, P.funcs[f]? = some fn ∧ fn.body.isSome = true ∧ fn.name ≠ "runtime.NumGoroutine")
    (hyld : ∀ id args h r h' en, yld id args h = some (r, h', en) → ∃ h1 h1', Touch (h.sg σ) h1 h1' (h'.sg σ) en ∧ YCalls P id args h1 r h1') {N : Nat} {K : Tm → H → List Ent → Prop} :
    ∀ {items : List AItem} {t t' : Tm} {h h' : H} {log log' : List Ent}, runItemsY call yld items t h log = some (t', h', log') → K t' (h'.sg σ) log'.reverse → WpItems P N items t (h.sg σ) log K
  | [], t, t', h, h', log, log', hr, hk => by
    simp only [runItemsY, Option.some.injEq, Prod.mk.injEq] at hr
    obtain ⟨rfl, rfl, rfl⟩ := hr
    exact WpItems.nil hk
  | ⟨dst, g, op⟩ :: its, t, t', h, h', log, log', hr, hk => by
    simp only [runItemsY] at hr
    split at hr
    · rename_i hg
      split at hr
      · split at hr
        · rename_i f args r h2 en hx
          obtain ⟨⟨h1, h1', tc, ac⟩, -⟩ := hcall _ _ _ _ _ _ hx
          exact WpItems.step tc (fun ops i o ho hit => itrun_call ho hit hg rfl (VSubs.refl _) ac) (fun hh => by simp [touchy] at hh) (runItemsY_ok hcall hyld hr hk)
        · cases hr
      · rename_i y args
        split at hr
        · rename_i f first caps hy
          split at hr
          · rename_i r h2 en hx
            obtain ⟨⟨h1, h1', tc, ac⟩, fn, f1, f2, f3⟩ := hcall _ _ _ _ _ _ hx
            exact WpItems.step tc (fun ops i o ho hit => itrun_callv ho hit hg rfl hy f1 f2 f3 (VSubs.refl _) ac) (fun hh => by simp [touchy] at hh) (runItemsY_ok hcall hyld hr hk)
          · cases hr
        · rename_i id hy
          split at hr
          · rename_i r h2 en hx
            obtain ⟨h1, h1', tc, yc⟩ := hyld _ _ _ _ _ _ hx
            exact WpItems.step tc (fun ops i o ho hit => itrun_yield ho hit hg rfl hy (VSubs.refl _) yc) (fun hh => by simp [touchy] at hh) (runItemsY_ok hcall hyld hr hk)
          · cases hr
        · cases hr
      · split at hr
        · rename_i x h2 en hx
          intro ops i hi hc
          obtain ⟨o, ho, hit, hi', hc'⟩ := items_cons hi hc
          obtain ⟨h1, h1', tc, run⟩ : ∃ h1 h1', Touch (h.sg σ) h1 h1' (h2.sg σ) en ∧ ItRun P ops i o t h1 x h1' := by
            rcases aopW_sg (σ := σ) hx with hx | ⟨hx | hx | hx, -⟩
            · exact itrun_op ho hit hg hx
            · exact itrun_opV ho hit hg hx
            · exact itrun_opK ho hit hg hx
            · exact itrun_opT ho hit hg hx
          obtain ⟨recs, t', hh', ch, hk2, hen⟩ := runItemsY_ok (N := N) hcall hyld hr hk ops (i + 1) hi' hc'
          have hdst : dst = o.dst := by
            unfold cItem at hit
            split at hit
            · split at hit <;> cases hit; rfl
            · cases hit
          refine ⟨⟨t, h.sg σ, h1, h1', h2.sg σ, x, en⟩ :: recs, t', hh', .cons ho rfl rfl tc run (by rw [← hdst]; exact ch), by simpa using hk2, ?_⟩
          intro k r it' hr' hit' ht
          cases k with
          | zero =>
            simp at hr' hit'; subst hr' hit'
            rcases aopW_sg (σ := σ) hx with hx | ⟨-, ht'⟩
            · rcases aop_ent ht hx with h | ⟨n, y, h⟩
              · exact h
              · simp only at h; rw [h] at ht; simp [touchy] at ht
            · rw [ht'] at ht; cases ht
          | succ k => simp at hr' hit'; exact hen k r it' hr' hit' ht
        · cases hr
    · rename_i hg
      exact WpItems.step (touch_none (h.sg σ)) (fun ops i o ho hit => itrun_skip ho hit hg) (fun _ => rfl) (runItemsY_ok hcall hyld hr hk)
    · cases hr
theorem runS_okY {σ : Sg} {rn : AC → St → Option (AExit × St)} {nm : St → St} {N : Nat} (hr : ∀ c s e s', rn c s = some (e, s') → Wp P N c (s.sg σ) fun e2 s2 => e2 = e ∧ s2 = s'.sg σ) (hn : ∀ s, StLe (s.sg σ) ((nm s).sg σ)) :
    ∀ {k : Nat} {c cur : AC} {s : St} {e : AExit} {s' : St}, runS rn nm k c cur s = some (e, s') → WpS P N c cur (s.sg σ) fun e2 s2 => e2 = e ∧ s2 = s'.sg σ
  | 0, _, _, _, _, _, h => by cases h
  | k + 1, c, cur, s, e, s', h => by
    simp only [runS] at h
    split at h
    · rename_i l s1 h1
      refine WpS.step (Wp.mono (hr _ _ _ _ h1) fun e2 s2 ⟨e1, e3⟩ => ?_)
      subst e1 e3
      simp only [AExit.within]
      split at h
      · rename_i rest hf
        try simp only [hf]
        exact WpS.le (hn _) (runS_okY hr hn h)
      · rename_i hf
        try simp only [hf]
        simp only [Option.some.injEq, Prod.mk.injEq] at h
        obtain ⟨rfl, rfl⟩ := h
        exact ⟨rfl, rfl⟩
    · rename_i hne
      refine WpS.step (Wp.mono (hr _ _ _ _ h) fun e2 s2 ⟨e1, e3⟩ => ?_)
      subst e1 e3
      cases e2 with
      | normal => exact ⟨rfl, rfl⟩
      | exit i => exact ⟨rfl, rfl⟩
      | goto l => exact absurd h (hne l _)
      | ret => exact ⟨rfl, rfl⟩
      | panic v => exact ⟨rfl, rfl⟩
theorem rfunY_ok (ok : T.Ok P) (nm : T.named P = true) {σ : Sg} {rn : List LR → Nat → AC → St → Option (AExit × St)} (hr : ∀ {σ : Sg} (L : List LR), LkOk P σ L → RunsOkY P σ (rn L)) {L : List LR} (hL : LkOk P σ L) {N : Nat} {g : Opd} {ps : List Nat} {x y : AC} {s : St} {e : AExit} {s' : St}
    (h : rfunY T rn L N g ps x y s = some (e, s')) : Wp P N (.rfun g ps x y) (s.sg σ) fun e2 s2 => e2 = e ∧ s2 = s'.sg σ := by
  unfold rfunY at h
  split at h
  · rename_i fi first caps hg
    split at h
    · cases h
    rename_i F hF
    obtain ⟨fx, fn, f1, f2, f3⟩ := FT.get_ok ok nm hF
    split at h
    · cases h
    rename_i hfresh
    split at h
    · cases h
    rename_i hl
    have hl := Nat.le_of_ble_eq_true hl
    split at h
    · rename_i e1 s2 hrun
      split at h
      · rename_i r N2 t2 ps2 a2 b2 st pd he hres ho2
        split at h
        · rename_i e2 hcond hend
          simp only [Bool.and_eq_true] at hcond
          have hN2 := Nat.eq_of_beq_eq_true hcond.1.1.1
          have hp2 := beqL_eq hcond.1.1.2
          subst hN2 hp2
          simp only [Option.some.injEq, Prod.mk.injEq] at h
          obtain ⟨rfl, rfl⟩ := h
          refine Wp.rfun (P := P) (t := s.t) (f := (s.h.sg σ).objs) (n := s.h.n) (m := s.h.m) (T := s.h.toks) hg f1 f2 f3 (by simp [H.sg, hfresh]) fun asg body c1 c2 c3 c4 => ?_
          have hL2 : LkOk P (upd σ s.h.n (asg, body)) (⟨s.h.n, N2, x, y⟩ :: L.filter fun r => !Nat.beq r.id s.h.n) := by
            intro r hr
            rcases List.mem_cons.1 hr with rfl | hr
            · simp only [upd, if_pos]
              exact ⟨c1, c2, c3, c4⟩
            · obtain ⟨h1, h2⟩ := List.mem_filter.1 hr
              have hne : r.id ≠ s.h.n := fun e => by rw [e, Nat.beq_refl] at h2; cases h2
              simp only [upd, if_neg hne]
              exact hL r h1
          have ac := acalls_runY (hr _ hL2) fx hl hrun he hres
          have e1 : (H.sg (upd σ s.h.n (asg, body)) ⟨upd s.h.objs s.h.n (some (.loop N2 s.t ps2 .skip .skip .ready none)), s.h.n + 1, s.h.toks, s.h.m⟩) = ⟨upd (s.h.sg σ).objs s.h.n (some (.loop N2 s.t ps2 asg body .ready none)), s.h.n + 1, s.h.toks, s.h.m⟩ := by
            refine H.ext (fun j => ?_) rfl rfl rfl
            simp only [H.sg, upd]
            by_cases e : j = s.h.n
            · simp only [if_pos e, Option.map_some, sgO]
            · simp only [if_neg e]
          rw [e1] at ac
          refine ⟨r, _, _, _, _, t2, st, pd, e2, ac, Nat.le_of_ble_eq_true hcond.2.1, Nat.le_of_ble_eq_true hcond.2.2, ?_, ?_, endLoop_ok hend, rfl, ?_⟩
          · simp only [H.sg, ho2, Option.map_some, sgO, upd, if_pos]
          · have := hcond.1.2
            intro e; rw [e] at this; cases this
          · refine congrArg (St.mk s.t) (H.ext (fun j => ?_) rfl rfl rfl)
            simp only [St.sg, H.sg, upd]
            by_cases e : j = s.h.n
            · simp only [if_pos e, Option.map_none]
            · simp only [if_neg e]
        · cases h
      · cases h
    · cases h
  · cases h
theorem runY_ok (ok : T.Ok P) (nm : T.named P = true) {pr : Prims} (hpr : PrimsOkY P pr) : ∀ k σ L, LkOk P σ L → RunsOkY P σ (runY T pr k L) := by
  intro k
  induction k using Nat.strongRecOn with
  | _ k ih =>
    intro σ L hL N c s e s' h
    cases k with
    | zero => cases h
    | succ k =>
      have ihk := ih k (Nat.lt_succ_self k) σ L hL
      cases c with
      | skip => simp only [runY, Option.some.injEq, Prod.mk.injEq] at h; obtain ⟨rfl, rfl⟩ := h; exact Wp.skip ⟨rfl, rfl⟩
      | ret => simp only [runY, Option.some.injEq, Prod.mk.injEq] at h; obtain ⟨rfl, rfl⟩ := h; exact Wp.ret ⟨rfl, rfl⟩
      | rfun g ps x y =>
        simp only [runY] at h
        exact Wp.le (norm_sg σ _ s) (rfunY_ok ok nm (fun L hL => ih k (Nat.lt_succ_self k) _ L hL) hL h)
      | exit i => simp only [runY, Option.some.injEq, Prod.mk.injEq] at h; obtain ⟨rfl, rfl⟩ := h; exact Wp.exit ⟨rfl, rfl⟩
      | reg items p =>
        simp only [runY] at h
        split at h
        · rename_i t h' l hi
          split at h
          · rename_i hp
            simp only [Option.some.injEq, Prod.mk.injEq] at h
            obtain ⟨rfl, rfl⟩ := h
            exact Wp.reg (runItemsY_ok (σ := σ) (fun f args h r h' en hx => callY_ok ok nm hpr ihk hx) (fun id args h r h' en hx => yldY_ok hL ihk hx) hi ⟨pairsQB_ok hp, rfl, rfl⟩)
          · cases h
        · cases h
      | seq a b =>
        simp only [runY] at h
        split at h
        · rename_i s1 ha
          refine Wp.seq (Wp.mono (ihk _ _ _ _ _ ha) fun e2 s2 ⟨e1, e3⟩ => ?_)
          subst e1 e3
          exact ihk _ _ _ _ _ h
        · rename_i hne
          refine Wp.seq (Wp.mono (ihk _ _ _ _ _ h) fun e2 s2 ⟨e1, e3⟩ => ?_)
          subst e1 e3
          cases e2 with
          | normal => exact absurd h (hne _)
          | exit i => exact ⟨rfl, rfl⟩
          | goto l => exact ⟨rfl, rfl⟩
          | ret => exact ⟨rfl, rfl⟩
          | panic v => exact ⟨rfl, rfl⟩
      | label l => simp only [runY, Option.some.injEq, Prod.mk.injEq] at h; obtain ⟨rfl, rfl⟩ := h; exact Wp.label ⟨rfl, rfl⟩
      | goto l => simp only [runY, Option.some.injEq, Prod.mk.injEq] at h; obtain ⟨rfl, rfl⟩ := h; exact Wp.goto ⟨rfl, rfl⟩
      | scope a =>
        simp only [runY] at h
        exact Wp.scope (runS_okY (fun c s e s' => ihk N c s e s') (norm_sg σ N) h)
      | cond c a b =>
        simp only [runY] at h
        split at h
        · rename_i hb; exact Wp.cond_true hb (ihk _ _ _ _ _ h)
        · rename_i hb; exact Wp.cond_false hb (ihk _ _ _ _ _ h)
        · cases h
      | block id a =>
        simp only [runY] at h
        split at h
        · rename_i i s1 ha
          refine Wp.block (Wp.mono (ihk _ _ _ _ _ ha) fun e2 s2 ⟨e1, e3⟩ => ?_)
          subst e1 e3
          split at h
          · rename_i hid
            have hid := Nat.eq_of_beq_eq_true hid
            simp only [Option.some.injEq, Prod.mk.injEq] at h
            obtain ⟨rfl, rfl⟩ := h
            simp only [AExit.inBlock, hid, if_true, and_self]
          · rename_i hid
            have hid := Nat.ne_of_beq_eq_false hid
            simp only [Option.some.injEq, Prod.mk.injEq] at h
            obtain ⟨rfl, rfl⟩ := h
            simp only [AExit.inBlock, if_neg hid, and_self]
        · rename_i hne
          refine Wp.block (Wp.mono (ihk _ _ _ _ _ h) fun e2 s2 ⟨e1, e3⟩ => ?_)
          subst e1 e3
          cases e2 with
          | normal => exact ⟨rfl, rfl⟩
          | exit i => exact absurd h (hne i _)
          | goto l => exact ⟨rfl, rfl⟩
          | ret => exact ⟨rfl, rfl⟩
          | panic v => exact ⟨rfl, rfl⟩
      | loop a =>
        refine Wp.loop (β := Nat × St) (fun b => b.2.sg σ) (fun b => b.1 ≤ k ∧ runY T pr (b.1 + 1) L N (.loop a) b.2 = some (e, s')) (fun b => b.1) (k, s) ⟨Nat.le_refl _, h⟩ (StLe.refl _) ?_
        rintro ⟨j, s0⟩ ⟨hj, hb⟩
        simp only [runY] at hb
        have ihj := ih j (by simp only at hj; omega) σ L hL
        split at hb
        · rename_i s1 ha
          refine Wp.mono (ihj _ _ _ _ _ ha) fun e2 s2 ⟨e1, e3⟩ => ?_
          subst e1 e3
          cases j with
          | zero => cases hb
          | succ j => exact ⟨(j, norm N s1), ⟨by simp only at hj ⊢; omega, hb⟩, Nat.lt_succ_self _, norm_sg σ N s1⟩
        · rename_i hne
          refine Wp.mono (ihj _ _ _ _ _ hb) fun e2 s2 ⟨e1, e3⟩ => ?_
          subst e1 e3
          cases e2 with
          | normal => exact absurd hb (hne _)
          | exit i => exact ⟨rfl, rfl⟩
          | goto l => exact ⟨rfl, rfl⟩
          | ret => exact ⟨rfl, rfl⟩
          | panic v => exact ⟨rfl, rfl⟩
def orPrims (p q : Prims) : Prims := fun f args h => match p f args h with
  | some r => some r
  | none => q f args h
theorem orPrims_ok {p q : Prims} (hp : PrimsOkY P p) (hq : PrimsOkY P q) : PrimsOkY P (orPrims p q) := by
  intro σ f args h r h' en hx
  unfold orPrims at hx
  split at hx
  · rename_i r0 h0
    cases hx
    exact hp σ _ _ _ _ _ _ h0
  · exact hq σ _ _ _ _ _ _ hx
def purePrim (pp : Nat → List AV → Option AV) : Prims := fun f args h => match pp f args with
  | some r => some (r, h, ent0)
  | none => none
theorem purePrim_ok {pp : Nat → List AV → Option AV} (hc : ∀ f args r, pp f args = some r → (∃ vals, VSubs args vals ∧ PCalls P f vals r) ∧ ∃ fn, P.funcs[f]? = some fn ∧ fn.body.isSome = true ∧ fn.name ≠ "runtime.NumGoroutine") : PrimsOkY P (purePrim pp) := by
  intro σ f args h r h' en hx
  unfold purePrim at hx
  split at hx
  · rename_i r0 h0
    cases hx
    obtain ⟨⟨vals, h1, h2⟩, h3⟩ := hc _ _ _ h0
    exact ⟨⟨_, _, touch_none (h.sg σ), fun G w vs hv R F => h2 _ _ G w vs (h1 G w vs hv) R F⟩, h3⟩
  · cases hx
def runBoolY (T : FT) (pr : Prims) (k f : Nat) (args : List AV) : Option Bool :=
  match allPure args, callY T pr (runY T pr k []) f args (H0 0 0) with
  | true, some (.bool b, _, _) => some b
  | _, _ => none
theorem pcalls_runY (ok : T.Ok P) (nm : T.named P = true) {pr : Prims} (hpr : PrimsOkY P pr) {k f : Nat} {args : List AV} {b : Bool} (h : runBoolY T pr k f args = some b) : PCalls P f args (.bool b) := by
  unfold runBoolY at h
  split at h
  · rename_i b' h' en hp hc
    cases h
    obtain ⟨⟨h1, h1', tc, ac⟩, -⟩ := callY_ok (σ := fun _ => (.skip, .skip)) ok nm hpr (runY_ok ok nm hpr k _ [] (fun r h => by cases h)) hc
    rw [H0_sg] at tc
    have e : h1 = H0 0 0 := by
      refine H.ext (fun j => ?_) tc.n ?_ tc.m
      · cases hj : h1.objs j with
        | none => rfl
        | some o => have := tc.sub.1 j o hj; simp [H0, H.only, none'] at this
      · cases ht : h1.toks with
        | nil => rfl
        | cons t l => have := tc.sub.2 t (by rw [ht]; simp); simp [H0, H.only] at this
    subst e
    exact ac.pure0 (allPure_ok _ hp) (VSub.refl _) (isPure_ok _ rfl)
  · cases h
end
end Go.Av
end
