/- A run of compact code by computation: closed calls (no unknown in the arguments) are answered by the kernel. -/
import Derived.Test.YtlefnohibjcekaaAvTok
set_option linter.unusedVariables false
set_option linter.unusedSimpArgs false
namespace Go.Av

structure Fun where
  N : Nat
  ac : AC
  ds : List RV

inductive FT where
  | leaf
  | node (k : Nat) (F : Fun) (l r : FT)

def FT.get (f : Nat) : FT → Option Fun
  | .leaf => none
  | .node k F l r => match Nat.beq f k with
    | true => some F
    | false => match Nat.ble f k with
      | true => FT.get f l
      | false => FT.get f r

/-- the table's functions have that code -/
def FT.Ok (P : Program) : FT → Prop
  | .leaf => True
  | .node k F l r => FnIs P k F.N F.ac F.ds ∧ l.Ok P ∧ r.Ok P
def FT.named (P : Program) : FT → Bool
  | .leaf => true
  | .node k F l r => ((P.funcs[k]?).any fun fn => fn.name != "runtime.NumGoroutine") && l.named P && r.named P

theorem FT.get_ok {P : Program} {f : Nat} {F : Fun} : ∀ {T : FT}, T.Ok P → T.named P = true → T.get f = some F → FnIs P f F.N F.ac F.ds ∧ ∃ fn, P.funcs[f]? = some fn ∧ fn.body.isSome = true ∧ fn.name ≠ "runtime.NumGoroutine"
  | .leaf, _, _, h => by cases h
  | .node k F' l r, ok, nm, h => by
    simp only [FT.named, Bool.and_eq_true] at nm
    simp only [FT.get] at h
    split at h
    · rename_i e
      cases h
      have e := Nat.eq_of_beq_eq_true e
      subst e
      refine ⟨ok.1, ?_⟩
      obtain ⟨fn, h1, h2, h3, h4⟩ := ok.1
      refine ⟨fn, h1, ?_, ?_⟩
      · obtain ⟨code, hb, _⟩ := Option.bind_eq_some_iff.1 h3
        rw [hb]; rfl
      · have := nm.1.1
        rw [h1] at this
        simpa using this
    · split at h
      · exact FT.get_ok ok.2.1 nm.1.2 h
      · exact FT.get_ok ok.2.2 nm.2 h

mutual
def idsA : AV → List Nat
  | .sl _ xs _ => idsAs xs
  | .ref cs => idsAs cs
  | .agg cs => idsAs cs
  | .tup cs => idsAs cs
  | .ptr i _ => [i]
  | .tsl _ i _ _ _ => [i]
  | .mp i => [i]
  | .clo _ a b => idsAs a ++ idsAs b
  | .ifc _ x => idsA x
  | _ => []
def idsAs : List AV → List Nat
  | [] => []
  | x :: xs => match idsA x with
    | [] => idsAs xs
    | l => l ++ idsAs xs
end
def toksC : Cap → List Nat
  | .own t => [t]
  | _ => []
mutual
def toksA : AV → List Nat
  | .sl _ xs c => toksC c ++ toksAs xs
  | .ref cs => toksAs cs
  | .agg cs => toksAs cs
  | .tup cs => toksAs cs
  | .clo _ a b => toksAs a ++ toksAs b
  | .ifc _ x => toksA x
  | _ => []
def toksAs : List AV → List Nat
  | [] => []
  | x :: xs => match toksA x with
    | [] => toksAs xs
    | l => l ++ toksAs xs
end

def reach (objs : Nat → Option Obj) : Nat → List Nat → List Nat → List Nat
  | 0, _, seen => seen
  | _ + 1, [], seen => seen
  | k + 1, i :: todo, seen => match seen.contains i with
    | true => reach objs k todo seen
    | false => match objs i with
      | some (.cells cs) => reach objs k (idsAs cs ++ todo) (i :: seen)
      | some (.map es) => reach objs k (es.flatMap (fun e => idsA e.1 ++ idsA e.2) ++ todo) (i :: seen)
      | none => reach objs k todo seen

def toksIn (objs : Nat → Option Obj) (l : List Nat) : List Nat := l.flatMap fun j => match objs j with
  | some (.cells cs) => toksAs cs
  | some (.map es) => es.flatMap fun e => toksA e.1 ++ toksA e.2
  | none => []

def H.cut (h : H) (ids toks : List Nat) : H := ⟨fun j => match ids.contains j with | true => h.objs j | false => none, h.n, h.toks.filter fun t => toks.contains t, h.m⟩

def isEndB : AExit → Bool
  | .normal | .ret => true
  | _ => false

def pairsB : List (Nat × Nat) → List Ent → Bool
  | [], _ => true
  | (i, j) :: l, log =>
    let e := log.getD i ent0
    let f := log.getD j ent0
    e.wr.all (fun id => !f.rd.contains id && !f.wr.contains id) && f.wr.all (fun id => !e.rd.contains id && !e.wr.contains id) && e.tk.all (fun t => !f.tk.contains t) && pairsB l log
def pairsQB : Option (List (Nat × Nat)) → List Ent → Bool
  | none, _ => true
  | some l, log => pairsB l log

theorem pairsB_ok : ∀ {l : List (Nat × Nat)} {log : List Ent}, pairsB l log = true → pairsOk l log
  | [], _, _ => trivial
  | (i, j) :: l, log, h => by
    simp only [pairsB, Bool.and_eq_true, List.all_eq_true, Bool.not_eq_true', List.contains_eq_mem, decide_eq_false_iff_not] at h
    exact ⟨⟨fun id hid => h.1.1.1 id hid, fun id hid => h.1.1.2 id hid, fun t ht => h.1.2 t ht⟩, pairsB_ok h.2⟩
theorem pairsQB_ok {p : Option (List (Nat × Nat))} {log : List Ent} (h : pairsQB p log = true) : pairsQ p log := by
  cases p with
  | none => trivial
  | some l => exact pairsB_ok h

/-- calls that are answered by a contract -/
abbrev Prims := Nat → List AV → H → Option (AV × H × Ent)
def noPrims : Prims := fun _ _ _ => none

def callF (T : FT) (pr : Prims) (rn : Nat → AC → St → Option (AExit × St)) (f : Nat) (args : List AV) (h : H) : Option (AV × H × Ent) :=
  match pr f args h with
  | some r => some r
  | none => match T.get f with
  | none => none
  | some F => match Nat.ble args.length F.N with
    | false => none
    | true => match allPure args with
      | true => match rn F.N F.ac ⟨initT args, H0 h.n h.m⟩ with
        | some (e, s') => match isEndB e, resOf F.ds s'.t s'.h with
          | true, some r => match isPure r with
            | true => some (r, h, ent0)
            | false => match Nat.ble h.n s'.h.n && Nat.ble h.m s'.h.m with
              | true => some (r, h.patch (H0 h.n h.m) s'.h, ⟨[], (List.range (s'.h.n - h.n)).map (h.n + ·), s'.h.toks⟩)
              | false => none
          | _, _ => none
        | none => none
      | false =>
        let ids := reach h.objs 1000000 (idsAs args) []
        let h1 := h.cut ids (toksAs args ++ toksIn h.objs ids)
        match rn F.N F.ac ⟨initT args, h1⟩ with
        | some (e, s') => match isEndB e, resOf F.ds s'.t s'.h with
          | true, some r => match Nat.ble h.n s'.h.n && Nat.ble h.m s'.h.m with
            | true => some (r, h.patch h1 s'.h, ⟨[], ids ++ (List.range (s'.h.n - h.n)).map (h.n + ·), h1.toks ++ s'.h.toks⟩)
            | false => none
          | _, _ => none
        | none => none

def runItems (call : Nat → List AV → H → Option (AV × H × Ent)) : List AItem → Tm → H → List Ent → Option (Tm × H × List Ent)
  | [], t, h, l => some (t, h, l)
  | ⟨dst, g, op⟩ :: its, t, h, l => match guardOf t g with
    | some true => match op with
      | .call f args => match call f (args.map (ev t)) h with
        | some (r, h', en) => runItems call its (putT t dst r) h' (en :: l)
        | none => none
      | .callv y args => match ev t y with
        | .clo (.func f) first caps => match call f (first ++ args.map (ev t) ++ caps) h with
          | some (r, h', en) => runItems call its (putT t dst r) h' (en :: l)
          | none => none
        | _ => none
      | op => match aop (ev t) h op with
        | some (x, h', en) => runItems call its (putT t dst x) h' (en :: l)
        | none => none
    | some false => runItems call its (putT t dst (.sc undef)) h (ent0 :: l)
    | none => none

/-- a state written anew -/
def lookN (l : List (Nat × Obj)) (i : Nat) : Option Obj := match l with
  | [] => none
  | (j, o) :: r => match Nat.beq i j with
    | true => some o
    | false => lookN r i
def norm (N : Nat) (s : St) : St :=
  let l := (List.range N).map s.t
  let o := (List.range s.h.n).filterMap fun j => (s.h.objs j).map fun x => (j, x)
  ⟨fun i => l.getD i .any, { s.h with objs := lookN o }⟩

theorem lookN_ok {f : Nat → Option Obj} : ∀ {l : List Nat} {i : Nat} {o : Obj}, lookN (l.filterMap fun j => (f j).map fun x => (j, x)) i = some o → f i = some o
  | [], i, o, h => by cases h
  | j :: l, i, o, h => by
    simp only [List.filterMap_cons] at h
    cases hj : f j with
    | none => rw [hj] at h; exact lookN_ok h
    | some x =>
      rw [hj] at h
      simp only [Option.map_some, lookN] at h
      split at h
      · rename_i e
        have e := Nat.eq_of_beq_eq_true e
        subst e; cases h; exact hj
      · exact lookN_ok h

theorem norm_le (N : Nat) (s : St) : StLe s (norm N s) := by
  refine StLe.mk' (fun i => ?_) (H.sub.le ⟨fun j o hj => lookN_ok hj, fun t x => x⟩) (Nat.le_refl _) (Nat.le_refl _)
  simp only [List.getD_eq_getElem?_getD, List.getElem?_map]
  cases h : (List.range N)[i]? with
  | none => exact VSub.any _
  | some k =>
    have : k = i := by
      obtain ⟨hlt, he⟩ := List.getElem?_eq_some_iff.1 h
      rw [List.getElem_range] at he
      exact he.symm
    subst this
    exact VSub.refl _

def runS (rn : AC → St → Option (AExit × St)) (nm : St → St) : Nat → AC → AC → St → Option (AExit × St)
  | 0, _, _, _ => none
  | k + 1, c, cur, s => match rn cur s with
    | some (.goto l, s') => match findL c l with
      | some rest => runS rn nm k c rest (nm s')
      | none => some (.goto l, s')
    | r => r

def run (T : FT) (pr : Prims) : Nat → Nat → AC → St → Option (AExit × St)
  | 0, _, _, _ => none
  | k + 1, N, c, s => match c with
    | .skip => some (.normal, s)
    | .ret => some (.ret, s)
    | .exit i => some (.exit i, s)
    | .reg items p => match runItems (callF T pr (run T pr k)) items s.t s.h [] with
      | some (t, h, l) => match pairsQB p l.reverse with
        | true => some (.normal, ⟨t, h⟩)
        | false => none
      | none => none
    | .seq a b => match run T pr k N a s with
      | some (.normal, s') => run T pr k N b s'
      | r => r
    | .cond c a b => match ev s.t c with
      | .bool true => run T pr k N a s
      | .bool false => run T pr k N b s
      | _ => none
    | .block id a => match run T pr k N a s with
      | some (.exit i, s') => match Nat.beq i id with
        | true => some (.normal, s')
        | false => some (.exit i, s')
      | r => r
    | .loop a => match run T pr k N a s with
      | some (.normal, s') => run T pr k N (.loop a) (norm N s')
      | r => r
    | .label _ => some (.normal, s)
    | .goto l => some (.goto l, s)
    | .scope a => runS (run T pr k N) (norm N) k a a s

section
variable {P : Program} {T : FT}

def PrimsOk (P : Program) (pr : Prims) : Prop := ∀ f args h r h' en, pr f args h = some (r, h', en) → (∃ h1 h1', Touch h h1 h1' h' en ∧ ACalls P f args h1 r h1') ∧ ∃ fn, P.funcs[f]? = some fn ∧ fn.body.isSome = true ∧ fn.name ≠ "runtime.NumGoroutine"
theorem noPrims_ok : PrimsOk P noPrims := fun _ _ _ _ _ _ h => by cases h

def RunsOk (P : Program) (rn : Nat → AC → St → Option (AExit × St)) : Prop := ∀ N c s e s', rn N c s = some (e, s') → Wp P N c s fun e2 s2 => e2 = e ∧ s2 = s'

theorem isEndB_ok {e : AExit} (h : isEndB e = true) : isEnd e := by cases e <;> simp_all [isEndB, isEnd]

theorem acalls_run {rn : Nat → AC → St → Option (AExit × St)} (hr : RunsOk P rn) {f : Nat} {F : Fun} (hF : FnIs P f F.N F.ac F.ds) {args : List AV} (hl : args.length ≤ F.N) {h1 : H} {e : AExit} {s' : St} {r : AV}
    (hrun : rn F.N F.ac ⟨initT args, h1⟩ = some (e, s')) (he : isEndB e = true) (hres : resOf F.ds s'.t s'.h = some r) : ACalls P f args h1 r s'.h := by
  obtain ⟨r', h', hc, e1, e2⟩ := hF.acalls (args := args) (h := h1) (Q := fun q h => q = r ∧ h = s'.h) hl (Wp.mono (hr _ _ _ _ _ hrun) fun e2 s2 ⟨a, b⟩ => by
    subst a b
    exact ⟨isEndB_ok he, r, hres, rfl, rfl⟩)
  subst e1 e2
  exact hc

theorem touch_gen (h h1 h1' : H) {ids : List Nat} (hs : h1.sub h) (n : h1.n = h.n) (m : h1.m = h.m) (hi : ∀ id, (h1.objs id).isSome → id ∈ ids) (le : h.n ≤ h1'.n) (lem : h.m ≤ h1'.m) :
    Touch h h1 h1' (h.patch h1 h1') ⟨[], ids ++ (List.range (h1'.n - h.n)).map (h.n + ·), h1.toks ++ h1'.toks⟩ where
  sub := hs
  n := n
  m := m
  eq := rfl
  rd id x := .inr (List.mem_append_left _ (hi id x))
  wr id a b := List.mem_append_right _ (List.mem_map.2 ⟨id - h.n, by simp; omega, by omega⟩)
  chg id x hx := absurd (List.mem_append_left _ (hi id x)) hx
  tk t x := List.mem_append_left _ x
  tn t x := List.mem_append_right _ x
  le := by omega
  lem := by omega

theorem cut_sub (h : H) (ids toks : List Nat) : (h.cut ids toks).sub h := by
  refine ⟨fun j o hj => ?_, fun t ht => ?_⟩
  · simp only [H.cut] at hj
    split at hj
    · exact hj
    · cases hj
  · simp only [H.cut, List.mem_filter] at ht
    exact ht.1
theorem cut_ids (h : H) (ids toks : List Nat) (id : Nat) (hx : ((h.cut ids toks).objs id).isSome) : id ∈ ids := by
  simp only [H.cut] at hx
  split at hx
  · rename_i e; simpa using e
  · cases hx

theorem callF_ok (ok : T.Ok P) (nm : T.named P = true) {pr : Prims} (hpr : PrimsOk P pr) {rn : Nat → AC → St → Option (AExit × St)} (hr : RunsOk P rn) {f : Nat} {args : List AV} {h h' : H} {r : AV} {en : Ent} (hc : callF T pr rn f args h = some (r, h', en)) :
    (∃ h1 h1', Touch h h1 h1' h' en ∧ ACalls P f args h1 r h1') ∧ ∃ fn, P.funcs[f]? = some fn ∧ fn.body.isSome = true ∧ fn.name ≠ "runtime.NumGoroutine" := by
  unfold callF at hc
  split at hc
  · rename_i q hq
    cases hc
    exact hpr _ _ _ _ _ _ hq
  split at hc
  · cases hc
  · rename_i F hF
    obtain ⟨fi, fx⟩ := FT.get_ok ok nm hF
    refine ⟨?_, fx⟩
    split at hc
    · cases hc
    · rename_i hl
      have hl := Nat.le_of_ble_eq_true hl
      split at hc
      · rename_i hp
        split at hc
        · rename_i e s' hrun
          split at hc
          · rename_i r' he hres
            have ac := acalls_run hr fi hl hrun he hres
            split at hc
            · rename_i hpr
              cases hc
              exact ⟨_, _, touch_none h, ac.pure (allPure_ok _ hp) (VSub.refl _) (isPure_ok _ hpr)⟩
            · split at hc
              · rename_i hb
                cases hc
                simp only [Bool.and_eq_true] at hb
                refine ⟨_, _, ?_, ac⟩
                have := touch_gen h (H0 h.n h.m) s'.h (ids := []) ⟨fun j o hj => by simp [H0, H.only, none'] at hj, fun t ht => by simp [H0, H.only] at ht⟩ rfl rfl (fun id hx => by simp [H0, H.only, none'] at hx) (Nat.le_of_ble_eq_true hb.1) (Nat.le_of_ble_eq_true hb.2)
                simpa [H0, H.only] using this
              · cases hc
          · cases hc
        · cases hc
      · simp only at hc
        split at hc
        · rename_i e s' hrun
          split at hc
          · rename_i r' he hres
            have ac := acalls_run hr fi hl hrun he hres
            split at hc
            · rename_i hb
              cases hc
              simp only [Bool.and_eq_true] at hb
              exact ⟨_, _, touch_gen h _ s'.h (cut_sub h _ _) rfl rfl (cut_ids h _ _) (Nat.le_of_ble_eq_true hb.1) (Nat.le_of_ble_eq_true hb.2), ac⟩
            · cases hc
          · cases hc
        · cases hc

theorem runItems_ok {call : Nat → List AV → H → Option (AV × H × Ent)} (hcall : ∀ f args h r h' en, call f args h = some (r, h', en) → (∃ h1 h1', Touch h h1 h1' h' en ∧ ACalls P f args h1 r h1') ∧ ∃ fn, P.funcs[f]? = some fn ∧ fn.body.isSome = true ∧ fn.name ≠ "runtime.NumGoroutine") {N : Nat} {K : Tm → H → List Ent → Prop} :
    ∀ {items : List AItem} {t t' : Tm} {h h' : H} {log log' : List Ent}, runItems call items t h log = some (t', h', log') → K t' h' log'.reverse → WpItems P N items t h log K
  | [], t, t', h, h', log, log', hr, hk => by
    simp only [runItems, Option.some.injEq, Prod.mk.injEq] at hr
    obtain ⟨rfl, rfl, rfl⟩ := hr
    exact WpItems.nil hk
  | ⟨dst, g, op⟩ :: its, t, t', h, h', log, log', hr, hk => by
    simp only [runItems] at hr
    split at hr
    · rename_i hg
      split at hr
      · split at hr
        · rename_i f args r h2 en hx
          obtain ⟨⟨h1, h1', tc, ac⟩, -⟩ := hcall _ _ _ _ _ _ hx
          exact WpItems.step tc (fun ops i o ho hit => itrun_call ho hit hg rfl (VSubs.refl _) ac) (fun hh => by simp [touchy] at hh) (runItems_ok hcall hr hk)
        · cases hr
      · rename_i y args
        split at hr
        · rename_i f first caps hy
          split at hr
          · rename_i r h2 en hx
            obtain ⟨⟨h1, h1', tc, ac⟩, fn, f1, f2, f3⟩ := hcall _ _ _ _ _ _ hx
            exact WpItems.step tc (fun ops i o ho hit => itrun_callv ho hit hg rfl hy f1 f2 f3 (VSubs.refl _) ac) (fun hh => by simp [touchy] at hh) (runItems_ok hcall hr hk)
          · cases hr
        · cases hr
      · split at hr
        · rename_i x h2 en hx
          have e : evalOps [⟨dst, g, op⟩] t h log = ([], putT t dst x, h2, en :: log) := by simp only [evalOps, hg, hx]
          intro ops i hi hc
          obtain ⟨o, ho, hit, hi', hc'⟩ := items_cons hi hc
          obtain ⟨h1, h1', tc, run⟩ := itrun_op ho hit hg hx
          obtain ⟨recs, t', hh', ch, hk2, hen⟩ := runItems_ok (N := N) hcall hr hk ops (i + 1) hi' hc'
          have hdst : dst = o.dst := by
            unfold cItem at hit
            split at hit
            · split at hit <;> cases hit; rfl
            · cases hit
          refine ⟨⟨t, h, h1, h1', h2, x, en⟩ :: recs, t', hh', .cons ho rfl rfl tc run (by rw [← hdst]; exact ch), by simpa using hk2, ?_⟩
          intro k r it' hr' hit' ht
          cases k with
          | zero =>
            simp at hr' hit'; subst hr' hit'
            rcases aop_ent ht hx with h | ⟨n, y, h⟩
            · exact h
            · simp only at h; rw [h] at ht; simp [touchy] at ht
          | succ k => simp at hr' hit'; exact hen k r it' hr' hit' ht
        · cases hr
    · rename_i hg
      exact WpItems.step (touch_none h) (fun ops i o ho hit => itrun_skip ho hit hg) (fun _ => rfl) (runItems_ok hcall hr hk)
    · cases hr

theorem runS_ok {rn : AC → St → Option (AExit × St)} {nm : St → St} {N : Nat} (hr : ∀ c s e s', rn c s = some (e, s') → Wp P N c s fun e2 s2 => e2 = e ∧ s2 = s') (hn : ∀ s, StLe s (nm s)) :
    ∀ {k : Nat} {c cur : AC} {s : St} {e : AExit} {s' : St}, runS rn nm k c cur s = some (e, s') → WpS P N c cur s fun e2 s2 => e2 = e ∧ s2 = s'
  | 0, _, _, _, _, _, h => by cases h
  | k + 1, c, cur, s, e, s', h => by
    simp only [runS] at h
    split at h
    · rename_i l s1 h1
      refine WpS.step (Wp.mono (hr _ _ _ _ h1) fun e2 s2 ⟨e1, e3⟩ => ?_)
      subst e1 e3
      simp only [AExit.within]
      split at h
      · rename_i rest hf
        simp only [hf]
        exact WpS.le (hn _) (runS_ok hr hn h)
      · rename_i hf
        simp only [hf]
        simp only [Option.some.injEq, Prod.mk.injEq] at h
        obtain ⟨rfl, rfl⟩ := h
        exact ⟨rfl, rfl⟩
    · rename_i hne
      refine WpS.step (Wp.mono (hr _ _ _ _ h) fun e2 s2 ⟨e1, e3⟩ => ?_)
      subst e1 e3
      cases e2 with
      | normal => exact ⟨rfl, rfl⟩
      | exit i => exact ⟨rfl, rfl⟩
      | goto l => exact absurd h (hne l s2)
      | ret => exact ⟨rfl, rfl⟩

theorem run_ok (ok : T.Ok P) (nm : T.named P = true) {pr : Prims} (hpr : PrimsOk P pr) : ∀ k, RunsOk P (run T pr k) := by
  intro k
  induction k using Nat.strongRecOn with
  | _ k ih =>
    intro N c s e s' h
    cases k with
    | zero => cases h
    | succ k =>
      have ihk := ih k (Nat.lt_succ_self k)
      cases c with
      | skip => simp only [run, Option.some.injEq, Prod.mk.injEq] at h; obtain ⟨rfl, rfl⟩ := h; exact Wp.skip ⟨rfl, rfl⟩
      | ret => simp only [run, Option.some.injEq, Prod.mk.injEq] at h; obtain ⟨rfl, rfl⟩ := h; exact Wp.ret ⟨rfl, rfl⟩
      | exit i => simp only [run, Option.some.injEq, Prod.mk.injEq] at h; obtain ⟨rfl, rfl⟩ := h; exact Wp.exit ⟨rfl, rfl⟩
      | reg items p =>
        simp only [run] at h
        split at h
        · rename_i t h' l hi
          split at h
          · rename_i hp
            simp only [Option.some.injEq, Prod.mk.injEq] at h
            obtain ⟨rfl, rfl⟩ := h
            exact Wp.reg (runItems_ok (fun f args h r h' en hx => callF_ok ok nm hpr ihk hx) hi ⟨pairsQB_ok hp, rfl, rfl⟩)
          · cases h
        · cases h
      | seq a b =>
        simp only [run] at h
        split at h
        · rename_i s1 ha
          refine Wp.seq (Wp.mono (ihk _ _ _ _ _ ha) fun e2 s2 ⟨e1, e3⟩ => ?_)
          subst e1 e3
          exact ihk _ _ _ _ _ h
        · rename_i hne
          refine Wp.seq (Wp.mono (ihk _ _ _ _ _ h) fun e2 s2 ⟨e1, e3⟩ => ?_)
          subst e1 e3
          cases e2 with
          | normal => exact absurd h (hne s2)
          | exit i => exact ⟨rfl, rfl⟩
          | goto l => exact ⟨rfl, rfl⟩
          | ret => exact ⟨rfl, rfl⟩
      | label l => simp only [run, Option.some.injEq, Prod.mk.injEq] at h; obtain ⟨rfl, rfl⟩ := h; exact Wp.label ⟨rfl, rfl⟩
      | goto l => simp only [run, Option.some.injEq, Prod.mk.injEq] at h; obtain ⟨rfl, rfl⟩ := h; exact Wp.goto ⟨rfl, rfl⟩
      | scope a =>
        simp only [run] at h
        exact Wp.scope (runS_ok (fun c s e s' => ihk N c s e s') (norm_le N) h)
      | cond c a b =>
        simp only [run] at h
        split at h
        · rename_i hb; exact Wp.cond_true hb (ihk _ _ _ _ _ h)
        · rename_i hb; exact Wp.cond_false hb (ihk _ _ _ _ _ h)
        · cases h
      | block id a =>
        simp only [run] at h
        split at h
        · rename_i i s1 ha
          refine Wp.block (Wp.mono (ihk _ _ _ _ _ ha) fun e2 s2 ⟨e1, e3⟩ => ?_)
          subst e1 e3
          split at h
          · rename_i hid
            have hid := Nat.eq_of_beq_eq_true hid
            simp only [Option.some.injEq, Prod.mk.injEq] at h
            obtain ⟨rfl, rfl⟩ := h
            simp only [AExit.inBlock, hid, if_true, and_self]
          · rename_i hid
            have hid := Nat.ne_of_beq_eq_false hid
            simp only [Option.some.injEq, Prod.mk.injEq] at h
            obtain ⟨rfl, rfl⟩ := h
            simp only [AExit.inBlock, if_neg hid, and_self]
        · rename_i hne
          refine Wp.block (Wp.mono (ihk _ _ _ _ _ h) fun e2 s2 ⟨e1, e3⟩ => ?_)
          subst e1 e3
          cases e2 with
          | normal => exact ⟨rfl, rfl⟩
          | exit i => exact absurd h (hne i s2)
          | goto l => exact ⟨rfl, rfl⟩
          | ret => exact ⟨rfl, rfl⟩
      | loop a =>
        refine Wp.loop (β := Nat × St) (fun b => b.2) (fun b => b.1 ≤ k ∧ run T pr (b.1 + 1) N (.loop a) b.2 = some (e, s')) (fun b => b.1) (k, s) ⟨Nat.le_refl _, h⟩ (StLe.refl _) ?_
        rintro ⟨j, s0⟩ ⟨hj, hb⟩
        simp only [run] at hb
        have ihj := ih j (by simp only at hj; omega)
        split at hb
        · rename_i s1 ha
          refine Wp.mono (ihj _ _ _ _ _ ha) fun e2 s2 ⟨e1, e3⟩ => ?_
          subst e1 e3
          cases j with
          | zero => cases hb
          | succ j => exact ⟨(j, norm N s2), ⟨by simp only at hj ⊢; omega, hb⟩, Nat.lt_succ_self _, norm_le N s2⟩
        · rename_i hne
          refine Wp.mono (ihj _ _ _ _ _ hb) fun e2 s2 ⟨e1, e3⟩ => ?_
          subst e1 e3
          cases e2 with
          | normal => exact absurd hb (hne s2)
          | exit i => exact ⟨rfl, rfl⟩
          | goto l => exact ⟨rfl, rfl⟩
          | ret => exact ⟨rfl, rfl⟩

/-- the same at every number -/
theorem ACalls.pure0 {f : FuncId} {args : List AV} {r r' : AV} {h' : H} (ha : VPures args) (hc : ACalls P f args (H0 0 0) r h') (hs : VSub r r') (hp : VPure r') : PCalls P f args r' := by
  intro n m G w vs hv R F
  let G0 : Ghost := { G with dom := fun _ => False, tdom := fun _ => False }
  refine (hc G0 w vs (ha G G0 w vs rfl rfl hv) only_rep ⟨fun _ _ _ h => h, fun _ _ _ h => h⟩).mono ?_
  rintro e w' ⟨v, G', rfl, T, R', V⟩
  refine ⟨v, { G' with dom := G.dom, ι := G.ι, tdom := G.tdom, τ := G.τ }, rfl, ?_, only_rep, hp G' _ w' v rfl rfl (hs G' w' v V)⟩
  have hO : ∀ {G : Ghost} {n m} B, ¬ (H0 n m).O G B := fun B => only_O B
  have hT : ∀ {G : Ghost} {n m} B, ¬ (H0 n m).T G B := fun B ⟨t, ht, _⟩ => by simp [H0, H.only] at ht
  constructor
  · exact fun _ x => x
  · exact fun _ => .inl
  · exact fun _ _ => rfl
  · exact fun _ x => x
  · exact fun _ => .inl
  · exact fun _ _ => rfl
  · exact Nat.le_refl _
  · exact Nat.le_refl _
  · exact T.size_le
  · exact T.os
  · exact T.output
  · exact T.form
  · exact fun B hB _ _ => T.keep B hB (hO B) (hT B)
  · exact fun B hB _ => T.own_keep B hB (hO B)
  · exact fun B hB _ _ => T.lim_keep B hB (hO B) (hT B)
  · exact fun B hB x => absurd x (hT B)
  · exact fun B _ x => absurd x (hO B)
  · exact fun B _ x => absurd x (hT B)
  · exact fun j o x => by simp [H0, H.only, none'] at x
  · exact fun t x => by simp [H0, H.only] at x

/-- a call that only computes, shown at the numbers 0, 0 -/
theorem FnIs.pcalls0 {f : FuncId} {N : Nat} {ac : AC} {args : List AV} {ds : List RV} {r : AV} (hF : FnIs P f N ac ds) (hl : args.length ≤ N) (ha : allPure args = true) (hp : isPure r = true) (hw : Wp P N ac ⟨initT args, H0 0 0⟩ fun e s' => isEnd e ∧ ∃ q, resOf ds s'.t s'.h = some q ∧ VSub q r) : PCalls P f args r := by
  obtain ⟨r', h', hcall, hs⟩ := hF.acalls (Q := fun r' _ => VSub r' r) hl hw
  exact hcall.pure0 (allPure_ok _ ha) hs (isPure_ok _ hp)

/-- a closed call, answered by the kernel -/
def runBoolP (T : FT) (pr : Prims) (k f : Nat) (args : List AV) : Option Bool :=
  match allPure args, callF T pr (run T pr k) f args (H0 0 0) with
  | true, some (.bool b, _, _) => some b
  | _, _ => none

theorem pcalls_runP (ok : T.Ok P) (nm : T.named P = true) {pr : Prims} (hpr : PrimsOk P pr) {k f : Nat} {args : List AV} {b : Bool} (h : runBoolP T pr k f args = some b) : PCalls P f args (.bool b) := by
  unfold runBoolP at h
  split at h
  · rename_i b' h' en hp hc
    cases h
    obtain ⟨⟨h1, h1', tc, ac⟩, -⟩ := callF_ok ok nm hpr (run_ok ok nm hpr k) hc
    have e : h1 = H0 0 0 := by
      refine H.ext (fun j => ?_) tc.n ?_ tc.m
      · cases hj : h1.objs j with
        | none => rfl
        | some o => have := tc.sub.1 j o hj; simp [H0, H.only, none'] at this
      · cases ht : h1.toks with
        | nil => rfl
        | cons t l => have := tc.sub.2 t (by rw [ht]; simp); simp [H0, H.only] at this
    subst e
    exact ac.pure0 (allPure_ok _ hp) (VSub.refl _) (isPure_ok _ rfl)
  · cases h

def runBool (T : FT) (k f : Nat) (args : List AV) : Option Bool := runBoolP T noPrims k f args
theorem pcalls_run (ok : T.Ok P) (nm : T.named P = true) {k f : Nat} {args : List AV} {b : Bool} (h : runBool T k f args = some b) : PCalls P f args (.bool b) := pcalls_runP ok nm noPrims_ok h
end
end Go.Av
