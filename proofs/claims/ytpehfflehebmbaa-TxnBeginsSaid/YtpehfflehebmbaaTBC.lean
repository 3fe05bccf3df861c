/- Parts of a proof: a layer of abstract values over the model, the functions' walks, plain laws. -/
import Derived.Deep.CondSized
import Derived.IntWalk
import Derived.KernelRfl
import Derived.Laws.Append
import Derived.Laws.AppendOwn
import Derived.Laws.BytesArg
import Derived.Laws.Cover3
import Derived.Laws.Entries
import Derived.Laws.IdiomCopy
import Derived.Laws.IdiomStrings
import Derived.Laws.Pointers
import Derived.Laws.Small
import Derived.Laws.Strings
import Derived.Laws.StructEq
import Derived.MapKept
import Derived.OpenShut
import Derived.Orders
import Derived.OrdersIn
import Derived.ProofKit
import Derived.RangeFuncRecord
import Derived.RangeFuncSeq
import Derived.ReadAgain
import Derived.Scope
import Derived.Shelf.Slices.Cells
import Derived.Shelf.Slices.Delete
import Derived.Shelf.Spec.SlicesInsertGrow
import Derived.SizedLaws
import Derived.Test.YtpehfflehebmbaaRows
import Derived.Test.YtpehfflehebmbaaTBB
section
set_option linter.unusedVariables false
set_option linter.unusedSimpArgs false
namespace Go.Av
structure Fun where
  N : Nat
  ac : AC
  ds : List RV
inductive FT where
  | leaf
  | node (k : Nat) (F : Fun) (l r : FT)
def FT.get (f : Nat) : FT → Option Fun
  | .leaf => none
  | .node k F l r => match Nat.beq f k with
    | true => some F
    | false => match Nat.ble f k with
      | true => FT.get f l
      | false => FT.get f r
def FT.Ok (P : Program) : FT → Prop
  | .leaf => True
  | .node k F l r => FnIs P k F.N F.ac F.ds ∧ l.Ok P ∧ r.Ok P
def FT.named (P : Program) : FT → Bool
  | .leaf => true
  | .node k F l r => ((P.funcs[k]?).any fun fn => fn.name != "runtime.NumGoroutine") && l.named P && r.named P
theorem FT.get_ok {P : Program} {f : Nat} {F : Fun} : ∀ {T : FT}, T.Ok P → T.named P = true → T.get f = some F → FnIs P f F.N F.ac F.ds ∧ ∃ fn, P.funcs[f]? = some fn ∧ fn.body.isSome = true ∧ fn.name ≠ "runtime.NumGoroutine"
  | .leaf, _, _, h => by cases h
  | .node k F' l r, ok, nm, h => by
    simp only [FT.named, Bool.and_eq_true] at nm
    simp only [FT.get] at h
    split at h
    · rename_i e
      cases h
      have e := Nat.eq_of_beq_eq_true e
      subst e
      refine ⟨ok.1, ?_⟩
      obtain ⟨fn, h1, h2, h3, h4⟩ := ok.1
      refine ⟨fn, h1, ?_, ?_⟩
      · obtain ⟨code, hb, _⟩ := Option.bind_eq_some_iff.1 h3
        rw [hb]; rfl
      · have := nm.1.1
        rw [h1] at this
        simpa using this
    · split at h
      · exact FT.get_ok ok.2.1 nm.1.2 h
      · exact FT.get_ok ok.2.2 nm.2 h
mutual
def idsA : AV → List Nat
  | .sl _ xs _ => idsAs xs
  | .ref cs => idsAs cs
  | .agg cs => idsAs cs
  | .tup cs => idsAs cs
  | .ptr i _ => [i]
  | .tsl _ i _ _ _ => [i]
  | .mp i => [i]
  | .yld i => [i]
  | .slt _ xs ys => idsAs xs ++ idsAs ys
  | .clo _ a b => idsAs a ++ idsAs b
  | .ifc _ x => idsA x
  | _ => []
def idsAs : List AV → List Nat
  | [] => []
  | x :: xs => match idsA x with
    | [] => idsAs xs
    | l => l ++ idsAs xs
end
def toksC : Cap → List Nat
  | .own t => [t]
  | _ => []
mutual
def toksA : AV → List Nat
  | .sl _ xs c => toksC c ++ toksAs xs
  | .ref cs => toksAs cs
  | .agg cs => toksAs cs
  | .tup cs => toksAs cs
  | .clo _ a b => toksAs a ++ toksAs b
  | .ifc _ x => toksA x
  | .slt _ xs ys => toksAs xs ++ toksAs ys
  | _ => []
def toksAs : List AV → List Nat
  | [] => []
  | x :: xs => match toksA x with
    | [] => toksAs xs
    | l => l ++ toksAs xs
end
def reach (objs : Nat → Option Obj) : Nat → List Nat → List Nat → List Nat
  | 0, _, seen => seen
  | _ + 1, [], seen => seen
  | k + 1, i :: todo, seen => match seen.contains i with
    | true => reach objs k todo seen
    | false => match objs i with
      | some (.cells cs) => reach objs k (idsAs cs ++ todo) (i :: seen)
      | some (.map es) => reach objs k (es.flatMap (fun e => idsA e.1 ++ idsA e.2) ++ todo) (i :: seen)
      | some (.loop _ _ _ _ _ _ _) => reach objs k todo seen
      | none => reach objs k todo seen
def toksIn (objs : Nat → Option Obj) (l : List Nat) : List Nat := l.flatMap fun j => match objs j with
  | some (.cells cs) => toksAs cs
  | some (.map es) => es.flatMap fun e => toksA e.1 ++ toksA e.2
  | some (.loop _ _ _ _ _ _ _) => []
  | none => []
def H.cut (h : H) (ids toks : List Nat) : H := ⟨fun j => match ids.contains j with | true => h.objs j | false => none, h.n, h.toks.filter fun t => toks.contains t, h.m⟩
def isEndB : AExit → Bool
  | .normal | .ret => true
  | _ => false
def pairsB : List (Nat × Nat) → List Ent → Bool
  | [], _ => true
  | (i, j) :: l, log =>
    let e := log.getD i ent0
    let f := log.getD j ent0
    e.wr.all (fun id => !f.rd.contains id && !f.wr.contains id) && f.wr.all (fun id => !e.rd.contains id && !e.wr.contains id) && e.tk.all (fun t => !f.tk.contains t) && pairsB l log
def pairsQB : Option (List (Nat × Nat)) → List Ent → Bool
  | none, _ => true
  | some l, log => pairsB l log
theorem pairsB_ok : ∀ {l : List (Nat × Nat)} {log : List Ent}, pairsB l log = true → pairsOk l log
  | [], _, _ => trivial
  | (i, j) :: l, log, h => by
    simp only [pairsB, Bool.and_eq_true, List.all_eq_true, Bool.not_eq_true', List.contains_eq_mem, decide_eq_false_iff_not] at h
    exact ⟨⟨fun id hid => h.1.1.1 id hid, fun id hid => h.1.1.2 id hid, fun t ht => h.1.2 t ht⟩, pairsB_ok h.2⟩
theorem pairsQB_ok {p : Option (List (Nat × Nat))} {log : List Ent} (h : pairsQB p log = true) : pairsQ p log := by
  cases p with
  | none => trivial
  | some l => exact pairsB_ok h
abbrev Prims := Nat → List AV → H → Option (AV × H × Ent)
def noPrims : Prims := fun _ _ _ => none
def callF (T : FT) (pr : Prims) (rn : Nat → AC → St → Option (AExit × St)) (f : Nat) (args : List AV) (h : H) : Option (AV × H × Ent) :=
  match pr f args h with
  | some r => some r
  | none => match T.get f with
  | none => none
  | some F => match Nat.ble args.length F.N with
    | false => none
    | true => match allPure args with
      | true => match rn F.N F.ac ⟨initT args, H0 h.n h.m⟩ with
        | some (e, s') => match isEndB e, resOf F.ds s'.t s'.h with
          | true, some r => match isPure r with
            | true => some (r, h, ent0)
            | false => match Nat.ble h.n s'.h.n && Nat.ble h.m s'.h.m with
              | true => some (r, h.patch (H0 h.n h.m) s'.h, ⟨[], (List.range (s'.h.n - h.n)).map (h.n + ·), s'.h.toks⟩)
              | false => none
          | _, _ => none
        | none => none
      | false =>
        let ids := reach h.objs 1000000 (idsAs args) []
        let h1 := h.cut ids (toksAs args ++ toksIn h.objs ids)
        match rn F.N F.ac ⟨initT args, h1⟩ with
        | some (e, s') => match isEndB e, resOf F.ds s'.t s'.h with
          | true, some r => match Nat.ble h.n s'.h.n && Nat.ble h.m s'.h.m with
            | true => some (r, h.patch h1 s'.h, ⟨[], ids ++ (List.range (s'.h.n - h.n)).map (h.n + ·), h1.toks ++ s'.h.toks⟩)
            | false => none
          | _, _ => none
        | none => none
def runItems (call : Nat → List AV → H → Option (AV × H × Ent)) : List AItem → Tm → H → List Ent → Option (Tm × H × List Ent)
  | [], t, h, l => some (t, h, l)
  | ⟨dst, g, op⟩ :: its, t, h, l => match guardOf t g with
    | some true => match op with
      | .call f args => match call f (args.map (ev t)) h with
        | some (r, h', en) => runItems call its (putT t dst r) h' (en :: l)
        | none => none
      | .callv y args => match ev t y with
        | .clo (.func f) first caps => match call f (first ++ args.map (ev t) ++ caps) h with
          | some (r, h', en) => runItems call its (putT t dst r) h' (en :: l)
          | none => none
        | _ => none
      | op => match aop (ev t) h op with
        | some (x, h', en) => runItems call its (putT t dst x) h' (en :: l)
        | none => none
    | some false => runItems call its (putT t dst (.sc undef)) h (ent0 :: l)
    | none => none
def lookN (l : List (Nat × Obj)) (i : Nat) : Option Obj := match l with
  | [] => none
  | (j, o) :: r => match Nat.beq i j with
    | true => some o
    | false => lookN r i
def norm (N : Nat) (s : St) : St :=
  let l := (List.range N).map s.t
  let o := (List.range s.h.n).filterMap fun j => (s.h.objs j).map fun x => (j, x)
  ⟨fun i => l.getD i .any, { s.h with objs := lookN o }⟩
theorem lookN_ok {f : Nat → Option Obj} : ∀ {l : List Nat} {i : Nat} {o : Obj}, lookN (l.filterMap fun j => (f j).map fun x => (j, x)) i = some o → f i = some o
  | [], i, o, h => by cases h
  | j :: l, i, o, h => by
    simp only [List.filterMap_cons] at h
    cases hj : f j with
    | none => rw [hj] at h; exact lookN_ok h
    | some x =>
      rw [hj] at h
      simp only [Option.map_some, lookN] at h
      split at h
      · rename_i e
        have e := Nat.eq_of_beq_eq_true e
        subst e; cases h; exact hj
      · exact lookN_ok h
def runS (rn : AC → St → Option (AExit × St)) (nm : St → St) : Nat → AC → AC → St → Option (AExit × St)
  | 0, _, _, _ => none
  | k + 1, c, cur, s => match rn cur s with
    | some (.goto l, s') => match findL c l with
      | some rest => runS rn nm k c rest (nm s')
      | none => some (.goto l, s')
    | r => r
def run (T : FT) (pr : Prims) : Nat → Nat → AC → St → Option (AExit × St)
  | 0, _, _, _ => none
  | k + 1, N, c, s => match c with
    | .skip => some (.normal, s)
    | .ret => some (.ret, s)
    | .exit i => some (.exit i, s)
    | .reg items p => match runItems (callF T pr (run T pr k)) items s.t s.h [] with
      | some (t, h, l) => match pairsQB p l.reverse with
        | true => some (.normal, ⟨t, h⟩)
        | false => none
      | none => none
    | .seq a b => match run T pr k N a s with
      | some (.normal, s') => run T pr k N b s'
      | r => r
    | .cond c a b => match ev s.t c with
      | .bool true => run T pr k N a s
      | .bool false => run T pr k N b s
      | _ => none
    | .block id a => match run T pr k N a s with
      | some (.exit i, s') => match Nat.beq i id with
        | true => some (.normal, s')
        | false => some (.exit i, s')
      | r => r
    | .loop a => match run T pr k N a s with
      | some (.normal, s') => run T pr k N (.loop a) (norm N s')
      | r => r
    | .label _ => some (.normal, s)
    | .goto l => some (.goto l, s)
    | .scope a => runS (run T pr k N) (norm N) k a a s
    | .rfun _ _ _ _ => none
section
variable {P : Program} {T : FT}
theorem isEndB_ok {e : AExit} (h : isEndB e = true) : isEnd e := by cases e <;> simp_all [isEndB, isEnd]
theorem touch_gen (h h1 h1' : H) {ids : List Nat} (hs : h1.sub h) (n : h1.n = h.n) (m : h1.m = h.m) (hi : ∀ id, (h1.objs id).isSome → id ∈ ids) (le : h.n ≤ h1'.n) (lem : h.m ≤ h1'.m) :
    Touch h h1 h1' (h.patch h1 h1') ⟨[], ids ++ (List.range (h1'.n - h.n)).map (h.n + ·), h1.toks ++ h1'.toks⟩ where
  sub := hs
  n := n
  m := m
  eq := rfl
  rd id x := .inr (List.mem_append_left _ (hi id x))
  wr id a b := List.mem_append_right _ (List.mem_map.2 ⟨id - h.n, by simp; omega, by omega⟩)
  chg id x hx := absurd (List.mem_append_left _ (hi id x)) hx
  tk t x := List.mem_append_left _ x
  tn t x := List.mem_append_right _ x
  le := by omega
  lem := by omega
theorem cut_sub (h : H) (ids toks : List Nat) : (h.cut ids toks).sub h := by
  refine ⟨fun j o hj => ?_, fun t ht => ?_⟩
  · simp only [H.cut] at hj
    split at hj
    · exact hj
    · cases hj
  · simp only [H.cut, List.mem_filter] at ht
    exact ht.1
theorem cut_ids (h : H) (ids toks : List Nat) (id : Nat) (hx : ((h.cut ids toks).objs id).isSome) : id ∈ ids := by
  simp only [H.cut] at hx
  split at hx
  · rename_i e; simpa using e
  · cases hx
theorem ACalls.pure0 {f : FuncId} {args : List AV} {r r' : AV} {h' : H} (ha : VPures args) (hc : ACalls P f args (H0 0 0) r h') (hs : VSub r r') (hp : VPure r') : PCalls P f args r' := by
  intro n m G w vs hv R F
  let G0 : Ghost := { G with dom := fun _ => False, tdom := fun _ => False }
  refine (hc G0 w vs (ha G G0 w vs rfl rfl hv) only_rep ⟨fun _ _ _ h => h, fun _ _ _ h => h⟩).mono ?_
  rintro e w' ⟨v, G', rfl, T, R', V⟩
  refine ⟨v, { G' with dom := G.dom, ι := G.ι, tdom := G.tdom, τ := G.τ }, rfl, ?_, only_rep, hp G' _ w' v rfl rfl (hs G' w' v V)⟩
  have hO : ∀ {G : Ghost} {n m} B, ¬ (H0 n m).O G B := fun B => only_O B
  have hT : ∀ {G : Ghost} {n m} B, ¬ (H0 n m).T G B := fun B ⟨t, ht, _⟩ => by simp [H0, H.only] at ht
  constructor
  · exact fun _ x => x
  · exact fun _ => .inl
  · exact fun _ _ => rfl
  · exact fun _ x => x
  · exact fun _ => .inl
  · exact fun _ _ => rfl
  · exact Nat.le_refl _
  · exact Nat.le_refl _
  · exact T.size_le
  · exact T.os
  · exact T.output
  · exact T.form
  · exact fun B hB _ _ => T.keep B hB (hO B) (hT B)
  · exact fun B hB _ => T.own_keep B hB (hO B)
  · exact fun B hB _ _ => T.lim_keep B hB (hO B) (hT B)
  · exact fun B hB x => absurd x (hT B)
  · exact fun B _ x => absurd x (hO B)
  · exact fun B _ x => absurd x (hT B)
  · exact fun j o x => by simp [H0, H.only, none'] at x
  · exact fun t x => by simp [H0, H.only] at x
theorem FnIs.pcalls0 {f : FuncId} {N : Nat} {ac : AC} {args : List AV} {ds : List RV} {r : AV} (hF : FnIs P f N ac ds) (hl : args.length ≤ N) (ha : allPure args = true) (hp : isPure r = true) (hw : Wp P N ac ⟨initT args, H0 0 0⟩ fun e s' => isEnd e ∧ ∃ q, resOf ds s'.t s'.h = some q ∧ VSub q r) : PCalls P f args r := by
  obtain ⟨r', h', hcall, hs⟩ := hF.acalls (Q := fun r' _ => VSub r' r) hl hw
  exact hcall.pure0 (allPure_ok _ ha) hs (isPure_ok _ hp)
end
end Go.Av
end
section
set_option linter.unusedSimpArgs false
set_option linter.unusedVariables false
set_option maxRecDepth 10000
namespace Go.Av
section
variable {P : Program}
def cloneC (sz bytes : Nat) : AC := (.seq (.reg [⟨some 2, none, .mov (.c (.sl sz [] (.exact 0)))⟩] none)
 (.seq (.seq (.reg [⟨some 3, none, .mov (.t 0)⟩, ⟨some 4, none, .eqN false (.t 3)⟩] none)
 (.cond (.t 4) (.seq (.reg [⟨some 2, none, .mov (.c (.sl sz [] (.exact 0)))⟩] none)
 .ret) .skip))
 (.seq (.reg [⟨some 5, none, .buildSl sz []⟩, ⟨some 6, none, .mov (.t 0)⟩, ⟨some 7, none, .app false sz bytes (.t 5) (.t 6)⟩, ⟨some 2, none, .mov (.t 7)⟩] none)
 .ret)))
theorem VSub.own {sz : Nat} {xs : List AV} {t : Nat} : VSub (.sl sz xs (.own t)) (.sl sz xs .any) := VSub.cap
theorem VSub.sc_empty {sz : Nat} {a : Option Addr} {C : Nat} (h : C = 0 ∨ ∃ B off, a = some ⟨B, off, none⟩) : VSub (.sc (.slice a 0 C)) (.sl sz [] .any) := by
  intro G w v hv
  simp only [VRel] at hv
  subst hv
  unfold VRel
  rcases h with rfl | ⟨B, off, rfl⟩
  · exact .inl ⟨rfl, ⟨a, rfl⟩, trivial⟩
  · exact .inr ⟨B, off, C, [], rfl, Nat.zero_le _, by simp, by simp [VElems], Imm.nil, trivial⟩
theorem ACalls.split_empty {f : FuncId} {sz : Nat} {c : Cap} {rest : List AV} {h h' : H} {r : AV} (hc : ∀ a C, (C = 0 ∨ ∃ B off, a = some ⟨B, off, none⟩) → ACalls P f (.sc (.slice a 0 C) :: rest) h r h') : ACalls P f (.sl sz [] c :: rest) h r h' := by
  intro G w vs hv R F
  simp only [VRels] at hv
  obtain ⟨v, us, rfl, hv, hr⟩ := hv
  simp only [VRel] at hv
  rcases hv with ⟨-, ⟨a, rfl⟩, -⟩ | ⟨B, off, C, ws, rfl, -⟩
  · exact hc a 0 (.inl rfl) G w _ (.cons (by simp [VRel]) hr) R F
  · exact hc _ C (.inr ⟨B, off, rfl⟩) G w _ (.cons (by simp [VRel]) hr) R F
theorem clone_gen {f : FuncId} {sz bytes : Nat} (hF : FnIs P f 8 (cloneC sz bytes) [.tmp 2]) (xs : List AV) (hp : allPure xs = true) (hb : xs.length * bytes ≤ 140737488355328) (hl : xs.length < 4611686018427387904) : PCalls P f [.sl sz xs .any] (.sl sz xs .any) := by
  cases xs with
  | nil =>
    intro n m
    refine ACalls.split_empty fun a C hC => ?_
    have : PCalls P f [.sc (.slice a 0 C)] (.sl sz [] .any) := by
      refine hF.pcalls (by simp) (allPure_ok _ rfl) (isPure_ok _ rfl) fun n m => ?_
      unfold cloneC
      refine Wp.seqReg (by simp only [go_sem, reduceIte, Nat.reduceEqDiff, Nat.reduceAdd, bx]; exact rfl) (by trivial) ?_
      refine Wp.seq ?_
      refine Wp.seqReg (by simp only [go_sem, reduceIte, Nat.reduceEqDiff, Nat.reduceAdd, bx]; exact rfl) (by trivial) ?_
      cases ha : a.isNone with
      | true =>
        refine Wp.cond_true (by simp only [go_sem, reduceIte, Nat.reduceEqDiff, Nat.reduceAdd, bx, ha]) ?_
        refine Wp.seqReg (by simp only [go_sem, reduceIte, Nat.reduceEqDiff, Nat.reduceAdd, bx]; exact rfl) (by trivial) ?_
        refine Wp.ret ⟨trivial, _, rfl, ?_⟩
        simp only [go_sem, reduceIte, Nat.reduceEqDiff, Nat.reduceAdd, bx]
        exact VSub.cap
      | false =>
        refine Wp.cond_false (by simp only [go_sem, reduceIte, Nat.reduceEqDiff, Nat.reduceAdd, bx, ha]) ?_
        refine Wp.skip ?_
        refine Wp.le (s' := ⟨tm [(0, .sl sz [] .any)], _⟩) (StLe.tm ⟨VSub.sc_empty hC, trivial⟩) ?_
        refine Wp.seqReg (by simp only [go_sem, reduceIte, Nat.reduceEqDiff, Nat.reduceAdd, bx, Nat.zero_mul, Nat.zero_le, and_self, or_true, if_true, Nat.reduceMul, Nat.reduceLT, Nat.reduceLeDiff, decide_true]; exact rfl) (by trivial) ?_
        refine Wp.ret ⟨trivial, _, rfl, ?_⟩
        simp only [go_sem, reduceIte, Nat.reduceEqDiff, Nat.reduceAdd, bx]
        exact VSub.cap
    exact this n m
  | cons x xs =>
    refine hF.pcalls (by simp) (allPure_ok _ (by simp [allPure, isPure, capPure] at hp ⊢; exact hp)) (isPure_ok _ (by simp [allPure, isPure, capPure] at hp ⊢; exact hp)) fun n m => ?_
    unfold cloneC
    refine Wp.seqReg (by simp only [go_sem, reduceIte, Nat.reduceEqDiff, Nat.reduceAdd, bx]; exact rfl) (by trivial) ?_
    refine Wp.seq ?_
    refine Wp.seqReg (by simp only [go_sem, reduceIte, Nat.reduceEqDiff, Nat.reduceAdd, bx]; exact rfl) (by trivial) ?_
    refine Wp.cond_false (by simp only [go_sem, reduceIte, Nat.reduceEqDiff, Nat.reduceAdd, bx]) ?_
    refine Wp.skip ?_
    simp only [List.length_cons] at hb hl
    have h1 : (0 + (xs.length + 1)) * bytes ≤ 140737488355328 := by rw [Nat.zero_add]; exact hb
    have h2 : 0 + (xs.length + 1) < 4611686018427387904 := by omega
    refine Wp.seqReg (by simp only [go_sem, reduceIte, Nat.reduceEqDiff, Nat.reduceAdd, bx, Nat.zero_mul, Nat.zero_le, and_self, or_true, true_or, if_true, Nat.reduceMul, Nat.reduceLT, Nat.reduceLeDiff, decide_true, hb, hl]; exact rfl) (by trivial) ?_
    refine Wp.ret ⟨trivial, _, rfl, ?_⟩
    simp only [go_sem, reduceIte, Nat.reduceEqDiff, Nat.reduceAdd, bx]
    exact VSub.cap
def OLe (f f' : Nat → Option Obj) : Prop := ∀ j o', f' j = some o' → ∃ o, f j = some o ∧ OSub o o'
theorem OLe.refl (f : Nat → Option Obj) : OLe f f := fun j o h => ⟨o, h, OSub.refl o⟩
theorem OLe.none (f : Nat → Option Obj) : OLe f none' := fun j o h => by cases h
theorem OLe.upd {f f' : Nat → Option Obj} {i : Nat} {o o' : Obj} (h : OLe f f') (hs : OSub o o') : OLe (upd f i (some o)) (upd f' i (some o')) := by
  intro j p hp
  simp only [Go.Av.upd] at hp ⊢
  split at hp
  · rename_i e; rw [if_pos e]; cases hp; exact ⟨o, rfl, hs⟩
  · rename_i e; rw [if_neg e]; exact h j p hp
theorem StLe.of {t t' : Tm} {f f' : Nat → Option Obj} {n n' m m' : Nat} {k k' : List Nat} (ht : ∀ i, VSub (t i) (t' i)) (ho : OLe f f') (hk : ∀ x ∈ k', x ∈ k) (hn : n ≤ n') (hm : m ≤ m') : StLe ⟨t, ⟨f, n, k, m⟩⟩ ⟨t', ⟨f', n', k', m'⟩⟩ :=
  StLe.mk' ht ⟨ho, hk⟩ hn hm
theorem VSub.own_of {sz : Nat} {xs : List AV} {k t : Nat} (h : k = xs.length) : VSub (.sl sz xs (.exact k)) (.sl sz xs (.own t)) := by
  intro G w v hv
  unfold VRel at hv ⊢
  rcases hv with ⟨a, b, -⟩ | ⟨B, off, C, vs, h1, h2, h3, h4, h5, h6⟩
  · exact .inl ⟨a, b, trivial⟩
  · exact .inr ⟨B, off, C, vs, h1, h2, h3, h4, h5, .inl (by simp only [CapOk] at h6; omega)⟩
theorem OLe.put {f f' : Nat → Option Obj} {i : Nat} {o o' : Obj} (h : OLe f f') (hf : f i = some o) (hs : OSub o o') : OLe f (Go.Av.upd f' i (some o')) := by
  intro j p hp
  simp only [Go.Av.upd] at hp
  split at hp
  · rename_i e; subst e; cases hp; exact ⟨o, hf, hs⟩
  · exact h j p hp
end
end Go.Av
end
section
set_option linter.unusedSimpArgs false
set_option linter.unusedVariables false
set_option maxRecDepth 10000
namespace Go.Proofs.Ytpehfflehebmbaa.Batch
open Go Go.Av Go.Proofs Go.Proofs.Ytpehfflehebmbaa.C
theorem less_nil_l (b : List UInt8) : Op.bytesLess [] b = decide (0 < b.length) := by cases b <;> simp [Op.bytesLess]
theorem less_nil_r (a : List UInt8) : Op.bytesLess a [] = false := by cases a <;> simp [Op.bytesLess]
theorem less_at {a b : List UInt8} {j : Nat} (ha : j < a.length) (hb : j < b.length) : Op.bytesLess (a.drop j) (b.drop j) = (decide (a.getD j 0 < b.getD j 0) || (a.getD j 0 == b.getD j 0 && Op.bytesLess (a.drop (j + 1)) (b.drop (j + 1)))) := by
  rw [List.drop_eq_getElem_cons ha, List.drop_eq_getElem_cons hb]
  simp [Op.bytesLess, List.getD, List.getElem?_eq_getElem ha, List.getElem?_eq_getElem hb]
theorem less_end {a b : List UInt8} {j : Nat} (ha : j ≤ a.length) (hb : j ≤ b.length) (h : ¬ (j < a.length ∧ j < b.length)) : Op.bytesLess (a.drop j) (b.drop j) = decide ((a.length : Int) < (b.length : Int)) := by
  by_cases h1 : j < a.length
  · have : b.drop j = [] := List.drop_eq_nil_of_le (by omega)
    rw [this, less_nil_r]; symm; simp; omega
  · have : a.drop j = [] := List.drop_eq_nil_of_le (by omega)
    rw [this, less_nil_l]; simp; omega
def Ls (l : List UInt8) : Prop := l.length ≤ 9223372036854775806
theorem below_p (a b : List UInt8) (la : Ls a) (lb : Ls b) : PCalls Try.prog 66 [.str a, .str b] (.bool (Op.bytesLess a b)) := by
  refine f66.pcalls (by simp) (allPure_ok _ rfl) (isPure_ok _ rfl) fun k m => ?_
  unfold Ls at la lb
  unfold c66
  refine Wp.seqReg (by simp only [go_sem, reduceIte, Nat.reduceEqDiff, Nat.reduceAdd, bx]; exact rfl) (by trivial) ?_
  refine Wp.seq ?_
  refine Wp.seqReg (by simp only [go_sem, reduceIte, Nat.reduceEqDiff, Nat.reduceAdd, bx]; exact rfl) (by trivial) ?_
  refine Wp.block ?_
  refine Wp.loopK [0, 1] (by simp only [go_sem, reduceIte, Nat.reduceEqDiff, Nat.reduceAdd, bx, List.map]; exact rfl) (fun j : Nat => [(5, .int .i64 j)]) (fun j => j ≤ a.length ∧ j ≤ b.length ∧ Op.bytesLess (a.drop j) (b.drop j) = Op.bytesLess a b) (fun j => a.length - j) 0 ⟨Nat.zero_le _, Nat.zero_le _, rfl⟩ ?_ ?_
  · simp only [AllSub, go_sem, reduceIte, Nat.reduceEqDiff, Nat.reduceAdd, bx]; and_intros <;> first | exact trivial | exact VSub.refl _ | exact VSub.any _ | (refine VSub.int ?_; omega)
  · intro j hj
    obtain ⟨h1, h2, h3⟩ := hj
    refine Wp.seq ?_
    by_cases hc : j < a.length ∧ j < b.length
    · have ha : decide ((j : Int) < (a.length : Int)) = true := by simp; omega
      have hb : decide ((j : Int) < (b.length : Int)) = true := by simp; omega
      have h4 : (0 : Int) ≤ (j : Int) := by omega
      have h5 : (j : Int) < (a.length : Int) := by omega
      have h6 : (j : Int) < (b.length : Int) := by omega
      refine Wp.seqReg (by simp only [go_sem, reduceIte, Nat.reduceEqDiff, Nat.reduceAdd, bx, ha, hb]; exact rfl) (by trivial) ?_
      refine Wp.cond_true (by simp only [go_sem, reduceIte, Nat.reduceEqDiff, Bool.false_eq_true]) ?_
      refine Wp.skip ?_
      refine Wp.seq ?_
      refine Wp.block ?_
      refine Wp.seqReg (by simp only [go_sem, reduceIte, Nat.reduceEqDiff, Nat.reduceAdd, bx, h4, h5, h6, and_self, if_true, Int.toNat_natCast, byte]; exact rfl) (by trivial) ?_
      have hs := less_at hc.1 hc.2
      refine Wp.cond_split (b := !decide (((a.getD j 0).toNat : Int) = ((b.getD j 0).toNat : Int))) (by simp only [go_sem, reduceIte, Nat.reduceEqDiff, Nat.reduceAdd, bx]) (fun hd => ?_) (fun hd => ?_)
      · refine Wp.seqReg (by simp only [go_sem, reduceIte, Nat.reduceEqDiff, Nat.reduceAdd, bx, h4, h5, h6, and_self, if_true, Int.toNat_natCast, byte]; exact rfl) (by trivial) ?_
        refine Wp.ret ⟨trivial, _, rfl, ?_⟩
        simp only [go_sem, reduceIte, Nat.reduceEqDiff, Nat.reduceAdd, bx]
        refine VSub.of_eq ?_
        congr 1
        rw [← h3, hs]
        have hne : ¬ (a.getD j 0 = b.getD j 0) := fun he => by rw [he] at hd; simp at hd
        have : (a.getD j 0 == b.getD j 0) = false := by simpa using hne
        rw [this, Bool.false_and, Bool.or_false]
        congr 1
        rw [UInt8.lt_iff_toNat_lt]
        simp
      · refine Wp.skip ?_
        refine Wp.reg1 (by simp only [go_sem, reduceIte, Nat.reduceEqDiff, Nat.reduceAdd, bx]; simp (disch := omega) only [IntWalk.i64_in]; exact rfl) (by trivial) ?_
        have he : a.getD j 0 = b.getD j 0 := by
          apply UInt8.toNat_inj.1
          have : ((a.getD j 0).toNat : Int) = ((b.getD j 0).toNat : Int) := by simpa using hd
          omega
        refine ⟨j + 1, ⟨by omega, by omega, ?_⟩, by omega, ?_⟩
        · rw [← h3, hs, he]; simp [UInt8.lt_irrefl]
        · refine StLe.tm (by simp only [AllSub, go_sem, reduceIte, Nat.reduceEqDiff, Nat.reduceAdd, bx]; and_intros <;> first | exact trivial | exact VSub.refl _ | exact VSub.any _ | (refine VSub.int ?_; omega))
    · have hx : (decide ((j : Int) < (a.length : Int)) && decide ((j : Int) < (b.length : Int))) = false := by
        by_cases h : j < a.length
        · have : ¬ j < b.length := fun h' => hc ⟨h, h'⟩
          simp; omega
        · simp; omega
      by_cases ha : j < a.length
      · have h7 : decide ((j : Int) < (a.length : Int)) = true := by simp; omega
        have h8 : decide ((j : Int) < (b.length : Int)) = false := by rw [h7, Bool.true_and] at hx; exact hx
        refine Wp.seqReg (by simp only [go_sem, reduceIte, Nat.reduceEqDiff, Nat.reduceAdd, bx, h7, h8]; exact rfl) (by trivial) ?_
        refine Wp.cond_false (by simp only [go_sem, reduceIte, Nat.reduceEqDiff, Bool.false_eq_true]) ?_
        refine Wp.exit ?_
        refine Wp.seqReg (by simp only [go_sem, reduceIte, Nat.reduceEqDiff, Nat.reduceAdd, bx]; exact rfl) (by trivial) ?_
        refine Wp.ret ⟨trivial, _, rfl, ?_⟩
        simp only [go_sem, reduceIte, Nat.reduceEqDiff, Nat.reduceAdd, bx]
        rw [← h3, less_end h1 h2 hc]
        exact VSub.refl _
      · have h7 : decide ((j : Int) < (a.length : Int)) = false := by simp; omega
        refine Wp.seqReg (by simp only [go_sem, reduceIte, Nat.reduceEqDiff, Nat.reduceAdd, bx, h7]; exact rfl) (by trivial) ?_
        refine Wp.cond_false (by simp only [go_sem, reduceIte, Nat.reduceEqDiff, Bool.false_eq_true]) ?_
        refine Wp.exit ?_
        refine Wp.seqReg (by simp only [go_sem, reduceIte, Nat.reduceEqDiff, Nat.reduceAdd, bx]; exact rfl) (by trivial) ?_
        refine Wp.ret ⟨trivial, _, rfl, ?_⟩
        simp only [go_sem, reduceIte, Nat.reduceEqDiff, Nat.reduceAdd, bx]
        rw [← h3, less_end h1 h2 hc]
        exact VSub.refl _
theorem less_irrefl : ∀ a, Op.bytesLess a a = false
  | [] => rfl
  | x :: a => by simp [Op.bytesLess, less_irrefl a, UInt8.lt_irrefl]
theorem less_trans : ∀ {a b c}, Op.bytesLess a b = true → Op.bytesLess b c = true → Op.bytesLess a c = true
  | a, b, [], _, h => by rw [less_nil_r] at h; cases h
  | a, [], c :: cs, h, _ => by rw [less_nil_r] at h; cases h
  | [], b :: bs, c :: cs, _, _ => rfl
  | a :: x, b :: y, c :: z, h1, h2 => by
    simp only [Op.bytesLess, Bool.or_eq_true, decide_eq_true_eq, Bool.and_eq_true, beq_iff_eq] at h1 h2 ⊢
    rcases h1 with h1 | ⟨rfl, h1⟩
    · rcases h2 with h2 | ⟨rfl, h2⟩
      · exact .inl (UInt8.lt_trans h1 h2)
      · exact .inl h1
    · rcases h2 with h2 | ⟨rfl, h2⟩
      · exact .inl h2
      · exact .inr ⟨rfl, less_trans h1 h2⟩
theorem less_total : ∀ a b, Op.bytesLess a b = true ∨ a = b ∨ Op.bytesLess b a = true
  | [], [] => .inr (.inl rfl)
  | [], _ :: _ => .inl rfl
  | _ :: _, [] => .inr (.inr rfl)
  | x :: a, y :: b => by
    simp only [Op.bytesLess, Bool.or_eq_true, decide_eq_true_eq, Bool.and_eq_true, beq_iff_eq, List.cons.injEq]
    rcases Nat.lt_trichotomy x.toNat y.toNat with h | h | h
    · exact .inl (.inl (UInt8.lt_iff_toNat_lt.2 h))
    · have := UInt8.toNat_inj.1 h
      subst this
      rcases less_total a b with h | h | h
      · exact .inl (.inr ⟨rfl, h⟩)
      · exact .inr (.inl ⟨rfl, h⟩)
      · exact .inr (.inr (.inr ⟨rfl, h⟩))
    · exact .inr (.inr (.inl (UInt8.lt_iff_toNat_lt.2 h)))
end Go.Proofs.Ytpehfflehebmbaa.Batch
end
section
set_option linter.unusedVariables false
set_option linter.unusedSimpArgs false
namespace Go.Av
open Classical in
section
variable {P : Program} {G : Ghost} {h : H} {w : World}
def H.DO (h : H) (G : Ghost) (d : Nat → Bool) (B : Nat) : Prop := ∃ id o, d id = true ∧ h.objs id = some o ∧ G.ι id = B
def H.drop (h : H) (d : Nat → Bool) : H := { h with objs := fun j => if d j then none else h.objs j }
noncomputable def Ghost.frz (G : Ghost) (h : H) (d : Nat → Bool) : Ghost :=
  { G with own := fun B => G.own B ∧ ¬ h.DO G d B, lim := fun B => if h.DO G d B then none else G.lim B }
theorem DO_O {d : Nat → Bool} {B : Nat} (x : h.DO G d B) : h.O G B := by
  obtain ⟨id, o, -, a, b⟩ := x
  exact ⟨id, o, a, b⟩
theorem frz_trans (d : Nat → Bool) : Trans G w h (G.frz h d) w (h.drop d) := by
  have hsub : ∀ B, (h.drop d).O (G.frz h d) B → h.O G B := by
    rintro B ⟨id, o, a, b⟩
    simp only [H.drop] at a
    split at a
    · cases a
    · exact ⟨id, o, a, b⟩
  constructor
  · exact fun _ x => x
  · exact fun _ => .inl
  · exact fun _ _ => rfl
  · exact fun _ x => x
  · exact fun _ => .inl
  · exact fun _ _ => rfl
  · exact Nat.le_refl _
  · exact Nat.le_refl _
  · exact Nat.le_refl _
  · rfl
  · rfl
  · intro B hB
    cases hx : w.heap[B]? with
    | none => rfl
    | some o => cases o <;> simp [SameForm]
  · exact fun _ _ _ _ => rfl
  · intro B hB hO
    have : ¬ h.DO G d B := fun x => hO (DO_O x)
    simp [Ghost.frz, this]
  · intro B hB hO hT
    have : ¬ h.DO G d B := fun x => hO (DO_O x)
    simp [Ghost.frz, this]
  · intro B hB hT hO e he
    have : ¬ h.DO G d B := fun x => hO (DO_O x)
    refine ⟨fun _ _ => rfl, fun e' he' => ?_⟩
    simp only [Ghost.frz, this, if_false] at he'
    rw [he] at he'
    cases he'
    exact Nat.le_refl _
  · exact fun B _ x => hsub B x
  · exact fun B _ x => x
  · intro j o a
    simp only [H.drop] at a
    split at a
    · cases a
    · exact .inl ⟨o, a⟩
  · exact fun t x => .inl x
theorem frz_rep (R : RepH G h w) (d : Nat → Bool) : RepH (G.frz h d) (h.drop d) w := by
  have hd : ∀ {id o}, (h.drop d).objs id = some o → h.objs id = some o ∧ d id = false := by
    intro id o a
    simp only [H.drop] at a
    split at a
    · cases a
    · rename_i q; exact ⟨a, by simpa using q⟩
  constructor
  · intro id o a
    obtain ⟨a, q⟩ := hd a
    obtain ⟨r1, r2, r3, r4⟩ := R.obj id o a
    refine ⟨r1, ⟨r2, ?_⟩, r3, ?_⟩
    · rintro ⟨id', o', x1, x2, x3⟩
      have := R.inj _ _ _ _ x2 a x3
      subst this
      rw [x1] at q; cases q
    · cases o with
      | cells cs =>
        obtain ⟨vs, rest, T, fr, y1, y2, y3⟩ := r4
        exact ⟨vs, rest, T, fr, y1, VRels.mono R (frz_trans d) _ _ y2, y3⟩
      | map es =>
        obtain ⟨en, clock, y1, y2⟩ := r4
        exact ⟨en, clock, y1, Entries.mono R (frz_trans d) _ _ y2⟩
      | loop N t ps asg body st pend =>
        obtain ⟨r, y1, y2, y3, y4⟩ := r4
        exact ⟨r, y1, y2, fun i => VRel.mono R (frz_trans d) _ _ (y3 i), y4⟩
  · intro id id' o o' a b e
    exact R.inj _ _ _ _ (hd a).1 (hd b).1 e
  · intro t ht
    obtain ⟨r1, r2⟩ := R.tok t ht
    refine ⟨r1, fun B e q => ?_⟩
    obtain ⟨x1, x2, x3⟩ := r2 B e q
    have : ¬ h.DO G d B := by
      rintro ⟨id, o, y1, y2, y3⟩
      have := (R.obj id o y2).2.1
      rw [y3] at this
      exact x2 this
    refine ⟨by simp only [Ghost.frz, this, if_false]; exact x1, fun x => x2 x.1, x3⟩
  · exact fun t ht t' ht' B e e' a b => R.tinj t ht t' ht' B e e' a b
theorem one_cells {v : Value} (h : One v) : v.cells = #[v] := by
  obtain ⟨a, b⟩ := h
  cases v <;> first | rfl | exact absurd rfl (a _) | exact absurd rfl (b _)
theorem frz_tsl (R : RepH G h w) {d : Nat → Bool} {id off len : Nat} {c : Option Nat} {cs : List AV} {v : Value} (ho : h.objs id = some (.cells cs)) (hd : d id = true) (hl : off + len ≤ cs.length) (r : VRel G w (.tsl 1 id off len c) v) :
    VRel (G.frz h d) w (.sl 1 ((cs.drop off).take len) .any) v := by
  simp only [VRel] at r
  obtain ⟨-, ⟨C, cc, Tt, fr, rfl, ⟨h2, -⟩, -⟩ | ⟨h0, ⟨a, rfl⟩, -⟩⟩ := r
  · obtain ⟨-, r2, r3, vs, rest, T, fr', y1, y2, y3, y4⟩ := R.obj id _ ho
    have hlen := VRels.length y2
    have hx : VRels (G.frz h d) w ((cs.drop off).take len) ((vs.drop off).take len) := VRels.mono R (frz_trans d) _ _ (VRels.take len (VRels.drop off y2))
    have h1 : ∀ v ∈ (vs.drop off).take len, One v := fun v hv => y4 v (List.mem_of_mem_drop (List.mem_of_mem_take hv))
    have he := elems_of_rels (sz := 1) hx (fun v hv => by rw [one_cells (h1 v hv)]; rfl)
    have hfl : ((vs.drop off).take len).flatMap (·.cells.toList) = (vs.drop off).take len := by
      have : ∀ l : List Value, (∀ v ∈ l, One v) → l.flatMap (·.cells.toList) = l := by
        intro l
        induction l with
        | nil => intro _; rfl
        | cons x l ih => intro hl; rw [List.flatMap_cons, one_cells (hl x (by simp)), ih (fun v hv => hl v (by simp [hv]))]; rfl
      exact this _ h1
    rw [hfl] at he
    unfold VRel
    refine .inr ⟨G.ι id, off, C, (vs.drop off).take len, ?_, ?_, ?_, he, ?_, trivial⟩
    · rw [List.length_take, List.length_drop]; congr 1; omega
    · rw [List.length_take]; omega
    · simp only [List.length_take, List.length_drop]; omega
    · intro i v hi
      have hi' := (List.getElem?_eq_some_iff.1 hi).1
      rw [List.length_take, List.length_drop] at hi'
      have hv1 : vs[off + i]? = some v := by
        rw [List.getElem?_take_of_lt (by omega), List.getElem?_drop] at hi
        exact hi
      refine ⟨?_, h1 v (List.mem_of_getElem? hi), ?_, ?_⟩
      · unfold World.cell?
        simp only [y1]
        simp [List.getElem?_append_left (show off + i < vs.length by omega), hv1]
      · exact fun x => x.2 ⟨id, _, hd, ho, rfl⟩
      · intro e he'
        have : h.DO G d (G.ι id) := ⟨id, _, hd, ho, rfl⟩
        simp [Ghost.frz, this] at he'
  · subst h0
    unfold VRel
    exact .inl ⟨by simp, ⟨_, rfl⟩, trivial⟩
theorem frz_ptr (R : RepH G h w) {d : Nat → Bool} {id off : Nat} {cs : List AV} {v : Value} (ho : h.objs id = some (.cells cs)) (hd : d id = true) (r : VRel G w (.ptr id off) v) :
    VRel (G.frz h d) w (.ref (cs.drop off)) v := by
  simp only [VRel] at r
  obtain ⟨-, rfl⟩ := r
  obtain ⟨-, r2, r3, vs, rest, T, fr', y1, y2, y3, y4⟩ := R.obj id _ ho
  unfold VRel
  refine ⟨G.ι id, off, vs.drop off, rfl, VRels.mono R (frz_trans d) _ _ (VRels.drop off y2), ?_⟩
  intro i v hi
  have hv1 : vs[off + i]? = some v := by rw [List.getElem?_drop] at hi; exact hi
  have hi' := (List.getElem?_eq_some_iff.1 hv1).1
  refine ⟨?_, y4 v (List.mem_of_getElem? hv1), ?_, ?_⟩
  · unfold World.cell?
    simp only [y1]
    simp [List.getElem?_append_left hi', hv1]
  · exact fun x => x.2 ⟨id, _, hd, ho, rfl⟩
  · intro e he'
    have : h.DO G d (G.ι id) := ⟨id, _, hd, ho, rfl⟩
    simp [Ghost.frz, this] at he'
mutual
def unT (h : H) (d : Nat → Bool) : AV → AV
  | .tsl sz id off len c => if sz = 1 ∧ d id = true then (match h.objs id with
    | some (.cells cs) => if off + len ≤ cs.length then .sl 1 ((cs.drop off).take len) .any else .any
    | _ => .any) else .tsl sz id off len c
  | .ptr id off => if d id = true then (match h.objs id with
    | some (.cells cs) => .ref (cs.drop off)
    | _ => .any) else .ptr id off
  | .agg xs => .agg (unTs h d xs)
  | .tup xs => .tup (unTs h d xs)
  | .clo fn a b => .clo fn (unTs h d a) (unTs h d b)
  | x => x
def unTs (h : H) (d : Nat → Bool) : List AV → List AV
  | [] => []
  | x :: xs => unT h d x :: unTs h d xs
end
mutual
theorem unT_rel (R : RepH G h w) (d : Nat → Bool) : ∀ (x : AV) (v : Value), VRel G w x v → VRel (G.frz h d) w (unT h d x) v
  | .tsl sz id off len c, v, r => by
    unfold unT
    split
    · rename_i hs
      obtain ⟨rfl, hd⟩ := hs
      split
      · rename_i cs ho
        split
        · rename_i hl
          exact frz_tsl R ho hd hl r
        · simp [VRel]
      · simp [VRel]
    · exact VRel.mono R (frz_trans d) _ _ r
  | .agg xs, v, r => by
    simp only [unT, VRel] at r ⊢
    obtain ⟨vs, e, r⟩ := r
    exact ⟨vs, e, unTs_rel R d xs vs r⟩
  | .tup xs, v, r => by
    simp only [unT, VRel] at r ⊢
    obtain ⟨vs, e, r⟩ := r
    exact ⟨vs, e, unTs_rel R d xs vs r⟩
  | .any, v, r => by simp [unT, VRel]
  | .int k n, v, r => by unfold unT; exact VRel.mono R (frz_trans d) _ _ r
  | .bool b, v, r => by unfold unT; exact VRel.mono R (frz_trans d) _ _ r
  | .str l, v, r => by unfold unT; exact VRel.mono R (frz_trans d) _ _ r
  | .sc x, v, r => by unfold unT; exact VRel.mono R (frz_trans d) _ _ r
  | .sl sz xs c, v, r => by unfold unT; exact VRel.mono R (frz_trans d) _ _ r
  | .ref cs, v, r => by unfold unT; exact VRel.mono R (frz_trans d) _ _ r
  | .ptr id off, v, r => by
    unfold unT
    split
    · rename_i hd
      split
      · rename_i cs ho
        exact frz_ptr R ho hd r
      · simp [VRel]
    · exact VRel.mono R (frz_trans d) _ _ r
  | .clo fn a b, v, r => by
    simp only [unT, VRel] at r ⊢
    obtain ⟨vs, us, e, r1, r2⟩ := r
    exact ⟨vs, us, e, unTs_rel R d a vs r1, unTs_rel R d b us r2⟩
  | .ifc t x, v, r => by unfold unT; exact VRel.mono R (frz_trans d) _ _ r
  | .mp id, v, r => by unfold unT; exact VRel.mono R (frz_trans d) _ _ r
  | .yld id, v, r => by unfold unT; exact VRel.mono R (frz_trans d) _ _ r
  | .slt sz xs ys, v, r => by unfold unT; exact VRel.mono R (frz_trans d) _ _ r
theorem unTs_rel (R : RepH G h w) (d : Nat → Bool) : ∀ (xs : List AV) (vs : List Value), VRels G w xs vs → VRels (G.frz h d) w (unTs h d xs) vs
  | [], vs, r => by simpa [unTs, VRels] using r
  | x :: xs, vs, r => by
    simp only [unTs, VRels] at r ⊢
    obtain ⟨v, us, e, r1, r2⟩ := r
    exact ⟨v, us, e, unT_rel R d x v r1, unTs_rel R d xs us r2⟩
end
theorem frz_le (t : Tm) (h : H) (d : Nat → Bool) : StLe ⟨t, h⟩ ⟨fun i => unT h d (t i), h.drop d⟩ where
  n := Nat.le_refl _
  m := Nat.le_refl _
  go := fun N G w a r _ => ⟨G.frz h d, frz_trans d, ⟨r.size, fun i => unT_rel r.h d _ _ (r.t i), frz_rep r.h d, r.df.mono (frz_trans d)⟩⟩
theorem ACalls.frz {f : FuncId} {args : List AV} {h h' : H} {r : AV} (hc : ACalls P f args h r h') (d : Nat → Bool) : ACalls P f args h (unT h' d r) (h'.drop d) := by
  intro G w vs hv R F
  refine (hc G w vs hv R F).mono ?_
  rintro e w' ⟨v, G', rfl, T, R', V⟩
  exact ⟨v, G'.frz h' d, rfl, T.trans R R' (frz_trans d), frz_rep R' d, unT_rel R' d _ _ V⟩
end
end Go.Av
end
section
set_option linter.unusedVariables false
set_option linter.unusedSimpArgs false
namespace Go.Av
section
variable {P : Program} {N : Nat} {o : Oper} {t : Tm} {h : H} {en : Ent}
theorem shaped_or {x : AV} (h : shaped x = true) : isCell x = true ∨ ∃ cs, x = .agg cs := by
  unfold shaped at h
  simp only [Bool.or_eq_true] at h
  rcases h with h | h
  · exact .inl h
  · cases x <;> simp at h
    exact .inr ⟨_, rfl⟩
theorem rels_of_elems {G : Ghost} {w : World} {sz : Nat} : ∀ {els : List AV} {vs : List Value}, VElems G w sz els vs → els.all shaped = true → VRels G w (els.flatMap cellsOf) vs
  | [], vs, h, _ => by simpa [VElems, VRels] using h
  | x :: els, vs, h, ha => by
    simp only [VElems] at h
    obtain ⟨v, us, rfl, h1, h2, h3⟩ := h
    simp only [List.all_cons, Bool.and_eq_true] at ha
    rw [List.flatMap_cons]
    exact (cells_of h2 (shaped_or ha.1)).append (rels_of_elems h3 ha.2)
theorem appT_loc {c : Call} {zs zx : Operand} {ys yx : Opd} {T U e : TypeId} {d : TypeDesc} {i : TypeInfo} {s : Nat} {els : List AV} (hop : o.op = .call c) (hc : c.callee = .builtin .append) (ha : c.args.toList = [zs, zx]) (hta : c.argTypes.toList = [T, U])
    (hT : P.underlying T = some (.slice e)) (hU : P.underlying U = some d) (hd : (∃ e', d = .slice e') ∨ d = .string) (hi : P.info? e = some i) (hz : i.zero.any (fun z => z.cells.size == i.size) = true) (hsz : 0 < i.size)
    (hys : opd P T zs = some ys) (hyx : opd P U zx = some yx) (hs : ev t ys = .sl s [] (.exact 0)) (hx : ∃ s' c', ev t yx = .sl s' els c' ∧ s' = i.size) (hsh : els.all shaped = true) (hne : 0 < els.length)
    (hb : els.length * i.bytes ≤ 140737488355328) (hlen : els.length < 4611686018427387904) :
    Loc P o t h (.tsl i.size h.n 0 els.length none) { h with objs := upd h.objs h.n (some (.cells (els.flatMap cellsOf))), n := h.n + 1 } ⟨[], [h.n], []⟩ := by
  have ha' : c.args = #[zs, zx] := by rw [← Array.toArray_toList (xs := c.args), ha]
  have hta' : c.argTypes = #[T, U] := by rw [← Array.toArray_toList (xs := c.argTypes), hta]
  obtain ⟨z, hz1, hz2⟩ : ∃ z, i.zero = some z ∧ z.cells.size = i.size := by
    cases hzz : i.zero with
    | none => rw [hzz] at hz; simp at hz
    | some z => rw [hzz] at hz; exact ⟨z, rfl, by simpa using hz⟩
  refine ⟨_, _, touch_new h _, fun G w a ht R F => ?_⟩
  have r1 := opd_rel hys ht
  have r2 := opd_rel hyx ht
  rw [hs] at r1
  obtain ⟨s', c', hx, hs'⟩ := hx
  rw [hx] at r2
  obtain ⟨news, n1, n2, n3⟩ := src_slice (P := P) (.inl hs') r2
  have hbase : ∃ a0, a.eval zs = .slice a0 0 0 := by
    simp only [VRel, CapOk] at r1
    rcases r1 with ⟨-, h, -⟩ | ⟨B, off, C, vs, q1, -, -, -, -, q6⟩
    · exact h
    · subst q6; exact ⟨_, by simpa using q1⟩
  obtain ⟨a0, ha0⟩ := hbase
  obtain ⟨w', C, rest, e1, e2, e3, e4⟩ := run_append_grows (ty := o.type) hT hU hd hi hz1 hz2 hsz n1 (src_none a0) (by omega) (Nat.le_refl _) (by simpa using hb) (by simpa using hlen)
  rw [List.nil_append] at e2
  simp only [Nat.zero_add] at e1 e3 e4
  have hnl := n2.length
  obtain ⟨G', T1, R1, V⟩ := new_tsl (m := h.m) (sz := i.size) e2 (rels_of_elems n2 hsh) n3 (fresh_n F (by simp [H.only])) e3 (by omega)
  refine ⟨.value _, _, w', G', ?_, .inl rfl, T1, R1, V⟩
  simp [execOp, hop, resolve, hc, ha', hta', invoke, builtin, ha0, e1]
theorem buildSlT_loc {ty e : TypeId} {len : Nat} {parts : Array (Nat × Operand)} {ys : List Opd} {z : Value} (hop : o.op = .buildSlice ty len parts) (hu : P.underlying ty = some (.slice e)) (hi : (P.info? e).isSome = true) (hn : parts.size = len) (hpos : 0 < P.cellsOf e)
    (hz : (P.info? e).bind (·.zero) = some z) (hzs : z.cells.size = P.cellsOf e)
    (hys : elemsOf P e 0 parts.toList = some ys) (hs : ∀ y ∈ ys, (cellsOf (ev t y)).length = P.cellsOf e ∧ shaped (ev t y) = true) (hle : ys.length * P.cellsOf e ≤ 16777216) :
    Loc P o t h (.tsl (P.cellsOf e) h.n 0 ys.length none) { h with objs := upd h.objs h.n (some (.cells ((ys.map (ev t)).flatMap cellsOf))), n := h.n + 1 } ⟨[], [h.n], []⟩ := by
  refine ⟨_, _, touch_new h _, fun G w a ht R F => ?_⟩
  obtain ⟨r1, r2, r3⟩ := opdVals_rel ht hys
  simp only [Array.length_toList, hn] at r2 r3
  have hsz : ∀ v ∈ parts.toList.map (fun p => a.eval p.2), v.cells.size = P.cellsOf e ∧ ∀ u ∈ v.cells.toList, One u := by
    intro v hv
    obtain ⟨k, hk⟩ := List.getElem?_of_mem hv
    have hlt : k < (parts.toList.map (fun p => a.eval p.2)).length := by
      rcases Nat.lt_or_ge k (parts.toList.map (fun p => a.eval p.2)).length with h | h
      · exact h
      · rw [List.getElem?_eq_none h] at hk; cases hk
    have hlt' : k < ys.length := by simp at hlt; omega
    obtain ⟨u, hu1, hu2⟩ := r1.get (i := k) (x := ev t ys[k]) (by simp [List.getElem?_eq_getElem hlt'])
    have e : u = v := Option.some.inj (hu1.symm.trans hk)
    subst e
    obtain ⟨s1, s2⟩ := hs ys[k] (List.getElem_mem hlt')
    obtain ⟨c1, c2⟩ := shaped_cells hu2 s2
    have := c1.length
    exact ⟨by simpa [s1] using this, cells_one c1 c2⟩
  generalize hV : parts.toList.map (fun p => a.eval p.2) = vals at *
  have hvl : vals.length = len := by rw [← hV]; simp [hn]
  have he := elems_of_rels r1 fun v hv => (hsz v hv).1
  have hfl : (vals.flatMap (·.cells.toList)).length = len * P.cellsOf e := by
    have := he.length; rw [this]; simp [r3]
  have hfill : ∀ cells : Array Value, cells.size = len * P.cellsOf e → Instr.fill (fun i => some (i * P.cellsOf e, P.cellsOf e)) cells ((parts.map fun (i, x) => (i, a.eval x)).toList) = some (vals.flatMap (·.cells.toList)).toArray := by
    intro cells hc
    have hz : (parts.map fun (i, x) => (i, a.eval x)).toList = (List.range' 0 vals.length).zip vals := by
      have : ∀ l : List (Nat × Operand), l.map (fun (i, x) => (i, a.eval x)) = (l.map (·.1)).zip (l.map fun p => a.eval p.2) := by
        intro l; induction l with
        | nil => rfl
        | cons p l ih => simp [ih]
      rw [Array.toList_map, this, r2, hV, hvl]
    rw [hz]
    have := fill_elems (sz := P.cellsOf e) (cells := cells) vals 0 [] cells (by simp) (by simp) (by rw [hc, hvl]; simp) (fun v hv => (hsz v hv).1)
    simpa using this
  have hle' : ¬ (len * P.cellsOf e > 16777216) := by rw [← r3]; omega
  obtain ⟨G', T1, R1, V⟩ := new_tsl (m := h.m) (sz := P.cellsOf e) (len := len) (C := len) (rest := []) (vs := vals.flatMap fun v : Value => v.cells.toList) (pushed_alloc w (.cells ((vals.flatMap fun v : Value => v.cells.toList) ++ []).toArray e (0, 0))) (rels_of_elems he (by
    rw [List.all_map]
    exact List.all_eq_true.2 fun y hy => (hs y hy).2)) (by
    intro u hu
    obtain ⟨v, hv, hu'⟩ := List.mem_flatMap.1 hu
    exact (hsz v hv).2 u hu') (fresh_n F (by simp [H.only])) ⟨Nat.le_refl _, by
    have := Nat.le_mul_of_pos_right len hpos
    omega⟩ (by rw [hfl]; simp)
  rw [List.append_nil] at T1 R1 V
  refine ⟨.value (.slice (some ⟨w.heap.size, 0, none⟩) len len), _, _, G', ?_, .inl rfl, T1, R1, by rw [r3]; exact V⟩
  obtain ⟨i, hi1, hi2⟩ := Option.bind_eq_some_iff.1 hz
  have hle2 : ¬ (16777216 < len * P.cellsOf e) := by omega
  have hmap : ∀ (zc : Array Value), ((Array.range (len * P.cellsOf e)).map (zc[· % zc.size]!)).size = len * P.cellsOf e := by intro zc; simp
  have hrz : (zeroValue e).run P w = .ok z w := by simp [zeroValue, typeInfo, hi1, hi2]
  simp only [execOp, hop, Sem.run_bind, Instr.buildSlice, run_underlying hu, Result.andThen_ok, run_size P w e hi, if_neg hle2, Sem.run_pure, Sem.run_ite, hrz, hfill _ (hmap _)]
  by_cases h0 : len * P.cellsOf e = 0
  · rw [if_pos h0]; simp [newRow]
  · rw [if_neg h0]; simp [newRow]
theorem app0_loc {c : Call} {zs zx : Operand} {ys yx : Opd} {T U e : TypeId} {d : TypeDesc} {i : TypeInfo} {s s' : Nat} {xs : List AV} {cp c' : Cap} (hop : o.op = .call c) (hc : c.callee = .builtin .append) (ha : c.args.toList = [zs, zx]) (hta : c.argTypes.toList = [T, U])
    (hT : P.underlying T = some (.slice e)) (hU : P.underlying U = some d) (hd : (∃ e', d = .slice e') ∨ d = .string) (hi : P.info? e = some i)
    (hys : opd P T zs = some ys) (hyx : opd P U zx = some yx) (hs : ev t ys = .sl s xs cp) (hx : ev t yx = .sl s' [] c') : Loc P o t h (.sl s xs cp) h ent0 := by
  have ha' : c.args = #[zs, zx] := by rw [← Array.toArray_toList (xs := c.args), ha]
  have hta' : c.argTypes = #[T, U] := by rw [← Array.toArray_toList (xs := c.argTypes), hta]
  refine Loc.plain fun G w a ht => ?_
  have r1 := opd_rel hys ht
  have r2 := opd_rel hyx ht
  rw [hs] at r1
  rw [hx] at r2
  obtain ⟨news, n1, n2, -⟩ := src_slice (P := P) (sz := i.size) (.inr rfl) r2
  have hnn : news = [] := by simpa [VElems] using n2
  subst hnn
  obtain ⟨base, len, C, hv, hlC⟩ : ∃ base len C, a.eval zs = .slice base len C ∧ len ≤ C := by
    simp only [VRel] at r1
    rcases r1 with ⟨-, ⟨a0, h⟩, -⟩ | ⟨B, off, C, vs, q1, q2, -⟩
    · exact ⟨_, _, _, h, Nat.le_refl _⟩
    · exact ⟨_, _, _, q1, q2⟩
  have hrun := run_append_fits (ty := o.type) (base := base) (sLen := len) (sCap := C) (w' := w) hT hU hd hi n1 (by simpa using hlC) (by cases base <;> simp [storeCells])
  refine ⟨a.eval zs, ?_, r1⟩
  simp [execOp, hop, resolve, hc, ha', hta', invoke, builtin, hv] at hrun ⊢
  rw [hrun]
  rfl
def aopT (ρ : Opd → AV) (h : H) : AOp → Option (AV × H × Ent)
  | .app false sz bytes s x => match ρ s, ρ x with
    | .sl s xs c, .sl _ [] _ => some (.sl s xs c, h, ent0)
    | .sl _ [] (.exact 0), .sl s' els _ => if s' = sz ∧ els.all shaped = true ∧ 0 < els.length ∧ els.length * bytes ≤ 140737488355328 ∧ els.length < 4611686018427387904 then
        some (.tsl sz h.n 0 els.length none, { h with objs := upd h.objs h.n (some (.cells (els.flatMap cellsOf))), n := h.n + 1 }, ⟨[], [h.n], []⟩) else none
    | _, _ => none
  | .buildSl sz parts => if parts.all (fun x => (cellsOf (ρ x)).length = sz ∧ shaped (ρ x)) = true ∧ parts.length * sz ≤ 16777216 then
      some (.tsl sz h.n 0 parts.length none, { h with objs := upd h.objs h.n (some (.cells ((parts.map ρ).flatMap cellsOf))), n := h.n + 1 }, ⟨[], [h.n], []⟩) else none
  | _ => none
theorem cOp_app {sz bytes : Nat} {ys yx : Opd} (h : cOp P o = some (.app false sz bytes ys yx)) : ∃ c zs zx T U e e' i, o.op = .call c ∧ c.callee = .builtin .append ∧ c.args.toList = [zs, zx] ∧ c.argTypes.toList = [T, U] ∧
    opd P T zs = some ys ∧ opd P U zx = some yx ∧ P.underlying T = some (.slice e) ∧ P.underlying U = some (.slice e') ∧ P.info? e = some i ∧ 0 < i.size ∧ (i.zero.any fun z => z.cells.size == i.size) = true ∧ i.size = sz ∧ i.bytes = bytes := by
  unfold cOp at h
  split at h
  case h_28 c hop =>
    split at h
    case h_7 hcal =>
      split at h
      · rename_i zs zx T U ha hta
        split at h
        · split at h
          · split at h
            · rename_i hq
              cases h
              exact ⟨c, zs, zx, T, U, _, _, _, hop, hcal, ha, hta, ‹_›, ‹_›, ‹_›, ‹_›, ‹_›, hq.1, hq.2, rfl, rfl⟩
            · cases h
          · cases h
        · (repeat' split at h) <;> (try cases h) <;> simp at h
        · (repeat' split at h) <;> (try cases h) <;> simp at h
        · cases h
      · cases h
    all_goals first
      | (cases h; done)
      | ((repeat' split at h) <;> (try cases h) <;> simp at h)
  all_goals first
    | (cases h; done)
    | (simp at h; done)
    | ((repeat' split at h) <;> (try cases h) <;> (try simp at h) ; done)
    | skip
theorem cOp_buildSl {sz : Nat} {ys : List Opd} (h : cOp P o = some (.buildSl sz ys)) : ∃ ty e len parts z, o.op = .buildSlice ty len parts ∧ P.underlying ty = some (.slice e) ∧ (P.info? e).isSome = true ∧ parts.size = len ∧ 0 < P.cellsOf e ∧ (P.info? e).bind (·.zero) = some z ∧ z.cells.size = P.cellsOf e ∧
    elemsOf P e 0 parts.toList = some ys ∧ sz = P.cellsOf e := by
  unfold cOp at h
  split at h
  case h_7 ty len parts hop =>
    split at h
    · split at h
      · rename_i hq
        simp only [Option.map_eq_some_iff] at h
        obtain ⟨l, h1, h2⟩ := h
        cases h2
        obtain ⟨q1, q2, q3, q4⟩ := hq
        cases hz : (P.info? _).bind (·.zero) with
        | none => rw [hz] at q4; simp at q4
        | some z => rw [hz] at q4; exact ⟨ty, _, len, parts, z, hop, ‹_›, q2, q1, q3, hz, by simpa using q4, h1, rfl⟩
      · cases h
    · cases h
  all_goals first
    | (cases h; done)
    | (simp at h; done)
    | ((repeat' split at h) <;> (try cases h) <;> (try simp at h) ; done)
    | skip
theorem aopT_loc {op : AOp} {x : AV} {h' : H} (hc : cOp P o = some op) (hx : aopT (ev t) h op = some (x, h', en)) : Loc P o t h x h' en := by
  cases op <;> (try (simp [aopT] at hx; done))
  case app str sz bytes s x0 =>
    cases str <;> (try (simp [aopT] at hx; done))
    obtain ⟨c, zs, zx, T, U, e, e', i, hop, hcal, ha, hta, hys, hyx, hT, hU, hi, hs1, hs2, rfl, rfl⟩ := cOp_app hc
    simp only [aopT] at hx
    split at hx
    · cases hx
      exact app0_loc hop hcal ha hta hT hU (.inl ⟨_, rfl⟩) hi hys hyx ‹_› ‹_›
    · split at hx
      · rename_i hq
        cases hx
        exact appT_loc hop hcal ha hta hT hU (.inl ⟨_, rfl⟩) hi hs2 hs1 hys hyx ‹_› ⟨_, _, ‹_›, hq.1⟩ hq.2.1 hq.2.2.1 hq.2.2.2.1 hq.2.2.2.2
      · cases hx
    · cases hx
  case buildSl sz parts =>
    obtain ⟨ty, e, len, ps, z, hop, hu, hi, hn, hpos, hz, hzs, hys, rfl⟩ := cOp_buildSl hc
    simp only [aopT] at hx
    split at hx
    · rename_i hq
      cases hx
      exact buildSlT_loc hop hu hi hn hpos hz hzs hys (fun y hy => by simpa using List.all_eq_true.1 hq.1 y hy) hq.2
    · cases hx
theorem aopT_congr {ρ ρ' : Opd → AV} {op : AOp} (hx : ∀ y ∈ opdsOf op, ρ y = ρ' y) : aopT ρ h op = aopT ρ' h op := by
  cases op <;> (try rfl)
  case app str sz bytes s x0 =>
    cases str
    · simp only [aopT, hx s (by simp [opdsOf]), hx x0 (by simp [opdsOf])]
    · rfl
  case buildSl sz parts =>
    have e1 : parts.map ρ = parts.map ρ' := List.map_congr_left fun y hy => hx y (by simpa [opdsOf] using hy)
    have e2 : parts.all (fun x => (cellsOf (ρ x)).length = sz ∧ shaped (ρ x)) = parts.all (fun x => (cellsOf (ρ' x)).length = sz ∧ shaped (ρ' x)) := by
      refine Bool.eq_iff_iff.2 ?_
      simp only [List.all_eq_true]
      exact ⟨fun h y hy => by rw [← hx y (by simpa [opdsOf] using hy)]; exact h y hy, fun h y hy => by rw [hx y (by simpa [opdsOf] using hy)]; exact h y hy⟩
    simp only [aopT, e1, e2]
theorem itrun_opT {ops : Array Oper} {i : Nat} {o : Oper} {it : AItem} {t : Tm} {h h' : H} {x : AV} {en : Ent} (ho : ops[i]? = some o) (hit : cItem P N ops o = some it) (hg : guardOf t it.guard = some true) (hx : aopT (ev t) h it.op = some (x, h', en)) :
    ∃ h1 h1', Touch h h1 h1' h' en ∧ ItRun P ops i o t h1 x h1' := by
  unfold cItem at hit
  split at hit
  · rename_i op g hop hgd
    split at hit <;> cases hit
    rename_i hcond
    simp only [Bool.and_eq_true] at hcond
    have hop := cOpD_of hop (by rintro rfl; simp [aopT] at hx)
    have hx' : aopT (ev (cutTo (names ops o) t)) h op = some (x, h', en) := by
      rw [aopT_congr (cut_ev hcond.2)]; exact hx
    obtain ⟨h1, h1', tc, loc⟩ := aopT_loc hop hx'
    refine ⟨h1, h1', tc, fun G w a ht R F K Q hK ro => ?_⟩
    obtain ⟨nx, v, w', G', e1, e2, T1, R1, V⟩ := loc G w a (cut_rel ht) R F
    unfold wpOpIn
    rw [ho]
    simp only [guard_wanted hgd ht hg, if_true]
    refine ⟨fun _ _ => trivial, ?_⟩
    rw [Oper.semAt_eq _ _ _ (cOp_plain hop), e1]
    rcases e2 with rfl | ⟨rfl, rfl⟩
    · rw [Oper.uponIn_value]; exact hK G' w' v T1 R1 V
    · rw [Oper.uponIn_skip]; exact hK G' w' undef T1 R1 V
  · cases hit
theorem WpItems.opT {dst : Option Nat} {g : Option (Nat × Bool)} {op : AOp} {its : List AItem} {t : Tm} {h h' : H} {log : List Ent} {en : Ent} {K : Tm → H → List Ent → Prop} {x : AV} (hg : guardOf t g = some true) (hx : aopT (ev t) h op = some (x, h', en)) (ht : touchy op = true)
    (rest : WpItems P N its (putT t dst x) h' (en :: log) K) : WpItems P N (⟨dst, g, op⟩ :: its) t h log K := by
  intro ops i hi hc
  obtain ⟨o, ho, hit, hi', hc'⟩ := items_cons hi hc
  obtain ⟨h1, h1', tc, run⟩ := itrun_opT ho hit hg hx
  obtain ⟨recs, t', hh', ch, hk, hen⟩ := rest ops (i + 1) hi' hc'
  have hdst : dst = o.dst := by
    unfold cItem at hit
    split at hit
    · split at hit <;> cases hit; rfl
    · cases hit
  refine ⟨⟨t, h, h1, h1', h', x, en⟩ :: recs, t', hh', .cons ho rfl rfl tc run (by rw [← hdst]; exact ch), by simpa using hk, ?_⟩
  intro k r it' hr hit' ht'
  cases k with
  | zero =>
    simp at hr hit'; subst hr hit'
    rw [ht] at ht'; cases ht'
  | succ k => simp at hr hit'; exact hen k r it' hr hit' ht'
theorem cloneE_gen {f : FuncId} {sz bytes : Nat} (hF : FnIs P f 8 (cloneC sz bytes) [.tmp 2]) : PCalls P f [.sl sz [] .any] (.sl sz [] (.exact 0)) := by
  intro n m
  refine ACalls.split_empty fun a C hC => ?_
  have : PCalls P f [.sc (.slice a 0 C)] (.sl sz [] (.exact 0)) := by
    refine hF.pcalls (by simp) (allPure_ok _ rfl) (isPure_ok _ rfl) fun n m => ?_
    unfold cloneC
    refine Wp.seqReg (by simp only [go_sem, reduceIte, Nat.reduceEqDiff, Nat.reduceAdd, bx]; exact rfl) (by trivial) ?_
    refine Wp.seq ?_
    refine Wp.seqReg (by simp only [go_sem, reduceIte, Nat.reduceEqDiff, Nat.reduceAdd, bx]; exact rfl) (by trivial) ?_
    cases ha : a.isNone with
    | true =>
      refine Wp.cond_true (by simp only [go_sem, reduceIte, Nat.reduceEqDiff, Nat.reduceAdd, bx, ha]) ?_
      refine Wp.seqReg (by simp only [go_sem, reduceIte, Nat.reduceEqDiff, Nat.reduceAdd, bx]; exact rfl) (by trivial) ?_
      refine Wp.ret ⟨trivial, _, rfl, ?_⟩
      simp only [go_sem, reduceIte, Nat.reduceEqDiff, Nat.reduceAdd, bx]
      exact VSub.refl _
    | false =>
      refine Wp.cond_false (by simp only [go_sem, reduceIte, Nat.reduceEqDiff, Nat.reduceAdd, bx, ha]) ?_
      refine Wp.skip ?_
      refine Wp.le (s' := ⟨tm [(0, .sl sz [] .any)], _⟩) (StLe.tm ⟨VSub.sc_empty hC, trivial⟩) ?_
      refine Wp.seq (Wp.reg ?_)
      refine WpItems.part 2 (by simp only [go_sem, reduceIte, Nat.reduceEqDiff, Nat.reduceAdd, bx, Nat.zero_mul, Nat.zero_le, and_self, if_true]; exact rfl) ?_
      simp only [List.drop_succ_cons, List.drop_zero, List.drop_nil]
      refine WpItems.opT (by simp only [go_sem, reduceIte, Nat.reduceEqDiff, Nat.reduceAdd, bx]) (by simp only [aopT, go_sem, reduceIte, Nat.reduceEqDiff, Nat.reduceAdd, bx]; exact rfl) rfl ?_
      refine WpItems.eval (by simp only [go_sem, reduceIte, Nat.reduceEqDiff, Nat.reduceAdd, bx]; exact rfl) ?_
      refine WpItems.nil ⟨by trivial, ?_⟩
      refine Wp.ret ⟨trivial, _, rfl, ?_⟩
      simp only [go_sem, reduceIte, Nat.reduceEqDiff, Nat.reduceAdd, bx]
      exact VSub.refl _
  exact this n m
def WpItemsN (P : Program) (N : Nat) (items : List AItem) (t : Tm) (h : H) (K : Tm → H → Prop) : Prop :=
  ∀ ops i, i ≤ ops.size → cItems P N ops (ops.toList.drop i) = some items → ∃ recs t' h', Chain P ops i recs t h t' h' ∧ K t' h'
theorem WpItems.toN {items : List AItem} {t : Tm} {h : H} {log : List Ent} {K : Tm → H → Prop} (hw : WpItems P N items t h log fun t h _ => K t h) : WpItemsN P N items t h K := by
  intro ops i hi hc
  obtain ⟨recs, t', h', ch, hk, -⟩ := hw ops i hi hc
  exact ⟨recs, t', h', ch, hk⟩
theorem WpItemsN.step {it : AItem} {its : List AItem} {t : Tm} {h h' : H} {x : AV} {en : Ent} {K : Tm → H → Prop}
    (run : ∀ (ops : Array Oper) i o, ops[i]? = some o → cItem P N ops o = some it → ∃ h1 h1', Touch h h1 h1' h' en ∧ ItRun P ops i o t h1 x h1') (rest : WpItemsN P N its (putT t it.dst x) h' K) : WpItemsN P N (it :: its) t h K := by
  intro ops i hi hc
  obtain ⟨o, ho, hit, hi', hc'⟩ := items_cons hi hc
  obtain ⟨h1, h1', tc, run⟩ := run ops i o ho hit
  obtain ⟨recs, t', hh', ch, hk⟩ := rest ops (i + 1) hi' hc'
  have hdst : it.dst = o.dst := by
    unfold cItem at hit
    split at hit
    · split at hit <;> cases hit; rfl
    · cases hit
  exact ⟨⟨t, h, h1, h1', h', x, en⟩ :: recs, t', hh', .cons ho rfl rfl tc run (by rw [← hdst]; exact ch), hk⟩
theorem WpItemsN.op {dst : Option Nat} {g : Option (Nat × Bool)} {op : AOp} {its : List AItem} {t : Tm} {h h' : H} {en : Ent} {K : Tm → H → Prop} {x : AV} (hg : guardOf t g = some true) (hx : aop (ev t) h op = some (x, h', en))
    (rest : WpItemsN P N its (putT t dst x) h' K) : WpItemsN P N (⟨dst, g, op⟩ :: its) t h K :=
  WpItemsN.step (fun ops i o ho hit => itrun_op ho hit hg hx) rest
theorem WpItemsN.opT {dst : Option Nat} {g : Option (Nat × Bool)} {op : AOp} {its : List AItem} {t : Tm} {h h' : H} {en : Ent} {K : Tm → H → Prop} {x : AV} (hg : guardOf t g = some true) (hx : aopT (ev t) h op = some (x, h', en))
    (rest : WpItemsN P N its (putT t dst x) h' K) : WpItemsN P N (⟨dst, g, op⟩ :: its) t h K :=
  WpItemsN.step (fun ops i o ho hit => itrun_opT ho hit hg hx) rest
theorem WpItemsN.acall {dst : Option Nat} {g : Option (Nat × Bool)} {f : FuncId} {l : List Opd} {its : List AItem} {t : Tm} {h h' h1 h1' : H} {en : Ent} {K : Tm → H → Prop} {vals : List AV} {r : AV} (hg : guardOf t g = some true) (hs : VSubs (l.map (ev t)) vals) (hc : ACalls P f vals h1 r h1')
    (tc : Touch h h1 h1' h' en) (rest : WpItemsN P N its (putT t dst r) h' K) : WpItemsN P N (⟨dst, g, .call f l⟩ :: its) t h K :=
  WpItemsN.step (fun ops i o ho hit => ⟨h1, h1', tc, itrun_call ho hit hg rfl hs hc⟩) rest
theorem WpItemsN.pcall {dst : Option Nat} {g : Option (Nat × Bool)} {f : FuncId} {l : List Opd} {its : List AItem} {t : Tm} {h : H} {K : Tm → H → Prop} {vals : List AV} {r : AV} (hg : guardOf t g = some true) (hs : VSubs (l.map (ev t)) vals) (hc : PCalls P f vals r)
    (rest : WpItemsN P N its (putT t dst r) h K) : WpItemsN P N (⟨dst, g, .call f l⟩ :: its) t h K :=
  WpItemsN.acall hg hs (hc h.n h.m) (touch_none h) rest
theorem Wp.regN {items : List AItem} {s : St} {Q : AExit → St → Prop} (h : WpItemsN P N items s.t s.h fun t' h' => Q .normal ⟨t', h'⟩) : Wp P N (.reg items none) s Q := by
  intro code hc
  obtain ⟨id, ops, draw, rfl, hi, hd⟩ := code_reg hc
  obtain ⟨recs, t', h', ch, hq⟩ := h ops 0 (Nat.zero_le _) (by simpa using hi)
  obtain ⟨nm, -, -⟩ := chain_nm ch
  obtain ⟨cl, ci⟩ := cItems_len hi
  have hN : ∀ (i : Nat) o d, ops[i]? = some o → o.dst = some d → d < N := by
    intro i o d ho hdd
    have hlt : i < ops.size := (Array.getElem?_eq_some_iff.1 ho).1
    have hit : i < items.length := by rw [cl]; simpa using hlt
    have := ci i o items[i] (by simpa using ho) (List.getElem?_eq_getElem hit)
    generalize items[i] = it at this
    unfold cItem at this
    split at this
    · split at this <;> cases this
      rename_i hcond
      simp only [Bool.and_eq_true] at hcond
      have := hcond.1
      rw [hdd] at this
      simpa using this
    · cases this
  refine ⟨.normal, ⟨t', h'⟩, ⟨nm, fun ro okc G w a r F => ?_⟩, hq⟩
  rcases hd with ⟨rfl, -⟩ | ⟨-, -, -, hn⟩
  · refine wpIn_region ?_
    rw [List.range_eq_range']
    have := chain_seq ro (Q := fun e' a' w' => AExit.normal.says e' ∧ NewM w a.defers a'.defers ∧ ∃ G', Trans G w s.h G' w' h' ∧ Rel N ⟨t', h'⟩ G' w' a') hN ch G w a r.size r.t r.h F
      (fun G' w' a' T1 t1 R1 s1 d1 => ⟨trivial, by rw [d1]; exact .refl, G', T1, ⟨s1, t1, R1, by rw [d1]; exact r.df.mono T1⟩⟩)
    simpa using this
  · cases hn
end
end Go.Av
end
section
set_option linter.unusedVariables false
set_option linter.unusedSimpArgs false
namespace Go.Av
variable {P : Program} {N : Nat} {s : St} {Q : AExit → St → Prop}
theorem StLe.tmN {t : Tm} {f f' : Nat → Option Obj} {n n' m : Nat} {k : List Nat} {l : List (Nat × AV)} (hn : n ≤ n') (ho : OLe f f') (h : AllSub t l) : StLe ⟨t, ⟨f, n, k, m⟩⟩ ⟨Go.Av.tm l, ⟨f', n', k, m⟩⟩ :=
  StLe.trans (StLe.tm h) (StLe.of (fun i => VSub.refl _) ho (fun x hx => hx) hn (Nat.le_refl _))
theorem OLe.skip {f : Nat → Option Obj} {i : Nat} {o : Option Obj} (h : f i = Option.none) : OLe (Go.Av.upd f i o) f := by
  intro j p hp
  refine ⟨p, ?_, OSub.refl p⟩
  simp only [Go.Av.upd]
  split
  · rename_i e; subst e; rw [h] at hp; cases hp
  · exact hp
theorem OLe.at {g : Nat → Option Obj} {k : Nat} {A : Obj} (h : g k = some A) : OLe g (Go.Av.upd none' k (some A)) := by
  intro j p hp
  simp only [Go.Av.upd, none'] at hp
  split at hp
  · rename_i e; subst e; cases hp; exact ⟨_, h, OSub.refl _⟩
  · cases hp
theorem Wp.loopN {β : Type} (L : List Nat) {K : List (Nat × AV)} {c : AC} {h : H} {t : Tm} (hK : (L.map fun i => (i, t i)) = K) (ch : β → List (Nat × AV)) (I : β → Prop) (μ : β → Nat) (b0 : β) (h0 : I b0) (hs : AllSub t (ch b0))
    (round : ∀ b n, h.n ≤ n → I b → Wp P N c ⟨tm (K ++ ch b), { h with n := n }⟩ (AExit.andThen (fun s' => ∃ b' n', h.n ≤ n' ∧ I b' ∧ μ b' < μ b ∧ StLe s' ⟨tm (K ++ ch b'), { h with n := n' }⟩) Q)) : Wp P N (.loop c) ⟨t, h⟩ Q := by
  refine Wp.loopH (β := β × Nat) L hK (fun j => ch j.1) (fun j => { h with n := j.2 }) (fun j => h.n ≤ j.2 ∧ I j.1) (fun j => μ j.1) (b0, h.n) ⟨Nat.le_refl _, h0⟩ rfl hs ?_
  rintro ⟨b, n⟩ ⟨hn, hb⟩
  refine Wp.mono (round b n hn hb) ?_
  intro e s' h
  cases e with
  | normal => obtain ⟨b', n', h1, h2, h3, h4⟩ := h; exact ⟨(b', n'), ⟨h1, h2⟩, h3, h4⟩
  | exit id => exact h
  | goto l => exact h
  | ret => exact h
  | panic v => exact h
end Go.Av
end
section
set_option linter.unusedVariables false
set_option linter.unusedSimpArgs false
namespace Go.Av
section
variable {P : Program} {N : Nat} {Q : AExit → St → Prop}
theorem Wp.frz {c : AC} {t : Tm} {h : H} (d : Nat → Bool) (l : List (Nat × AV)) (h' : H) (hs : AllSub (fun i => unT h d (t i)) l) (ho : OLe (h.drop d).objs h'.objs) (hk : ∀ x ∈ h'.toks, x ∈ h.toks) (hn : h.n ≤ h'.n) (hm : h.m ≤ h'.m) (k : Wp P N c ⟨tm l, h'⟩ Q) : Wp P N c ⟨t, h⟩ Q :=
  Wp.le (StLe.trans (frz_le t h d) (StLe.trans (StLe.tm hs) (StLe.of (f := (h.drop d).objs) (n := h.n) (m := h.m) (k := h.toks) (fun i => VSub.refl _) ho hk hn hm))) k
theorem only_T0 {G : Ghost} {f : Nat → Option Obj} {n m : Nat} (B : Nat) : ¬ (H.only f [] n m).T G B := fun ⟨t, ht, _⟩ => by simp [H.only] at ht
theorem PCalls.look {f : FuncId} {xs args : List AV} {r : AV} (hc : PCalls P f (.sl 1 xs .any :: args) r) (hr : ∀ G G' w v, VRel G w r v → VRel G' w r v) (c : Option Nat) (id : Nat) : RCalls P f (.tsl 1 id 0 xs.length c :: args) (upd none' id (some (.cells xs))) r := by
  intro n m G w vs hv R F
  have ho : (H.only (upd none' id (some (.cells xs))) [] n m).objs id = some (.cells xs) := by simp [H.only, upd]
  have hv' : VRels (G.frz (H.only (upd none' id (some (.cells xs))) [] n m) fun _ => true) w (.sl 1 xs .any :: args) vs := by
    simp only [VRels] at hv ⊢
    obtain ⟨v, us, e, h1, h2⟩ := hv
    refine ⟨v, us, e, ?_, VRels.mono R (frz_trans _) _ _ h2⟩
    have := frz_tsl R (d := fun _ => true) ho rfl (by omega) h1
    simpa using this
  refine (hc n m _ w vs hv' only_rep ⟨fun j h1 h2 => by simp only [H0, H.only] at h1 h2; omega, fun j h1 h2 => by simp only [H0, H.only] at h1 h2; omega⟩).mono ?_
  rintro e w' ⟨v, G', rfl, T, R', V⟩
  obtain ⟨q1, q2, q3, q4⟩ := R.obj id _ ho
  have hne : ∀ B, ¬ (H.only (upd none' id (some (.cells xs))) [] n m).O G B → B ≠ G.ι id := fun B h1 e => h1 ⟨id, _, ho, e.symm⟩
  have hDO : ∀ B, ¬ (H.only (upd none' id (some (.cells xs))) [] n m).O G B → ¬ (H.only (upd none' id (some (.cells xs))) [] n m).DO G (fun _ => true) B := fun B h1 h2 => h1 (DO_O h2)
  have hT : ∀ {G : Ghost} B, ¬ (H0 n m).T G B := fun B ⟨t, ht, _⟩ => by simp [H0, H.only] at ht
  let G3 : Ghost := { own := fun B => B = G.ι id ∨ G'.own B, lim := fun B => if B = G.ι id then G.lim B else G'.lim B, dom := G.dom, ι := G.ι, tdom := G.tdom, τ := G.τ }
  have T3 : Trans G w (H.only (upd none' id (some (.cells xs))) [] n m) G3 w' (H.only (upd none' id (some (.cells xs))) [] n m) := by
    constructor
    · exact fun _ x => x
    · exact fun _ => .inl
    · exact fun _ _ => rfl
    · exact fun _ x => x
    · exact fun _ => .inl
    · exact fun _ _ => rfl
    · exact Nat.le_refl _
    · exact Nat.le_refl _
    · exact T.size_le
    · exact T.os
    · exact T.output
    · exact T.form
    · exact fun B hB _ _ => T.keep B hB (only_O B) (hT B)
    · intro B hB h1
      have e1 := T.own_keep B hB (only_O B)
      have e2 := hDO B h1
      have e3 := hne B h1
      simp only [G3, e3, false_or, e1, Ghost.frz, e2, not_false_eq_true, and_true]
    · intro B hB h1 _
      have e1 := T.lim_keep B hB (only_O B) (hT B)
      have e2 := hDO B h1
      have e3 := hne B h1
      simp only [G3, e3, if_false, e1, Ghost.frz, e2]
    · exact fun B hB x => absurd x (only_T0 B)
    · exact fun B _ x => x
    · exact fun B _ x => absurd x (only_T0 B)
    · exact fun j o x => .inl ⟨o, x⟩
    · exact fun t x => by simp [H.only] at x
  refine ⟨v, G3, rfl, T3, ?_, hr G' G3 w' v V⟩
  refine ⟨fun j o hj => ?_, fun i j o o' a b e => R.inj _ _ _ _ a b e, fun t ht => by simp [H.only] at ht, fun t ht => by simp [H.only] at ht⟩
  obtain ⟨p1, p2, p3, p4⟩ := R.obj j o hj
  have hj' : j = id := by
    simp only [H.only, upd, none'] at hj
    split at hj
    · assumption
    · cases hj
  subst hj'
  refine ⟨p1, .inl rfl, Nat.lt_of_lt_of_le p3 T.size_le, ?_⟩
  have hk : w'.heap[G.ι j]? = w.heap[G.ι j]? := T.keep _ p3 (only_O _) (hT _)
  show ORel G3 w' o w'.heap[G.ι j]?
  rw [hk]
  cases o with
  | cells cs =>
    obtain ⟨vs, rest, T', fr, y1, y2, y3⟩ := p4
    exact ⟨vs, rest, T', fr, y1, VRels.mono R T3 _ _ y2, y3⟩
  | map es =>
    obtain ⟨en, clock, y1, y2⟩ := p4
    exact ⟨en, clock, y1, Entries.mono R T3 _ _ y2⟩
  | loop N t ps asg body st pend =>
    obtain ⟨r, y1, y2, y3, y4⟩ := p4
    exact ⟨r, y1, y2, fun i => VRel.mono R T3 _ _ (y3 i), y4⟩
def H.turn (h : H) (id : Nat) (o : Obj) : H := { h with objs := upd (fun j => if j = id then none else h.objs j) h.n (some o), n := h.n + 1 }
theorem row_new {G : Ghost} {h : H} {w w' : World} {id B C : Nat} {cs xs : List AV} {vs rest : List Value} {T0 : TypeId} {fr : Nat × Nat} (R : RepH G h w) (ho : h.objs id = some (.cells cs)) (ht : h.toks = []) (hn : ¬ G.dom h.n) (hs : w.heap.size ≤ w'.heap.size) (hos : w'.os = w.os) (hou : w'.output = w.output)
    (hk : ∀ b, b < w.heap.size → b ≠ G.ι id → w'.heap[b]? = w.heap[b]?) (hf : SameForm w.heap[G.ι id]? w'.heap[G.ι id]?) (hB : B = G.ι id ∨ w.heap.size ≤ B) (hC : xs.length ≤ C ∧ C ≤ 9223372036854775807) (hl : vs.length = xs.length) (hE : ∀ G w, VRels G w xs vs)
    (h1 : ∀ v ∈ vs, One v) (hg : w'.heap[B]? = some (.cells (vs ++ rest).toArray T0 fr)) (hroom : C ≤ vs.length + rest.length) (hfr : ∀ j, ¬ (fr.1 ≤ j ∧ j < fr.2)) :
    ∃ G', Trans G w h G' w' (h.turn id (.cells xs)) ∧ RepH G' (h.turn id (.cells xs)) w' ∧ VRel G' w' (.tsl 1 h.n 0 xs.length none) (.slice (some ⟨B, 0, none⟩) xs.length C) := by
  obtain ⟨i1, i2, i3, i4⟩ := R.obj id _ ho
  let G' : Ghost := { G with dom := fun j => G.dom j ∨ j = h.n, ι := upd G.ι h.n B, own := fun b => b = B ∨ (G.own b ∧ b ≠ G.ι id ∧ b < w.heap.size), lim := fun b => if b = G.ι id ∨ w.heap.size ≤ b then none else G.lim b }
  have hO : ∀ b, ¬ h.O G b → b ≠ G.ι id := fun b hh e => hh ⟨id, _, ho, e.symm⟩
  have hOB : ∀ b, b < w.heap.size → ¬ h.O G b → b ≠ B := by
    intro b hb hh e
    rcases hB with e' | e'
    · exact hO b hh (e.trans e')
    · omega
  have hιn : G'.ι h.n = B := by simp [G', upd]
  have hι : ∀ j, j ≠ h.n → G'.ι j = G.ι j := fun j hj => by simp [G', upd, hj]
  have hd : ∀ {j o}, (h.turn id (.cells xs)).objs j = some o → (j = h.n ∧ o = .cells xs) ∨ (j ≠ h.n ∧ h.objs j = some o ∧ j ≠ id) := by
    intro j o a
    simp only [H.turn, upd] at a
    split at a
    · cases a; exact .inl ⟨by assumption, rfl⟩
    · rename_i e
      split at a
      · cases a
      · exact .inr ⟨e, a, ‹_›⟩
  have T : Trans G w h G' w' (h.turn id (.cells xs)) := by
    constructor
    · exact fun _ x => .inl x
    · rintro j (x | x)
      · exact .inl x
      · exact .inr ⟨by omega, by simp only [H.turn]; omega⟩
    · intro j x
      exact hι j fun e => hn (e ▸ x)
    · exact fun _ x => x
    · exact fun _ => .inl
    · exact fun _ _ => rfl
    · exact Nat.le_succ _
    · exact Nat.le_refl _
    · exact hs
    · exact hos
    · exact hou
    · intro b hb
      by_cases e : b = G.ι id
      · subst e; exact hf
      · rw [hk b hb e]; exact SameForm.refl _
    · exact fun b hb h _ => hk b hb (hO b h)
    · intro b hb h
      simp only [G', hb, hO b h, hOB b hb h, false_or, and_true, ne_eq, not_false_eq_true]
    · intro b hb h _
      simp only [G']
      rw [if_neg]
      rintro (e | e)
      · exact hO b h e
      · omega
    · rintro b hb ⟨t, htt, _⟩
      simp [ht] at htt
    · rintro b hb ⟨j, o, a, e⟩
      rcases hd a with ⟨rfl, -⟩ | ⟨x1, x2, x3⟩
      · rw [hιn] at e
        rcases hB with e' | e'
        · exact ⟨id, _, ho, e'.symm.trans e⟩
        · omega
      · rw [hι j x1] at e
        exact ⟨j, o, x2, e⟩
    · rintro b _ ⟨t, htt, _⟩
      simp [H.turn, ht] at htt
    · intro j o a
      rcases hd a with ⟨rfl, -⟩ | ⟨x1, x2, x3⟩
      · exact .inr ⟨Nat.le_refl _, Nat.lt_succ_self _⟩
      · exact .inl ⟨o, x2⟩
    · exact fun t x => by simp [H.turn, ht] at x
  have hBs : B < w'.heap.size := by
    rcases Nat.lt_or_ge B w'.heap.size with h | h
    · exact h
    · rw [Array.getElem?_eq_none h] at hg; cases hg
  refine ⟨G', T, ?_, ?_⟩
  · constructor
    · intro j o a
      rcases hd a with ⟨rfl, rfl⟩ | ⟨x1, x2, x3⟩
      · rw [hιn]
        exact ⟨.inr rfl, .inl rfl, hBs, vs, rest, T0, fr, hg, hE _ _, hfr, h1⟩
      · obtain ⟨r1, r2, r3, r4⟩ := R.obj j o x2
        have hne : G.ι j ≠ G.ι id := fun e => x3 (R.inj _ _ _ _ x2 ho e)
        rw [hι j x1]
        refine ⟨.inl r1, .inr ⟨r2, hne, r3⟩, Nat.lt_of_lt_of_le r3 hs, ?_⟩
        rw [hk _ r3 hne]
        cases o with
        | cells cs =>
          obtain ⟨vs, rest, T', fr, y1, y2, y3⟩ := r4
          exact ⟨vs, rest, T', fr, y1, VRels.mono R T _ _ y2, y3⟩
        | map es =>
          obtain ⟨en, clock, y1, y2⟩ := r4
          exact ⟨en, clock, y1, Entries.mono R T _ _ y2⟩
        | loop N t ps asg body st pend =>
          obtain ⟨r, y1, y2, y3, y4⟩ := r4
          exact ⟨r, y1, y2, fun i => VRel.mono R T _ _ (y3 i), y4⟩
    · intro i j o o' a b e
      have hcl : ∀ {k p}, k ≠ h.n → h.objs k = some p → k ≠ id → G.ι k ≠ B := by
        intro k p _ y2 y3 e
        rcases hB with e' | e'
        · exact y3 (R.inj _ _ _ _ y2 ho (e.trans e'))
        · have := (R.obj k p y2).2.2.1; omega
      rcases hd a with ⟨rfl, rfl⟩ | ⟨x1, x2, x3⟩ <;> rcases hd b with ⟨rfl, rfl⟩ | ⟨y1, y2, y3⟩
      · rfl
      · rw [hιn, hι j y1] at e; exact absurd e.symm (hcl y1 y2 y3)
      · rw [hιn, hι i x1] at e; exact absurd e (hcl x1 x2 x3)
      · rw [hι i x1, hι j y1] at e; exact R.inj _ _ _ _ x2 y2 e
    · exact fun t x => by simp [H.turn, ht] at x
    · exact fun t x => by simp [H.turn, ht] at x
  · unfold VRel
    refine ⟨.inr rfl, .inl ⟨C, (vs ++ rest).toArray, T0, fr, by rw [hιn], hC, (fun _ h => by cases h), by rw [hιn]; exact hg, by simpa using hroom⟩⟩
theorem touch_turn (h : H) {id : Nat} {ob o : Obj} (ho : h.objs id = some ob) (hid : id < h.n) : Touch h (.only (upd none' id (some ob)) [] h.n h.m) ((H.only (upd none' id (some ob)) [] h.n h.m).turn id o) (h.turn id o) ⟨[], [id, h.n], []⟩ where
  sub := (touch_read h ho).sub
  n := rfl
  m := rfl
  eq := H.ext (fun j => by
    simp only [H.patch, H.turn, H.only, upd, none']
    by_cases e : j = id
    · subst e; simp
    · by_cases e2 : j = h.n
      · subst e2; simp
      · simp [e, e2]; omega) rfl (by simp [H.patch, H.turn, H.only, filter_tt]) rfl
  rd j x := by
    simp only [H.only, upd, none'] at x
    split at x
    · rename_i e; subst e; simp
    · cases x
  wr j a b := by
    simp only [H.turn, H.only] at a b
    have : j = h.n := by omega
    subst this; simp
  chg j x hj := by
    simp only [H.only, upd, none'] at x
    split at x
    · rename_i e; subst e; simp at hj
    · cases x
  tk t x := by simp [H.only] at x
  tn t x := by simp [H.turn, H.only] at x
  le := Nat.le_succ _
  lem := Nat.le_refl _
theorem touch_turn2 (h : H) {id id2 : Nat} {ob ob2 o : Obj} (ho : h.objs id = some ob) (ho2 : h.objs id2 = some ob2) (hne : id ≠ id2) (hid : id < h.n) (hid2 : id2 < h.n) :
    Touch h (.only (upd (upd none' id (some ob)) id2 (some ob2)) [] h.n h.m) ((H.only (upd (upd none' id (some ob)) id2 (some ob2)) [] h.n h.m).turn id o) (h.turn id o) ⟨[id2], [id, h.n], []⟩ where
  sub := ⟨fun j p x => by
    simp only [H.only, upd, none'] at x
    split at x
    · rename_i e; subst e; cases x; exact ho2
    · split at x
      · rename_i e; subst e; cases x; exact ho
      · exact absurd x (by simp), fun t x => by simp [H.only] at x⟩
  n := rfl
  m := rfl
  eq := H.ext (fun j => by
    simp only [H.patch, H.turn, H.only, upd, none']
    by_cases e : j = id
    · subst e; simp [hne]
    · by_cases e2 : j = h.n
      · subst e2; simp
      · by_cases e3 : j = id2
        · subst e3; simp [e, e2, ho2]
        · simp [e, e2, e3]; omega) rfl (by simp [H.patch, H.turn, H.only, filter_tt]) rfl
  rd j x := by
    simp only [H.only, upd, none'] at x
    split at x
    · rename_i e; subst e; simp
    · split at x
      · rename_i e; subst e; simp
      · cases x
  wr j a b := by
    simp only [H.turn, H.only] at a b
    have : j = h.n := by omega
    subst this; simp
  chg j x hj := by
    simp only [H.only, upd, none'] at x
    simp only [List.mem_cons, List.not_mem_nil, or_false, not_or] at hj
    split at x
    · rename_i e; subst e
      simp only [H.turn, H.only, upd]
      simp [hj.1, hj.2]
    · split at x
      · rename_i e; subst e; exact absurd rfl hj.1
      · cases x
  tk t x := by simp [H.only] at x
  tn t x := by simp [H.turn, H.only] at x
  le := Nat.le_succ _
  lem := Nat.le_refl _
end
end Go.Av
end
section
set_option linter.unusedVariables false
set_option linter.unusedSimpArgs false
namespace Go.Av
abbrev Objs := Nat → Option Obj
structure Fr where
  o : Objs
  k : List Nat
def lay : List Fr → Objs
  | [] => none'
  | F :: l => fun j => (F.o j).or (lay l j)
def ks (l : List Fr) : List Nat := l.flatMap (·.k)
def ob (i : Nat) (o : Obj) : Fr := ⟨upd none' i (some o), []⟩
def cat (l : List Fr) : Fr := ⟨lay l, ks l⟩
def fr0 : Fr := ⟨none', []⟩
structure Ok (l : List Fr) (n : Nat) (T : List Nat) (m : Nat) : Prop where
  bd : ∀ F ∈ l, ∀ j, n ≤ j → F.o j = none
  dj : l.Pairwise fun F F' => ∀ j, F.o j = none ∨ F'.o j = none
  tk : ∀ t ∈ ks l, t ∈ T
  td : l.Pairwise fun F F' => ∀ t ∈ F.k, t ∉ F'.k
  tb : ∀ t ∈ T, t < m
theorem lay_nil (j : Nat) : lay [] j = none := rfl
theorem lay_cons (F : Fr) (l : List Fr) (j : Nat) : lay (F :: l) j = (F.o j).or (lay l j) := rfl
theorem ob_o (i : Nat) (o : Obj) (j : Nat) : (ob i o).o j = if j = i then some o else none := rfl
theorem lay_append (l m : List Fr) (j : Nat) : lay (l ++ m) j = (lay l j).or (lay m j) := by
  induction l with
  | nil => simp [lay, none']
  | cons F l ih => simp [lay, ih, Option.or_assoc]
theorem lay_cat (l : List Fr) : lay [cat l] = lay l := by
  funext j; simp [lay, cat, none']
theorem ks_cat (l : List Fr) : ks [cat l] = ks l := by simp [ks, cat]
theorem upd_lay (F : Fr) (l : List Fr) (i : Nat) (o : Obj) : upd (lay (F :: l)) i (some o) = lay (⟨upd F.o i (some o), F.k⟩ :: l) := by
  funext j
  simp only [upd, lay]
  split <;> simp
theorem lay_none {l : List Fr} {j : Nat} : lay l j = none ↔ ∀ F ∈ l, F.o j = none := by
  induction l with
  | nil => simp [lay, none']
  | cons F l ih => simp [lay, Option.or_eq_none_iff, ih]
theorem lay_some {l : List Fr} {j : Nat} {o : Obj} (h : lay l j = some o) : ∃ F ∈ l, F.o j = some o := by
  induction l with
  | nil => simp [lay, none'] at h
  | cons F l ih =>
    simp only [lay] at h
    cases hF : F.o j with
    | some o' => rw [hF] at h; simp at h; exact ⟨F, by simp, by rw [hF, h]⟩
    | none =>
      rw [hF] at h; simp at h
      obtain ⟨F', h1, h2⟩ := ih h
      exact ⟨F', by simp [h1], h2⟩
theorem mem_ks {l : List Fr} {t : Nat} : t ∈ ks l ↔ ∃ F ∈ l, t ∈ F.k := by simp [ks]
theorem ks_append (l m : List Fr) : ks (l ++ m) = ks l ++ ks m := by simp [ks]
theorem Ok.lay_bd {l : List Fr} {n m : Nat} {T : List Nat} (h : Ok l n T m) {j : Nat} (hj : n ≤ j) : lay l j = none := lay_none.2 fun F hF => h.bd F hF j hj
theorem Ok.nil {n m : Nat} : Ok [] n [] m := ⟨by simp, by simp, by simp [ks], by simp, by simp⟩
theorem Ok.grow {l : List Fr} {n m n' m' : Nat} {T : List Nat} (h : Ok l n T m) (hn : n ≤ n') (hm : m ≤ m') : Ok l n' T m' :=
  ⟨fun F hF j hj => h.bd F hF j (by omega), h.dj, h.tk, h.td, fun t ht => Nat.lt_of_lt_of_le (h.tb t ht) hm⟩
theorem Ok.tail {F : Fr} {l : List Fr} {n m : Nat} {T : List Nat} (h : Ok (F :: l) n T m) : Ok l n T m :=
  ⟨fun F' hF => h.bd F' (by simp [hF]), (List.pairwise_cons.1 h.dj).2, fun t ht => h.tk t (by rw [mem_ks] at ht ⊢; obtain ⟨F', a, b⟩ := ht; exact ⟨F', by simp [a], b⟩), (List.pairwise_cons.1 h.td).2, h.tb⟩
theorem Ok.put {F : Fr} {l : List Fr} {n m i : Nat} {T : List Nat} {o : Obj} (h : Ok (F :: l) n T m) (hi : lay l i = none) (hn : i < n) : Ok (⟨upd F.o i (some o), F.k⟩ :: l) n T m where
  bd F' hF j hj := by
    rcases List.mem_cons.1 hF with rfl | hF
    · simp only [upd]
      rw [if_neg (by omega)]
      exact h.bd F (by simp) j hj
    · exact h.bd F' (by simp [hF]) j hj
  dj := by
    refine List.pairwise_cons.2 ⟨fun F' hF j => ?_, (List.pairwise_cons.1 h.dj).2⟩
    simp only [upd]
    by_cases e : j = i
    · subst e; exact .inr (lay_none.1 hi F' hF)
    · rw [if_neg e]; exact (List.pairwise_cons.1 h.dj).1 F' hF j
  tk t ht := h.tk t (by simpa [ks] using ht)
  td := List.pairwise_cons.2 ⟨(List.pairwise_cons.1 h.td).1, (List.pairwise_cons.1 h.td).2⟩
  tb := h.tb
theorem Ok.start {l : List Fr} {n m : Nat} {T : List Nat} (h : Ok l n T m) : Ok (fr0 :: l) n T m :=
  ⟨fun F hF j hj => by rcases List.mem_cons.1 hF with rfl | hF; exact rfl; exact h.bd F hF j hj, List.pairwise_cons.2 ⟨fun F' _ j => .inl rfl, h.dj⟩, fun t ht => h.tk t (by simpa [ks, fr0] using ht), List.pairwise_cons.2 ⟨fun F' _ t ht => by simp [fr0] at ht, h.td⟩, h.tb⟩
theorem Ok.old {F : Fr} {l : List Fr} {n m : Nat} {T : List Nat} (h : Ok (F :: l) n T m) {i : Nat} (hi : (F.o i).isSome = true) : lay l i = none :=
  lay_none.2 fun F' hF => by
    rcases (List.pairwise_cons.1 h.dj).1 F' hF i with e | e
    · rw [e] at hi; cases hi
    · exact e
theorem Ok.cat {l : List Fr} {n m : Nat} (h : Ok l n (ks l) m) : Ok [Go.Av.cat l] n (ks [Go.Av.cat l]) m :=
  ⟨fun F hF j hj => by rw [List.mem_singleton.1 hF]; exact h.lay_bd hj, by simp, fun t ht => ht, by simp, fun t ht => h.tb t (by rwa [ks_cat] at ht)⟩
section
variable {P : Program} {N : Nat}
def GCalls (P : Program) (f : FuncId) (args : List AV) (l : List Fr) (Q : AV → List Fr → Prop) : Prop :=
  ∀ n m, Ok l n (ks l) m → ∃ r l' n' m', ACalls P f args ⟨lay l, n, ks l, m⟩ r ⟨lay l', n', ks l', m'⟩ ∧ n ≤ n' ∧ m ≤ m' ∧ Ok l' n' (ks l') m' ∧ (∀ j, n ≤ j ∨ (lay l j).isSome = true ∨ lay l' j = none) ∧ (∀ t ∈ ks l', t ∈ ks l ∨ m ≤ t) ∧ Q r l'
theorem GCalls.mono {f : FuncId} {args : List AV} {l : List Fr} {Q Q' : AV → List Fr → Prop} (h : GCalls P f args l Q) (hq : ∀ r l', Q r l' → Q' r l') : GCalls P f args l Q' := by
  intro n m ok
  obtain ⟨r, l', n', m', h1, h2, h3, h4, h5, h6, h7⟩ := h n m ok
  exact ⟨r, l', n', m', h1, h2, h3, h4, h5, h6, hq _ _ h7⟩
theorem PCalls.g {f : FuncId} {args : List AV} {r : AV} (h : PCalls P f args r) : GCalls P f args [] (fun r' l' => r' = r ∧ l' = []) := fun n m _ =>
  ⟨r, [], n, m, h n m, Nat.le_refl _, Nat.le_refl _, Ok.nil, fun j => .inr (.inr rfl), by simp [ks], rfl, rfl⟩
theorem Wp.nm {c : AC} {s : St} {Q : AExit → St → Prop} (h : Wp P N c s Q) : Wp P N c s fun e s' => Q e s' ∧ s.h.n ≤ s'.h.n ∧ s.h.m ≤ s'.h.m := by
  intro code hc
  obtain ⟨e, s', r, q⟩ := h code hc
  exact ⟨e, s', r, q, r.1⟩
theorem ACalls.le {f : FuncId} {args : List AV} {h h' h'' : H} {r r' : AV} (hc : ACalls P f args h r h') (hs : VSub r r') (hl : HLe h' h'') (n : h'.n = h''.n) (m : h'.m = h''.m) : ACalls P f args h r' h'' := by
  intro G w vs hv R F
  refine (hc G w vs hv R (by unfold Fresh at F ⊢; rwa [n, m])).mono ?_
  rintro e w' ⟨v, G', rfl, T, R', V⟩
  exact ⟨v, G', rfl, T.trans R R' (Trans.le hl (by omega) (by omega)), R'.le hl, hs G' w' v V⟩
structure Ends (l : List Fr) (n m : Nat) (Q : AV → List Fr → Prop) (q : AV) (h : H) (r : AV) (l' : List Fr) : Prop where
  sub : VSub q r
  ole : OLe h.objs (lay l')
  tk : ∀ t ∈ ks l', t ∈ h.toks
  ok : Ok l' h.n (Go.Av.ks l') h.m
  new : ∀ j, n ≤ j ∨ (lay l j).isSome = true ∨ lay l' j = none
  knew : ∀ t ∈ Go.Av.ks l', t ∈ Go.Av.ks l ∨ m ≤ t
  q : Q r l'
theorem FnIs.gcalls {f : FuncId} {ac : AC} {args : List AV} {ds : List RV} {l : List Fr} {Q : AV → List Fr → Prop} (hF : FnIs P f N ac ds) (hl : args.length ≤ N)
    (hw : ∀ n m, Ok l n (ks l) m → Wp P N ac ⟨initT args, ⟨lay l, n, ks l, m⟩⟩ fun e s' => isEnd e ∧ ∃ q, resOf ds s'.t s'.h = some q ∧ ∃ r l', Ends l n m Q q s'.h r l') : GCalls P f args l Q := by
  intro n m ok
  obtain ⟨q, h', hc, ⟨r, l', E⟩, hn, hm⟩ := hF.acalls (Q := fun q h' => (∃ r l', Ends l n m Q q h' r l') ∧ n ≤ h'.n ∧ m ≤ h'.m) hl ((hw n m ok).nm.mono fun e s' ⟨⟨h1, q, h2, h3⟩, h4, h5⟩ => ⟨h1, q, h2, h3, h4, h5⟩)
  exact ⟨r, l', h'.n, h'.m, hc.le E.sub ⟨E.ole, E.tk⟩ rfl rfl, hn, hm, E.ok, E.new, E.knew, E.q⟩
theorem OLe.lay_nil (f : Objs) : OLe f (lay []) := OLe.none f
theorem OLe.lay_ob {f : Objs} {i : Nat} {o o' : Obj} {l : List Fr} (h : f i = some o) (hs : OSub o o') (hl : OLe f (lay l)) : OLe f (lay (ob i o' :: l)) := by
  intro j p hj
  simp only [lay, ob_o] at hj
  by_cases e : j = i
  · subst e
    rw [if_pos rfl] at hj
    simp at hj; subst hj
    exact ⟨o, h, hs⟩
  · rw [if_neg e] at hj
    exact hl j p (by simpa using hj)
theorem OLe.lay_cat {f : Objs} {l m : List Fr} (hl : OLe f (lay (l ++ m))) : OLe f (lay (cat l :: m)) := by
  intro j p hj
  refine hl j p ?_
  rw [lay_append]; exact hj
def fin (h : H) (ids toks : List Nat) : Ent := ⟨[], ids, toks⟩
theorem ids_of {F : Objs} {n : Nat} (h : ∀ j, n ≤ j → F j = none) : ∃ ids : List Nat, ∀ j, (F j).isSome = true ↔ j ∈ ids :=
  ⟨(List.range n).filter fun j => (F j).isSome, fun j => by
    simp only [List.mem_filter, List.mem_range]
    constructor
    · intro hj
      refine ⟨?_, hj⟩
      rcases Nat.lt_or_ge j n with e | e
      · exact e
      · rw [h j e] at hj; cases hj
    · exact fun hj => hj.2⟩
theorem lay_patch {A G G' B : List Fr} {n n' m m' : Nat} {T : List Nat} (ok : Ok (A ++ G ++ B) n T m) (ok' : Ok G' n' (ks G') m') (hn : n ≤ n') (hw : ∀ j, n ≤ j ∨ (lay G j).isSome = true ∨ lay G' j = none) (j : Nat) :
    (if (lay G j).isSome ∨ (n ≤ j ∧ j < n') then lay G' j else lay (A ++ G ++ B) j) = lay (A ++ G' ++ B) j := by
  have dAG : ∀ j, lay A j = none ∨ lay G j = none := by
    intro j
    by_cases h : lay A j = none
    · exact .inl h
    · right
      cases hA : lay A j with
      | none => exact absurd hA h
      | some o =>
        obtain ⟨F, hF, e⟩ := lay_some hA
        refine lay_none.2 fun F' hF' => ?_
        have := (List.pairwise_append.1 ok.dj).1
        rcases (List.pairwise_append.1 this).2.2 F hF F' hF' j with e' | e'
        · rw [e'] at e; cases e
        · exact e'
  have dGB : ∀ j, lay G j = none ∨ lay B j = none := by
    intro j
    by_cases h : lay G j = none
    · exact .inl h
    · right
      cases hA : lay G j with
      | none => exact absurd hA h
      | some o =>
        obtain ⟨F, hF, e⟩ := lay_some hA
        refine lay_none.2 fun F' hF' => ?_
        rcases (List.pairwise_append.1 ok.dj).2.2 F (by simp [hF]) F' hF' j with e' | e'
        · rw [e'] at e; cases e
        · exact e'
  have bA : ∀ j, n ≤ j → lay A j = none := fun j hj => lay_none.2 fun F hF => ok.bd F (by simp [hF]) j hj
  have bB : ∀ j, n ≤ j → lay B j = none := fun j hj => lay_none.2 fun F hF => ok.bd F (by simp [hF]) j hj
  rw [lay_append, lay_append, lay_append, lay_append]
  split
  · rename_i hc
    have h1 : lay A j = none := by
      rcases hc with hc | hc
      · rcases dAG j with e | e
        · exact e
        · rw [e] at hc; cases hc
      · exact bA j hc.1
    have h2 : lay B j = none := by
      rcases hc with hc | hc
      · rcases dGB j with e | e
        · rw [e] at hc; cases hc
        · exact e
      · exact bB j hc.1
    rw [h1, h2]; simp
  · rename_i hc
    have hG : lay G j = none := by
      cases h : lay G j with
      | none => rfl
      | some o => exact absurd (.inl (by rw [h]; rfl)) hc
    have hG' : lay G' j = none := by
      rcases hw j with e | e | e
      · rcases Nat.lt_or_ge j n' with e' | e'
        · exact absurd (.inr ⟨e, e'⟩) hc
        · exact ok'.lay_bd e'
      · rw [hG] at e; cases e
      · exact e
    rw [hG, hG']
theorem Ok.swap {A G G' B : List Fr} {n n' m m' : Nat} {T : List Nat} (ok : Ok (A ++ G ++ B) n T m) (ok' : Ok G' n' (ks G') m') (hn : n ≤ n') (hm : m ≤ m') (hw : ∀ j, n ≤ j ∨ (lay G j).isSome = true ∨ lay G' j = none) (hk : ∀ t ∈ ks G', t ∈ ks G ∨ m ≤ t) :
    Ok (A ++ G' ++ B) n' (ks G' ++ T.filter fun t => !(ks G).contains t) m' := by
  have d1 := List.pairwise_append.1 ok.dj
  have d2 := List.pairwise_append.1 d1.1
  have t1 := List.pairwise_append.1 ok.td
  have t2 := List.pairwise_append.1 t1.1
  have hG' : ∀ F' ∈ G', ∀ j, (F'.o j).isSome = true → n ≤ j ∨ ∃ F ∈ G, (F.o j).isSome = true := by
    intro F' hF' j hj
    rcases hw j with e | e | e
    · exact .inl e
    · obtain ⟨o, ho⟩ := Option.isSome_iff_exists.1 e
      obtain ⟨F, a, b⟩ := lay_some ho
      exact .inr ⟨F, a, by rw [b]; rfl⟩
    · rw [lay_none.1 e F' hF'] at hj; cases hj
  have kG' : ∀ F' ∈ G', ∀ t ∈ F'.k, m ≤ t ∨ ∃ F ∈ G, t ∈ F.k := by
    intro F' hF' t ht
    rcases hk t (mem_ks.2 ⟨F', hF', ht⟩) with e | e
    · exact .inr (mem_ks.1 e)
    · exact .inl e
  have low : ∀ F, F ∈ A ∨ F ∈ B → ∀ j, (F.o j).isSome = true → j < n := by
    intro F hF j hj
    rcases Nat.lt_or_ge j n with e | e
    · exact e
    · rw [ok.bd F (by rcases hF with h | h <;> simp [h]) j e] at hj; cases hj
  have klow : ∀ F, F ∈ A ∨ F ∈ B → ∀ t ∈ F.k, t < m := fun F hF t ht => ok.tb t (ok.tk t (mem_ks.2 ⟨F, by rcases hF with h | h <;> simp [h], ht⟩))
  have not2 : ∀ {x y : Option Obj}, ¬ (x.isSome = true ∧ y.isSome = true) → x = none ∨ y = none := by
    intro x y h
    cases x <;> cases y <;> simp_all
  constructor
  · intro F hF j hj
    rcases List.mem_append.1 hF with hF | hF
    · rcases List.mem_append.1 hF with hF | hF
      · exact ok.bd F (by simp [hF]) j (by omega)
      · exact ok'.bd F hF j hj
    · exact ok.bd F (by simp [hF]) j (by omega)
  · refine List.pairwise_append.2 ⟨List.pairwise_append.2 ⟨d2.1, ok'.dj, fun F hF F' hF' j => ?_⟩, d1.2.1, fun F hF F' hF' j => ?_⟩
    · refine not2 fun ⟨h1, h2⟩ => ?_
      rcases hG' F' hF' j h2 with e | ⟨F2, a, b⟩
      · have := low F (.inl hF) j h1; omega
      · rcases d2.2.2 F hF F2 a j with e | e
        · rw [e] at h1; cases h1
        · rw [e] at b; cases b
    · rcases List.mem_append.1 hF with hF | hF
      · exact d1.2.2 F (by simp [hF]) F' hF' j
      · refine not2 fun ⟨h1, h2⟩ => ?_
        rcases hG' F hF j h1 with e | ⟨F2, a, b⟩
        · have := low F' (.inr hF') j h2; omega
        · rcases d1.2.2 F2 (by simp [a]) F' hF' j with e | e
          · rw [e] at b; cases b
          · rw [e] at h2; cases h2
  · intro t ht
    rw [ks_append, ks_append] at ht
    rw [List.mem_append, List.mem_filter]
    rcases List.mem_append.1 ht with ht | ht
    · rcases List.mem_append.1 ht with ht | ht
      · obtain ⟨F, a, b⟩ := mem_ks.1 ht
        refine .inr ⟨ok.tk t (by rw [ks_append, ks_append]; simp [ht]), ?_⟩
        simp only [Bool.not_eq_true', List.contains_eq_mem, decide_eq_false_iff_not]
        intro h
        obtain ⟨F', a', b'⟩ := mem_ks.1 h
        exact t2.2.2 F a F' a' t b b'
      · exact .inl ht
    · obtain ⟨F, a, b⟩ := mem_ks.1 ht
      refine .inr ⟨ok.tk t (by rw [ks_append, ks_append]; simp [ht]), ?_⟩
      simp only [Bool.not_eq_true', List.contains_eq_mem, decide_eq_false_iff_not]
      intro h
      obtain ⟨F', a', b'⟩ := mem_ks.1 h
      exact t1.2.2 F' (by simp [a']) F a t b' b
  · refine List.pairwise_append.2 ⟨List.pairwise_append.2 ⟨t2.1, ok'.td, fun F hF F' hF' t ht ht' => ?_⟩, t1.2.1, fun F hF F' hF' t ht ht' => ?_⟩
    · rcases kG' F' hF' t ht' with e | ⟨F2, a, b⟩
      · have := klow F (.inl hF) t ht; omega
      · exact t2.2.2 F hF F2 a t ht b
    · rcases List.mem_append.1 hF with hF | hF
      · exact t1.2.2 F (by simp [hF]) F' hF' t ht ht'
      · rcases kG' F hF t ht with e | ⟨F2, a, b⟩
        · have := klow F' (.inr hF') t ht'; omega
        · exact t1.2.2 F2 (by simp [a]) F' hF' t b ht'
  · intro t ht
    rcases List.mem_append.1 ht with ht | ht
    · exact ok'.tb t ht
    · exact Nat.lt_of_lt_of_le (ok.tb t (List.mem_filter.1 ht).1) hm
theorem touch_swap {A G G' B : List Fr} {n n' m m' : Nat} {T : List Nat} (ok : Ok (A ++ G ++ B) n T m) (ok' : Ok G' n' (ks G') m') (hn : n ≤ n') (hm : m ≤ m') (hw : ∀ j, n ≤ j ∨ (lay G j).isSome = true ∨ lay G' j = none) :
    ∃ ids, Touch ⟨lay (A ++ G ++ B), n, T, m⟩ ⟨lay G, n, ks G, m⟩ ⟨lay G', n', ks G', m'⟩ ⟨lay (A ++ G' ++ B), n', ks G' ++ T.filter (fun t => !(ks G).contains t), m'⟩ ⟨[], ids, ks G ++ ks G'⟩ := by
  have bG : ∀ j, n ≤ j → lay G j = none := fun j hj => lay_none.2 fun F hF => ok.bd F (by simp [hF]) j hj
  obtain ⟨ids, hi⟩ := ids_of bG
  refine ⟨ids ++ (List.range (n' - n)).map (n + ·), ?_⟩
  have d1 := List.pairwise_append.1 (List.pairwise_append.1 ok.dj).1
  have tc := touch_gen (h := ⟨lay (A ++ G ++ B), n, T, m⟩) (h1 := ⟨lay G, n, ks G, m⟩) (h1' := ⟨lay G', n', ks G', m'⟩) (ids := ids) ⟨fun j o hj => ?_, fun t ht => ok.tk t ?_⟩ rfl rfl (fun id h => (hi id).1 h) hn hm
  · have e : (⟨lay (A ++ G' ++ B), n', ks G' ++ T.filter (fun t => !(ks G).contains t), m'⟩ : H) = H.patch ⟨lay (A ++ G ++ B), n, T, m⟩ ⟨lay G, n, ks G, m⟩ ⟨lay G', n', ks G', m'⟩ :=
      H.ext (fun j => (lay_patch ok ok' hn hw j).symm) rfl rfl rfl
    rw [e]; exact tc
  · show lay (A ++ G ++ B) j = some o
    have hj' : lay G j = some o := hj
    rw [lay_append, lay_append]
    have : lay A j = none := by
      cases hA : lay A j with
      | none => rfl
      | some o' =>
        obtain ⟨F, a, b⟩ := lay_some hA
        obtain ⟨F', a', b'⟩ := lay_some hj'
        rcases d1.2.2 F a F' a' j with e | e
        · rw [e] at b; cases b
        · rw [e] at b'; cases b'
    rw [this, hj']; rfl
  · have ht' : t ∈ ks G := ht
    rw [ks_append, ks_append]; simp [ht']
def Wi (l0 : List Fr) (n0 : Nat) (l : List Fr) : Prop := ∀ j, n0 ≤ j ∨ (lay l0 j).isSome = true ∨ lay l j = none
def Ki (l0 : List Fr) (m0 : Nat) (l : List Fr) : Prop := ∀ t ∈ ks l, t ∈ ks l0 ∨ m0 ≤ t
theorem Wi.refl {l : List Fr} {n : Nat} : Wi l n l := fun j => by
  cases h : lay l j with
  | none => exact .inr (.inr rfl)
  | some o => exact .inr (.inl rfl)
theorem Ki.refl {l : List Fr} {m : Nat} : Ki l m l := fun t h => .inl h
theorem Wi.trans {l0 l l' : List Fr} {n0 n : Nat} (a : Wi l0 n0 l) (hn : n0 ≤ n) (b : Wi l n l') : Wi l0 n0 l' := fun j => by
  rcases b j with h | h | h
  · exact .inl (by omega)
  · rcases a j with h' | h' | h'
    · exact .inl h'
    · exact .inr (.inl h')
    · rw [h'] at h; cases h
  · exact .inr (.inr h)
theorem Ki.trans {l0 l l' : List Fr} {m0 m : Nat} (a : Ki l0 m0 l) (hm : m0 ≤ m) (b : Ki l m l') : Ki l0 m0 l' := fun t ht => by
  rcases b t ht with h | h
  · exact a t h
  · exact .inr (by omega)
theorem Wi.mid {A G G' B : List Fr} {n : Nat} (hw : ∀ j, n ≤ j ∨ (lay G j).isSome = true ∨ lay G' j = none) : Wi (A ++ G ++ B) n (A ++ G' ++ B) := fun j => by
  rw [lay_append, lay_append, lay_append, lay_append]
  rcases hw j with h | h | h
  · exact .inl h
  · right; left
    obtain ⟨o, ho⟩ := Option.isSome_iff_exists.1 h
    rw [ho]
    cases lay A j <;> rfl
  · rw [h]
    cases ha : lay A j with
    | some o => exact .inr (.inl rfl)
    | none =>
      cases hb : lay B j with
      | none => exact .inr (.inr rfl)
      | some o => right; left; cases lay G j <;> rfl
theorem Ki.mid {A G G' B : List Fr} {m : Nat} (hk : ∀ t ∈ ks G', t ∈ ks G ∨ m ≤ t) : Ki (A ++ G ++ B) m (A ++ G' ++ B) := fun t ht => by
  rw [ks_append, ks_append] at ht ⊢
  simp only [List.mem_append] at ht ⊢
  rcases ht with (h | h) | h
  · exact .inl (.inl (.inl h))
  · rcases hk t h with h | h
    · exact .inl (.inl (.inr h))
    · exact .inr h
  · exact .inl (.inr h)
theorem Ok.shrink {l : List Fr} {n m : Nat} {T : List Nat} (h : Ok l n T m) : Ok l n (ks l) m := ⟨h.bd, h.dj, fun t ht => ht, h.td, fun t ht => h.tb t (h.tk t ht)⟩
theorem WpItems.gcall {dst : Option Nat} {g : Option (Nat × Bool)} {f : FuncId} {l : List Opd} {its : List AItem} {t : Tm} {log : List Ent} {K : Tm → H → List Ent → Prop} {vals : List AV} {Q : AV → List Fr → Prop} (A G B : List Fr) {n m : Nat} {T : List Nat}
    (hg : guardOf t g = some true) (hs : VSubs (l.map (ev t)) vals) (hc : GCalls P f vals G Q) (ok : Ok (A ++ G ++ B) n T m)
    (rest : ∀ r G' n' m' ids, Q r G' → n ≤ n' → m ≤ m' → Ok (A ++ G' ++ B) n' (ks G' ++ T.filter fun t => !(ks G).contains t) m' → Wi (A ++ G ++ B) n (A ++ G' ++ B) → Ki (A ++ G ++ B) m (A ++ G' ++ B) → WpItems P N its (putT t dst r) ⟨lay (A ++ G' ++ B), n', ks G' ++ T.filter (fun t => !(ks G).contains t), m'⟩ (⟨[], ids, ks G ++ ks G'⟩ :: log) K) :
    WpItems P N (⟨dst, g, .call f l⟩ :: its) t ⟨lay (A ++ G ++ B), n, T, m⟩ log K := by
  have okG : Ok G n (ks G) m := by
    have d1 := List.pairwise_append.1 (List.pairwise_append.1 ok.dj).1
    have t1 := List.pairwise_append.1 (List.pairwise_append.1 ok.td).1
    exact ⟨fun F hF => ok.bd F (by simp [hF]), d1.2.1, fun t ht => ht, t1.2.1, fun t ht => ok.tb t (ok.tk t (by rw [ks_append, ks_append]; simp [ht]))⟩
  obtain ⟨r, G', n', m', h1, h2, h3, h4, h5, h6, h7⟩ := hc n m okG
  obtain ⟨ids, tc⟩ := touch_swap ok h4 h2 h3 h5
  exact WpItems.acall hg hs h1 tc (rest r G' n' m' ids h7 h2 h3 (ok.swap h4 h2 h3 h5 h6) (.mid h5) (.mid h6))
end
end Go.Av
end
section
set_option linter.unusedVariables false
set_option linter.unusedSimpArgs false
namespace Go.Av
section
variable {P : Program} {N : Nat} {s : St} {Q : AExit → St → Prop}
theorem Wp.cond_dec {c : Opd} {x y : AC} {p : Prop} {_ : Decidable p} (hb : ev s.t c = .bool (decide p)) (ht : p → Wp P N x s Q) (hf : ¬ p → Wp P N y s Q) : Wp P N (.cond c x y) s Q :=
  Wp.cond_split hb (fun h => ht (of_decide_eq_true h)) (fun h => hf (of_decide_eq_false h))
theorem Wp.cond_ndec {c : Opd} {x y : AC} {p : Prop} {_ : Decidable p} (hb : ev s.t c = .bool (!decide p)) (ht : ¬ p → Wp P N x s Q) (hf : p → Wp P N y s Q) : Wp P N (.cond c x y) s Q :=
  Wp.cond_split hb (fun h => ht (by simpa using h)) (fun h => hf (by simpa using h))
def LoopWp (F : Fence) (n : Nat) (P : Program) (c : Code) (Q : Exit → Act → World → Prop) (a : Act) (w : World) : Prop :=
  ∀ (b : Frame) (k : List Item) (cs : List Frame), b.roundOf = F.round → F.fn b.fn → F.room (cs.length + 1 + n) →
    ∃ e a' w', Q e a' w' ∧ ArrivesIn (Machine.fenced P F) P (lone (b.atR a (.code c :: .inLoop c :: k)) cs w) b k cs e a' w'
theorem LoopWp.start {F : Fence} {n : Nat} {c : Code} {Q : Exit → Act → World → Prop} {a : Act} {w : World} (h : LoopWp F n P c Q a w) : (Code.loop c).wpIn F n P Q a w := by
  intro b k cs hro hb hr
  obtain ⟨e, a₁, w₁, hq, harr⟩ := h b k cs hro hb hr
  exact ⟨e, a₁, w₁, hq, .of_steps (.one (fenced_calm hb hr rfl) stepR_loop) harr⟩
theorem LoopWp.step {F : Fence} {n : Nat} {c : Code} {Q : Exit → Act → World → Prop} {a : Act} {w : World} (h : c.wpIn F n P (Exit.then (LoopWp F n P c Q) Q) a w) : LoopWp F n P c Q a w := by
  intro b k cs hro hb hr
  obtain ⟨e, a₁, w₁, hq, harr⟩ := h b (.inLoop c :: k) cs hro hb hr
  cases e with
  | normal =>
    obtain ⟨e₂, a₂, w₂, hq₂, harr₂⟩ := hq b k cs hro hb hr
    exact ⟨e₂, a₂, w₂, hq₂, .of_steps (StepsIn.trans harr (.one (fenced_calm hb hr rfl) stepR_inLoop)) harr₂⟩
  | exit id => exact ⟨_, a₁, w₁, hq, .pass (x := .inLoop c) rfl (fun _ _ => .inl (by simp)) harr⟩
  | goto l => exact ⟨_, a₁, w₁, hq, .pass (x := .inLoop c) rfl (fun _ _ => .inl (by simp)) harr⟩
  | ret => exact ⟨_, a₁, w₁, hq, .pass (x := .inLoop c) rfl (fun _ _ => .inl (by simp)) harr⟩
  | panic ch => exact ⟨_, a₁, w₁, hq, .pass (x := .inLoop c) rfl (fun _ _ => .inl (by simp)) harr⟩
  | outgrown => exact ⟨_, a₁, w₁, hq, .pass (x := .inLoop c) rfl (fun _ _ => .inl (by simp)) harr⟩
def RunL (P : Program) (N : Nat) (c : Code) (s : St) (e : AExit) (s' : St) : Prop :=
  (s.h.n ≤ s'.h.n ∧ s.h.m ≤ s'.h.m) ∧ ∀ ro, okR c ro → ∀ G w a, Rel N s G w a → Fresh G s.h s'.h → LoopWp (rd ro) 0 P c (fun e' a' w' => e.says e' ∧ NewM w a.defers a'.defers ∧ ∃ G', Trans G w s.h G' w' s'.h ∧ Rel N s' G' w' a') a w
def WpL (P : Program) (N : Nat) (c : AC) (s : St) (Q : AExit → St → Prop) : Prop :=
  ∀ code, cCode P N code = some c → ∃ e s', RunL P N code s e s' ∧ Q e s'
theorem Wp.loopL {c : AC} (h : WpL P N c s Q) : Wp P N (.loop c) s Q := by
  intro code hc
  obtain ⟨x, rfl, hx⟩ := code_loop hc
  obtain ⟨e, s', r, q⟩ := h x hx
  exact ⟨e, s', ⟨r.1, fun ro okc G w a rel F => (r.2 ro okc.loop G w a rel F).start⟩, q⟩
theorem WpL.next {c : AC} (h : Wp P N c s (AExit.andThen (fun s' => WpL P N c s' Q) Q)) : WpL P N c s Q := by
  intro x hx
  obtain ⟨e, s1, r1, q1⟩ := h x hx
  cases e with
  | normal =>
    obtain ⟨e2, s2, r2, q2⟩ := q1 x hx
    obtain ⟨⟨l1, l2⟩, r1⟩ := r1
    obtain ⟨⟨l3, l4⟩, r2⟩ := r2
    refine ⟨e2, s2, ⟨⟨by omega, by omega⟩, fun ro okc G w ac r F => .step (wpIn_mono (r1 ro okc G w ac r (F.sub (Nat.le_refl _) l3 (Nat.le_refl _) l4)) ?_)⟩, q2⟩
    rintro e' a' w' ⟨h1, h2, G', T1, r'⟩
    cases e' <;> simp only [AExit.says] at h1
    intro b k cs hro hb hr
    obtain ⟨e'', a'', w'', ⟨k1, k2, G'', T2, r''⟩, harr⟩ := r2 ro okc G' w' a' r' (F.step T1) b k cs hro hb hr
    exact ⟨e'', a'', w'', ⟨k1, h2.trans T1.size_le k2, G'', T1.trans r.h r'.h T2, r''⟩, harr⟩
  | exit id =>
    refine ⟨.exit id, s1, ⟨r1.1, fun ro okc G w ac r F => .step (wpIn_mono (r1.2 ro okc G w ac r F) ?_)⟩, q1⟩
    rintro e' a' w' ⟨h1, h2⟩
    cases e' <;> simp only [AExit.says] at h1
    exact ⟨h1, h2⟩
  | goto l =>
    refine ⟨.goto l, s1, ⟨r1.1, fun ro okc G w ac r F => .step (wpIn_mono (r1.2 ro okc G w ac r F) ?_)⟩, q1⟩
    rintro e' a' w' ⟨h1, h2⟩
    cases e' <;> simp only [AExit.says] at h1
    exact ⟨h1, h2⟩
  | ret =>
    refine ⟨.ret, s1, ⟨r1.1, fun ro okc G w ac r F => .step (wpIn_mono (r1.2 ro okc G w ac r F) ?_)⟩, q1⟩
    rintro e' a' w' ⟨h1, h2⟩
    cases e' <;> simp only [AExit.says] at h1
    exact ⟨trivial, h2⟩
  | panic v =>
    refine ⟨.panic v, s1, ⟨r1.1, fun ro okc G w ac r F => .step (wpIn_mono (r1.2 ro okc G w ac r F) ?_)⟩, q1⟩
    rintro e' a' w' ⟨h1, h2⟩
    cases e' <;> simp only [AExit.says] at h1
    exact ⟨h1, h2⟩
def evalR : List AItem → Tm → H → List Ent → Option (List AItem × Tm × H × List Ent)
  | [], t, h, l => some ([], t, h, l)
  | it :: its, t, h, l => match guardOf t it.guard with
    | some true => (match aop (ev t) h it.op with
      | some (x, h', en) => evalR its (putT t it.dst x) h' (en :: l)
      | none => some (it :: its, t, h, l))
    | some false => evalR its (putT t it.dst (.sc undef)) h (ent0 :: l)
    | none => some (it :: its, t, h, l)
theorem evalR_ok : ∀ {items : List AItem} {t : Tm} {h : H} {l : List Ent} {r : List AItem × Tm × H × List Ent}, evalR items t h l = some r → evalOps items t h l = r
  | [], t, h, l, r, he => by simpa [evalR, evalOps] using he
  | it :: its, t, h, l, r, he => by
    simp only [evalR] at he
    simp only [evalOps]
    cases hg : guardOf t it.guard with
    | none => rw [hg] at he; simpa using he
    | some g =>
      rw [hg] at he
      cases g with
      | false => exact evalR_ok he
      | true =>
        simp only at he ⊢
        cases hx : aop (ev t) h it.op with
        | none => rw [hx] at he; simpa using he
        | some p =>
          obtain ⟨x, h', en⟩ := p
          rw [hx] at he
          exact evalR_ok he
theorem WpItems.evR {items its : List AItem} {t t' : Tm} {h h' : H} {log log' : List Ent} {K : Tm → H → List Ent → Prop} (he : evalR items t h log = some (its, t', h', log')) (hw : WpItems P N its t' h' log' K) : WpItems P N items t h log K := WpItems.eval (evalR_ok he) hw
theorem Wp.seqItemsR {items its : List AItem} {p : Option (List (Nat × Nat))} {y : AC} {t' : Tm} {h' : H} {log : List Ent} (he : evalR items s.t s.h [] = some (its, t', h', log)) (h : WpItems P N its t' h' log fun t h l => pairsQ p l ∧ Wp P N y ⟨t, h⟩ Q) : Wp P N (.seq (.reg items p) y) s Q := Wp.seqItems (evalR_ok he) h
theorem Wp.itemsR {items its : List AItem} {p : Option (List (Nat × Nat))} {t' : Tm} {h' : H} {log : List Ent} (he : evalR items s.t s.h [] = some (its, t', h', log)) (h : WpItems P N its t' h' log fun t h l => pairsQ p l ∧ Q .normal ⟨t, h⟩) : Wp P N (.reg items p) s Q := Wp.items (evalR_ok he) h
def evalU : List AItem → Tm → H → List Ent → List AItem × Tm × H × List Ent
  | [], t, h, l => ([], t, h, l)
  | it :: its, t, h, l => match it.guard with
    | some _ => (it :: its, t, h, l)
    | none => (match aop (ev t) h it.op with
      | some (x, h', en) => evalU its (putT t it.dst x) h' (en :: l)
      | none => (it :: its, t, h, l))
theorem evalU_ok : ∀ {items its : List AItem} {t t' : Tm} {h h' : H} {log log' : List Ent} {K : Tm → H → List Ent → Prop}, evalU items t h log = (its, t', h', log') → WpItems P N its t' h' log' K → WpItems P N items t h log K
  | [], its, t, t', h, h', log, log', K, he, hw => by
    simp only [evalU, Prod.mk.injEq] at he
    obtain ⟨rfl, rfl, rfl, rfl⟩ := he
    exact hw
  | ⟨dst, g, op⟩ :: items, its, t, t', h, h', log, log', K, he, hw => by
    simp only [evalU] at he
    cases g with
    | some g =>
      simp only [Prod.mk.injEq] at he
      obtain ⟨rfl, rfl, rfl, rfl⟩ := he
      exact hw
    | none =>
      simp only at he
      cases hx : aop (ev t) h op with
      | none =>
        rw [hx] at he
        simp only [Prod.mk.injEq] at he
        obtain ⟨rfl, rfl, rfl, rfl⟩ := he
        exact hw
      | some p =>
        obtain ⟨x, h1, en⟩ := p
        rw [hx] at he
        simp only at he
        have r := evalU_ok he hw
        refine WpItems.part 1 (items := ⟨dst, none, op⟩ :: items) (t' := putT t dst x) (h' := h1) (log' := en :: log) ?_ r
        simp [evalOps, guardOf, hx]
theorem WpItems.evU {dst : Option Nat} {op : AOp} {items its : List AItem} {t t' : Tm} {h h1 h' : H} {log log' : List Ent} {K : Tm → H → List Ent → Prop} {x : AV} {en : Ent} (hx : aop (ev t) h op = some (x, h1, en))
    (he : evalU items (putT t dst x) h1 (en :: log) = (its, t', h', log')) (hw : WpItems P N its t' h' log' K) : WpItems P N (⟨dst, none, op⟩ :: items) t h log K :=
  evalU_ok (by simp only [evalU, hx]; exact he) hw
theorem upd_self {t : Tm} {d : Nat} {x : AV} (h : t d = x) : upd t d x = t := by
  funext j
  simp only [upd]
  split
  · rename_i e; rw [e, h]
  · rfl
theorem WpItems.gsplit {dst : Option Nat} {d : Nat} {wn : Bool} {op : AOp} {its : List AItem} {t : Tm} {h : H} {log : List Ent} {K : Tm → H → List Ent → Prop} {b : Bool} (hb : t d = .bool b)
    (ht : b = true → WpItems P N (⟨dst, some (d, wn), op⟩ :: its) (upd t d (.bool true)) h log K) (hf : b = false → WpItems P N (⟨dst, some (d, wn), op⟩ :: its) (upd t d (.bool false)) h log K) : WpItems P N (⟨dst, some (d, wn), op⟩ :: its) t h log K := by
  cases b
  · have := hf rfl; rwa [upd_self hb] at this
  · have := ht rfl; rwa [upd_self hb] at this
theorem WpItems.gsplit_dec {dst : Option Nat} {d : Nat} {wn : Bool} {op : AOp} {its : List AItem} {t : Tm} {h : H} {log : List Ent} {K : Tm → H → List Ent → Prop} {p : Prop} {_ : Decidable p} (hb : t d = .bool (decide p))
    (ht : p → WpItems P N (⟨dst, some (d, wn), op⟩ :: its) (upd t d (.bool true)) h log K) (hf : ¬ p → WpItems P N (⟨dst, some (d, wn), op⟩ :: its) (upd t d (.bool false)) h log K) : WpItems P N (⟨dst, some (d, wn), op⟩ :: its) t h log K :=
  WpItems.gsplit hb (fun h => ht (of_decide_eq_true h)) (fun h => hf (of_decide_eq_false h))
theorem WpItems.gsplit_ndec {dst : Option Nat} {d : Nat} {wn : Bool} {op : AOp} {its : List AItem} {t : Tm} {h : H} {log : List Ent} {K : Tm → H → List Ent → Prop} {p : Prop} {_ : Decidable p} (hb : t d = .bool (!decide p))
    (ht : ¬ p → WpItems P N (⟨dst, some (d, wn), op⟩ :: its) (upd t d (.bool true)) h log K) (hf : p → WpItems P N (⟨dst, some (d, wn), op⟩ :: its) (upd t d (.bool false)) h log K) : WpItems P N (⟨dst, some (d, wn), op⟩ :: its) t h log K :=
  WpItems.gsplit hb (fun h => ht (by simpa using h)) (fun h => hf (by simpa using h))
theorem Wp.regS {items : List AItem} {p : Option (List (Nat × Nat))} {t : Tm} {h : H} (hw : WpItems P N items t h [] fun t' h' log => pairsQ p log ∧ Q .normal ⟨t', h'⟩) : Wp P N (.reg items p) ⟨t, h⟩ Q := Wp.reg hw
theorem Wp.seqRegS {items : List AItem} {p : Option (List (Nat × Nat))} {y : AC} {t : Tm} {h : H} (hw : WpItems P N items t h [] fun t' h' log => pairsQ p log ∧ Wp P N y ⟨t', h'⟩ Q) : Wp P N (.seq (.reg items p) y) ⟨t, h⟩ Q := Wp.seq (Wp.reg hw)
end
attribute [go_sem] evalU evalR
def VSubL : List AV → List AV → Prop
  | [], [] => True
  | x :: xs, y :: ys => VSub x y ∧ VSubL xs ys
  | _, _ => False
theorem VSubL.refl : ∀ l, VSubL l l
  | [] => trivial
  | x :: l => ⟨VSub.refl x, VSubL.refl l⟩
theorem VSubL.len : ∀ {xs ys : List AV}, VSubL xs ys → xs.length = ys.length
  | [], [], _ => rfl
  | _ :: _, _ :: _, h => by simp [VSubL.len h.2]
  | [], _ :: _, h => h.elim
  | _ :: _, [], h => h.elim
theorem VSubL.els {G : Ghost} {w : World} {sz : Nat} : ∀ {xs ys : List AV} {vs : List Value}, VSubL xs ys → VElems G w sz xs vs → VElems G w sz ys vs
  | [], [], _, _, h => h
  | x :: xs, y :: ys, vs, h, hv => by
    simp only [VElems] at hv ⊢
    obtain ⟨v, us, e, h1, h2, h3⟩ := hv
    exact ⟨v, us, e, h1, h.1 G w v h2, VSubL.els h.2 h3⟩
  | [], _ :: _, _, h, _ => h.elim
  | _ :: _, [], _, h, _ => h.elim
theorem VSub.sl {sz : Nat} {xs ys : List AV} {c : Cap} (h : VSubL xs ys) : VSub (.sl sz xs c) (.sl sz ys .any) := by
  intro G w v hv
  have hl := h.len
  simp only [VRel] at hv ⊢
  rcases hv with ⟨rfl, a, _⟩ | ⟨B, off, C, vs, h1, h2, h3, h4, h5, h6⟩
  · cases ys with
    | nil => exact .inl ⟨rfl, a, by simp [CapNil]⟩
    | cons y ys => simp at hl
  · exact .inr ⟨B, off, C, vs, by rw [← hl]; exact h1, by rw [← hl]; exact h2, by rw [← hl]; exact h3, h.els h4, h5, by simp [CapOk]⟩
theorem VSub.slc {sz : Nat} {xs ys : List AV} {c : Cap} (h : VSubL xs ys) : VSub (.sl sz xs c) (.sl sz ys c) := by
  intro G w v hv
  have hl := h.len
  simp only [VRel] at hv ⊢
  rcases hv with ⟨rfl, a, b⟩ | ⟨B, off, C, vs, h1, h2, h3, h4, h5, h6⟩
  · cases ys with
    | nil => exact .inl ⟨rfl, a, b⟩
    | cons y ys => simp at hl
  · exact .inr ⟨B, off, C, vs, by rw [← hl]; exact h1, by rw [← hl]; exact h2, by rw [← hl]; exact h3, h.els h4, h5, by rw [← hl]; exact h6⟩
theorem all_step {p : Nat → Bool} {j : Nat} (h : ∀ i, i < j → p i = true) (hj : p j = true) : ∀ i, i < j + 1 → p i = true := by
  intro i hi
  by_cases e : i = j
  · subst e; exact hj
  · exact h i (by omega)
theorem all_no {p : Nat → Bool} {n j : Nat} (h : j < n) (hp : p j = false) : (List.range n).all p = false := List.all_eq_false.2 ⟨j, List.mem_range.2 h, by simp [hp]⟩
theorem all_yes {p : Nat → Bool} {n : Nat} (h : ∀ i, i < n → p i = true) : (List.range n).all p = true := List.all_eq_true.2 fun i hi => h i (List.mem_range.1 hi)
theorem getD_el {α : Type} {l : List α} {i : Nat} {d : α} (h : i < l.length) : l.getD i d = l[i] := by
  rw [List.getD_eq_getElem?_getD, List.getElem?_eq_getElem h]; rfl
theorem take_snoc {α : Type} {l : List α} {j : Nat} (d : α) (h : j < l.length) : l.take (j + 1) = l.take j ++ [l.getD j d] := by
  rw [List.take_succ_eq_append_getElem h, getD_el h]
theorem enc_at {α : Type} [Inhabited α] (f : α → AV) (l : List α) (k : Nat) (d : AV) (h : k < l.length) : (l.map f).getD k d = f (l.getD k default) := by
  simp [List.getD, List.getElem?_map, List.getElem?_eq_getElem h]
end Go.Av
end
section
set_option linter.unusedVariables false
set_option linter.unusedSimpArgs false
namespace Go.Av
section
variable {P : Program} {N : Nat}
def YCalls (P : Program) (id : Nat) (args : List AV) (h : H) (r : AV) (h' : H) : Prop :=
  ∀ G w vs, G.dom id → VRels G w args vs → RepH G h w → Fresh G h h' → YieldAt Fence.wide 0 P (G.ι id) vs.toArray w fun e w' => ∃ v G', e = .returned v ∧ Trans G w h G' w' h' ∧ RepH G' h' w' ∧ VRel G' w' r v
theorem roundIn_rd {ro : Option Nat} {n l : Nat} {f : FuncId} {tmps : Array Value} {assign body : Code} {w : World} {R : Ending → World → Prop} (h : RoundIn Fence.wide n P l f tmps assign body w R) : RoundIn (rd ro) n P l f tmps assign body w R := h
theorem itrun_yield {ops : Array Oper} {i : Nat} {o : Oper} {it : AItem} {t : Tm} {id : Nat} {y : Opd} {l : List Opd} {vals : List AV} {h1 h1' : H} {r : AV} (ho : ops[i]? = some o) (hit : cItem P N ops o = some it) (hg : guardOf t it.guard = some true) (hop : it.op = .callv y l)
    (hy : ev t y = .yld id) (hs : VSubs (l.map (ev t)) vals) (hc : YCalls P id vals h1 r h1') : ItRun P ops i o t h1 r h1' := by
  unfold cItem at hit
  split at hit
  · rename_i op g hcop hgd
    split at hit <;> cases hit
    rename_i hcond
    simp only [Bool.and_eq_true] at hcond
    simp only at hop
    subst hop
    have hcop := cOpD_of hcop (by simp)
    obtain ⟨c, z, e1, e2, e3, e4⟩ := cOp_callv hcop
    intro G w a ht R F K Q hK ro
    unfold wpOpIn
    rw [ho]
    simp only [guard_wanted hgd ht hg, if_true]
    have rr := opds_rel (P := P) (cut_rel ht) e4
    have rz := opd_rel (P := P) e3 (cut_rel ht)
    have hcut := cut_ev (t := t) hcond.2
    have el : l.map (ev (cutTo (names ops o) t)) = l.map (ev t) := List.map_congr_left fun x hx => hcut x (by simp [opdsOf, hx])
    rw [el] at rr
    rw [hcut y (by simp [opdsOf]), hy] at rz
    simp only [VRel] at rz
    obtain ⟨rdom, rz⟩ := rz
    refine ⟨fun _ _ => trivial, ?_⟩
    obtain ⟨fn, tmps, asg, body, q1, q2⟩ := hc G w _ rdom (hs G w _ rr) R F
    have hargs : (c.args.map a.eval) = (c.args.toList.map a.eval).toArray := by cases c.args; simp
    have hrun : (execOp a.eval o).run P w = .ok (.round (G.ι id) fn tmps asg body) w := by
      simp [execOp, e1, resolve, e2, rz, Deferred.ofValue, invoke, hargs]
      exact q1
    rw [Oper.semAt_eq _ _ _ (cOp_plain hcop), hrun, Oper.uponIn_round]
    refine ⟨fun h => by simp [rd, Fence.wide] at h, roundIn_rd (q2.mono ?_)⟩
    rintro e w' ⟨v, G', rfl, T, R', V⟩
    exact hK G' w' v T R' V
  · cases hit
def putPs (t : Tm) : List Nat → List AV → Tm
  | p :: ps, x :: xs => putPs (upd t p x) ps xs
  | _, _ => t
theorem putPs_rel {G : Ghost} {w : World} : ∀ {ps : List Nat} {xs : List AV} {vs : List Value} {t : Tm} {tmps : Array Value}, VRels G w xs vs → (∀ p ∈ ps, p < tmps.size) → (∀ i, VRel G w (t i) (tmps.getD i undef)) →
    (∀ i, VRel G w (putPs t ps xs i) (((ps.zip vs).foldl (fun tm (p : Nat × Value) => tm.setIfInBounds p.1 p.2) tmps).getD i undef)) ∧ ((ps.zip vs).foldl (fun tm (p : Nat × Value) => tm.setIfInBounds p.1 p.2) tmps).size = tmps.size
  | [], xs, vs, t, tmps, _, _, h => by simpa [putPs] using h
  | p :: ps, [], vs, t, tmps, hv, _, h => by
    simp only [VRels] at hv; subst hv
    simpa [putPs] using h
  | p :: ps, x :: xs, vs, t, tmps, hv, hp, h => by
    simp only [VRels] at hv
    obtain ⟨v, us, rfl, h1, h2⟩ := hv
    have hk := hp p (by simp)
    have := putPs_rel (ps := ps) (t := upd t p x) (tmps := tmps.setIfInBounds p v) h2 (fun q hq => by simpa using hp q (by simp [hq])) (fun i => by
      simp only [upd]
      by_cases e : i = p
      · subst e; simp [Array.getElem?_setIfInBounds, hk]; exact h1
      · have e2 : (tmps.setIfInBounds p v).getD i undef = tmps.getD i undef := by simp [Array.getElem?_setIfInBounds, Ne.symm e]
        rw [if_neg e, e2]; exact h i)
    simp only [putPs, List.zip_cons_cons, List.foldl_cons]
    exact ⟨this.1, by rw [this.2]; simp⟩
inductive RoundEnd : AExit → Bool → LoopState → Option Code → Prop where
  | normal : RoundEnd .normal true .ready none
  | ret : RoundEnd .ret false .done (some .ret)
  | exit (i : Nat) : RoundEnd (.exit i) false .done (some (.exit i))
  | goto (l : Nat) : RoundEnd (.goto l) false .done (some (.goto l))
theorem loop_turn {G : Ghost} {w : World} {f : Objs} {n m id M : Nat} {T : List Nat} {t : Nat → AV} {ps : List Nat} {asg body : Code} {st : LoopState} {pend : Option Code} (R : RepH G ⟨f, n, T, m⟩ w) (ho : f id = some (.loop M t ps asg body st pend)) {r : Loop}
    (hr : w.heap[G.ι id]? = some (.loop r)) (st' : LoopState) (pend' : Option Code) :
    Trans G w ⟨f, n, T, m⟩ G (w.putObj (G.ι id) (.loop { r with state := st', pending := pend' })) ⟨upd f id (some (.loop M t ps asg body st' pend')), n, T, m⟩ ∧
    RepH G ⟨upd f id (some (.loop M t ps asg body st' pend')), n, T, m⟩ (w.putObj (G.ι id) (.loop { r with state := st', pending := pend' })) := by
  obtain ⟨d1, d2, d3, r0, e0, d4⟩ := R.obj id _ ho
  have hrr : r0 = r := by
    have := hr
    rw [e0] at this
    cases this; rfl
  subst hrr
  have tu : Turned (G.ι id) w (w.putObj (G.ι id) (.loop { r0 with state := st', pending := pend' })) :=
    ⟨by simp, fun B hB => World.putObj_heap_other hB, fun c T fr e => absurd (hr.symm.trans e) (by simp), rfl, rfl⟩
  have hO : ∀ B, H.O ⟨f, n, T, m⟩ G B ↔ H.O ⟨upd f id (some (.loop M t ps asg body st' pend')), n, T, m⟩ G B := by
    intro B
    constructor
    · rintro ⟨j, o, h1, h2⟩
      by_cases e : j = id
      · exact ⟨id, .loop M t ps asg body st' pend', by simp [upd], by rw [← h2, e]⟩
      · exact ⟨j, o, by simpa [upd, e] using h1, h2⟩
    · rintro ⟨j, o, h1, h2⟩
      by_cases e : j = id
      · exact ⟨id, _, ho, by rw [← h2, e]⟩
      · exact ⟨j, o, by simpa [upd, e] using h1, h2⟩
  have hne : ∀ B, ¬ H.O ⟨f, n, T, m⟩ G B → B ≠ G.ι id := fun B h e => h ⟨id, _, ho, e.symm⟩
  have Tr : Trans G w ⟨f, n, T, m⟩ G (w.putObj (G.ι id) (.loop { r0 with state := st', pending := pend' })) ⟨upd f id (some (.loop M t ps asg body st' pend')), n, T, m⟩ := by
    constructor
    · exact fun _ x => x
    · exact fun _ => .inl
    · exact fun _ _ => rfl
    · exact fun _ x => x
    · exact fun _ => .inl
    · exact fun _ _ => rfl
    · exact Nat.le_refl _
    · exact Nat.le_refl _
    · rw [tu.size]; exact Nat.le_refl _
    · exact tu.os
    · exact tu.out
    · intro B hB
      by_cases e : B = G.ι id
      · subst e
        rw [hr, World.putObj_heap_same d3]
        exact ⟨_, rfl⟩
      · rw [tu.same B e]; exact SameForm.refl _
    · exact fun B hB h1 _ => tu.same B (hne B h1)
    · exact fun _ _ _ => Iff.rfl
    · exact fun _ _ _ _ => rfl
    · intro B hB h1 h2 e he
      refine ⟨fun j hj => ?_, fun e' he' => by rw [he] at he'; cases he'; exact Nat.le_refl _⟩
      have := tu.same B (hne B h2)
      unfold World.cell?
      simp only [this]
    · exact fun B _ h => (hO B).2 h
    · exact fun B _ h => h
    · intro j o h
      by_cases e : j = id
      · exact .inl ⟨_, by rw [e]; exact ho⟩
      · exact .inl ⟨o, by simpa [upd, e] using h⟩
    · exact fun _ => .inl
  refine ⟨Tr, ⟨fun j o hj => ?_, fun i j o o' h1 h2 => ?_, fun t ht => ⟨(R.tok t ht).1, fun B e he => by rw [tu.size]; exact (R.tok t ht).2 B e he⟩, R.tinj⟩⟩
  · by_cases e : j = id
    · subst e
      have : o = .loop M t ps asg body st' pend' := by simpa [upd] using hj.symm
      subst this
      refine ⟨d1, d2, by rw [tu.size]; exact d3, _, World.putObj_heap_same d3, d4.1, fun i => VRel.turn tu _ _ (d4.2.1 i), d4.2.2.1, d4.2.2.2.1, d4.2.2.2.2.1, rfl, rfl⟩
    · have hj' : f j = some o := by simpa [upd, e] using hj
      obtain ⟨a1, a2, a3, a4⟩ := R.obj j o hj'
      refine ⟨a1, a2, by rw [tu.size]; exact a3, ?_⟩
      have hb : G.ι j ≠ G.ι id := fun e' => e (R.inj j id o _ hj' ho e')
      rw [tu.same _ hb]
      exact a4.turn tu
  · have get : ∀ k p, upd f id (some (.loop M t ps asg body st' pend')) k = some p → ∃ p', f k = some p' := by
      intro k p hk
      by_cases e : k = id
      · exact ⟨_, by rw [e]; exact ho⟩
      · exact ⟨p, by simpa [upd, e] using hk⟩
    obtain ⟨p, hp⟩ := get i o h1
    obtain ⟨p', hp'⟩ := get j o' h2
    exact R.inj i j p p' hp hp'
theorem ycalls_of {id M n m : Nat} {f : Objs} {T : List Nat} {t : Tm} {ps : List Nat} {asg body : Code} {x y : AC} {args : List AV} {Q : AV → H → Prop} (ho : f id = some (.loop M t ps asg body .ready none)) (ha : cCode P M asg = some x) (hb : cCode P M body = some y) (hna : noRF asg = true) (hnb : noRF body = true)
    (hl : args.length = ps.length) (hps : ∀ p ∈ ps, p < M)
    (hw : Wp P M x ⟨putPs t ps args, ⟨f, n, T, m⟩⟩ fun e s => e = .normal ∧ ∃ t1, s.h.objs id = some (.loop M t1 ps asg body .ready none) ∧
      Wp P M y ⟨s.t, { s.h with objs := upd s.h.objs id (some (.loop M t1 ps asg body .busy none)) }⟩ fun e2 s2 => ∃ t2 b st pend, s2.h.objs id = some (.loop M t2 ps asg body .busy none) ∧ RoundEnd e2 b st pend ∧
        Q (.bool b) { s2.h with objs := upd s2.h.objs id (some (.loop M t2 ps asg body st pend)) }) :
    ∃ r h', YCalls P id args ⟨f, n, T, m⟩ r h' ∧ Q r h' := by
  obtain ⟨e, s, run, rfl, t1, ho1, hw2⟩ := hw asg ha
  obtain ⟨e2, s2, run2, t2, b, st, pend, ho2, hre, hq⟩ := hw2 body hb
  refine ⟨_, _, ?_, hq⟩
  have nm1 := run.1
  have nm2 := run2.1
  simp only at nm1 nm2
  intro G w vs hdom hv R F
  obtain ⟨d1, d2, d3, r, e0, d4, d5, d6, d7, d8, d9, d10⟩ := R.obj id _ ho
  have hsz : vs.toArray.size = r.params.size := by
    have h1 := hv.length
    have h2 : r.params.toList.length = ps.length := by rw [d6]
    simp at h2 ⊢
    omega
  refine ⟨r.fn, _, r.assign, r.body, run_yield e0 hsz, ?_⟩
  refine roundIn_of_wpIn (F := Fence.wide) trivial ?_
  have hzip : (r.params.zip vs.toArray).foldl (fun tmps (p : Tmp × Value) => tmps.setIfInBounds p.1 p.2) r.tmps = (ps.zip vs).foldl (fun tm (p : Nat × Value) => tm.setIfInBounds p.1 p.2) r.tmps := by
    rw [← Array.foldl_toList, Array.toList_zip, d6]
  have hput := putPs_rel (ps := ps) (t := t) (tmps := r.tmps) hv (fun p hp => by rw [d4]; exact hps p hp) d5
  have F1 : Fresh G ⟨f, n, T, m⟩ s.h := F.sub (Nat.le_refl _) nm2.1 (Nat.le_refl _) nm2.2
  have rel0 : Rel M ⟨putPs t ps args, ⟨f, n, T, m⟩⟩ G w { tmps := (r.params.zip vs.toArray).foldl (fun tmps (p : Tmp × Value) => tmps.setIfInBounds p.1 p.2) r.tmps, defers := [] } := by
    rw [hzip]
    exact ⟨hput.2.trans d4, hput.1, R, by simp, by simp⟩
  have w1 := run.2 (some (G.ι id)) (.inr hna) G w _ rel0 F1
  rw [d7, d8]
  refine wpIn_mono w1 ?_
  rintro e' a1 w1' ⟨h1, -, G1, T1, r1⟩
  cases e' <;> simp only [AExit.says] at h1
  have hι : G1.ι id = G.ι id := T1.ι_eq id d1
  obtain ⟨k1, k2, k3, r', k4, k5, k6, k7, k8, k9, k10, k11⟩ := r1.h.obj id _ ho1
  rw [hι] at k3 k4
  have hbr := run_beginRound (P := P) k4 k10
  refine ⟨_, hbr, ?_⟩
  have k4' : w1'.heap[G1.ι id]? = some (.loop r') := by rw [hι]; exact k4
  obtain ⟨T2, R2⟩ := loop_turn (n := s.h.n) (m := s.h.m) (T := s.h.toks) (f := s.h.objs) r1.h ho1 k4' .busy none
  rw [hι] at T2 R2
  have hrec : { r' with state := LoopState.busy, pending := (none : Option Code) } = { r' with state := .busy } := by rw [← k11]
  rw [hrec] at T2 R2
  have rel1 : Rel M ⟨s.t, { s.h with objs := upd s.h.objs id (some (.loop M t1 ps asg body .busy none)) }⟩ G1 (w1'.putObj (G.ι id) (.loop { r' with state := .busy })) a1 :=
    ⟨r1.size, fun i => VRel.mono r1.h T2 _ _ (r1.t i), R2, r1.df.mono T2⟩
  have F2 : Fresh G1 { s.h with objs := upd s.h.objs id (some (.loop M t1 ps asg body .busy none)) } s2.h := by
    have := (F.step (h' := { s2.h with objs := upd s2.h.objs id (some (.loop M t2 ps asg body st pend)) }) T1)
    exact this
  refine wpIn_mono (run2.2 (some (G.ι id)) (.inr hnb) G1 _ a1 rel1 F2) ?_
  rintro e' a2 w2 ⟨q1, -, G2, T3, r2⟩
  have hι2 : G2.ι id = G.ι id := (T3.ι_eq id k1).trans hι
  obtain ⟨j1, j2, j3, r'', j4, j5, j6, j7, j8, j9, j10, j11⟩ := r2.h.obj id _ ho2
  have j4' : w2.heap[G.ι id]? = some (.loop r'') := by rw [← hι2]; exact j4
  obtain ⟨T4, R4⟩ := loop_turn (n := s2.h.n) (m := s2.h.m) (T := s2.h.toks) (f := s2.h.objs) r2.h ho2 j4 st pend
  rw [hι2] at T4 R4
  have Tall := ((T1.trans R r1.h T2).trans R R2 T3).trans R r2.h T4
  cases hre
  all_goals
    cases e' <;> simp only [AExit.says] at q1
    try subst q1
    have hend := fun j => run_endRound (P := P) j j4'
    refine ⟨_, _, hend _, _, G2, rfl, Tall, R4, ?_⟩
    simp only [VRel, Option.isNone_none, Option.isNone_some]
theorem code_rfun {code : Code} {g : Opd} {ps : List Nat} {x y : AC} (h : cCode P N code = some (.rfun g ps x y)) : ∃ z qs a b, code = .rangeFunc z qs a b ∧ opd P 0 z = some g ∧ qs.toList = ps ∧ cCode P N a = some x ∧ cCode P N b = some y ∧ noRF a = true ∧ noRF b = true := by
  cases code with
  | rangeFunc z qs a b =>
    simp only [cCode] at h
    split at h
    · rename_i g' x' y' h1 h2 h3
      split at h
      · rename_i hcc
        cases h
        have hcc' : noRF a = true ∧ noRF b = true := by simpa using hcc
        exact ⟨_, _, _, _, rfl, h1, rfl, h2, h3, hcc'.1, hcc'.2⟩
      · cases h
    · cases h
  | _ =>
    simp only [cCode] at h
    first | (simp at h; done) | (cases h; done) | ((repeat' split at h) <;> cases h; done)
inductive LoopEnd : Option Code → AExit → Prop where
  | none : LoopEnd none .normal
  | ret : LoopEnd (some .ret) .ret
  | exit (i : Nat) : LoopEnd (some (.exit i)) (.exit i)
  | goto (l : Nat) : LoopEnd (some (.goto l)) (.goto l)
theorem Wp.rfun {g : Opd} {ps : List Nat} {x y : AC} {t : Tm} {f : Objs} {n m : Nat} {T : List Nat} {Q : AExit → St → Prop} {fi : FuncId} {fn : Func} {first caps : List AV} (hg : ev t g = .clo (.func fi) first caps) (hf : P.funcs[fi]? = some fn) (hfb : fn.body.isSome = true) (hfn : fn.name ≠ "runtime.NumGoroutine")
    (hfresh : f n = none)
    (hw : ∀ asg body, cCode P N asg = some x → cCode P N body = some y → noRF asg = true → noRF body = true → ∃ r f2 n2 T2 m2 t2 st pend e,
      ACalls P fi (first ++ [.yld n] ++ caps) ⟨upd f n (some (.loop N t ps asg body .ready none)), n + 1, T, m⟩ r ⟨f2, n2, T2, m2⟩ ∧ n + 1 ≤ n2 ∧ m ≤ m2 ∧ f2 n = some (.loop N t2 ps asg body st pend) ∧ st ≠ .busy ∧ LoopEnd pend e ∧
      Q e ⟨t, ⟨fun j => if j = n then none else f2 j, n2, T2, m2⟩⟩) : Wp P N (.rfun g ps x y) ⟨t, ⟨f, n, T, m⟩⟩ Q := by
  intro code hc
  obtain ⟨z, qs, asg, body, rfl, c1, c2, c3, c4, c5, c6⟩ := code_rfun hc
  obtain ⟨r, f2, n2, T2, m2, t2, st, pend, e, hcall, hn2, hm2, ho2, hst, hle, hq⟩ := hw asg body c3 c4 c5 c6
  refine ⟨e, _, ⟨⟨by simp only; omega, by simp only; omega⟩, fun ro okc G w a rel F => ?_⟩, hq⟩
  obtain rfl : ro = none := by
    rcases okc with h | h
    · exact h
    · simp [noRF] at h
  have hz : VRel G w (.clo (.func fi) first caps) (a.eval z) := by rw [← hg]; exact opd_rel c1 rel.t
  simp only [VRel] at hz
  obtain ⟨vs, us, hz, hv1, hv2⟩ := hz
  refine wpIn_rangeFunc (F := rd none) (n := 0) fun fid _ => ?_
  let D := w.heap.size
  let rec0 : Loop := { state := .ready, pending := none, fn := fid, tmps := a.tmps, params := qs, assign := asg, body := body, defers := w.heap.size }
  let w1 := (w.alloc (.deferred (some []))).alloc (.loop rec0)
  have hD1 : w1.heap[D]? = some (.deferred (some [])) := by
    show ((w.heap.push (.deferred (some []))).push (.loop rec0))[w.heap.size]? = _
    rw [Array.getElem?_push, if_neg (by simp), Array.getElem?_push, if_pos rfl]
  have hL1 : w1.heap[D + 1]? = some (.loop rec0) := by
    show ((w.heap.push (.deferred (some []))).push (.loop rec0))[w.heap.size + 1]? = _
    rw [Array.getElem?_push, if_pos (by simp)]
  have hsz1 : w1.heap.size = w.heap.size + 2 := by show ((w.heap.push (.deferred (some []))).push (.loop rec0)).size = _; simp
  have hold : ∀ B, B < w.heap.size → w1.heap[B]? = w.heap[B]? := by
    intro B hB
    show ((w.heap.push (.deferred (some []))).push (.loop rec0))[B]? = _
    rw [Array.getElem?_push, if_neg (by rw [Array.size_push]; omega), Array.getElem?_push, if_neg (by omega)]
  have hndom : ¬ G.dom n := F.1 n (Nat.le_refl _) (by simp only; omega)
  let G1 : Ghost := { G with dom := fun j => G.dom j ∨ j = n, ι := upd G.ι n (D + 1), own := fun B => G.own B ∨ B = D + 1 }
  have hι1 : ∀ j, G.dom j → G1.ι j = G.ι j := fun j hj => by
    simp only [G1, upd]; rw [if_neg]; rintro rfl; exact hndom hj
  have hιn : G1.ι n = D + 1 := by simp [G1, upd]
  have hne : ∀ j o, f j = some o → j ≠ n := fun j o h e => by subst e; rw [hfresh] at h; cases h
  have hO : ∀ B, B < w.heap.size → H.O ⟨upd f n (some (.loop N t ps asg body .ready none)), n + 1, T, m⟩ G1 B → H.O ⟨f, n, T, m⟩ G B := by
    rintro B hB ⟨j, o, h1, h2⟩
    by_cases e' : j = n
    · subst e'; rw [hιn] at h2; omega
    · have h1' : f j = some o := by simpa [upd, e'] using h1
      exact ⟨j, o, h1', by rw [← hι1 j (rel.h.obj j o h1').1]; exact h2⟩
  have Tr1 : Trans G w ⟨f, n, T, m⟩ G1 w1 ⟨upd f n (some (.loop N t ps asg body .ready none)), n + 1, T, m⟩ := by
    constructor
    · exact fun _ x => .inl x
    · rintro j (h | rfl)
      · exact .inl h
      · exact .inr ⟨Nat.le_refl _, Nat.lt_succ_self _⟩
    · exact hι1
    · exact fun _ x => x
    · exact fun _ => .inl
    · exact fun _ _ => rfl
    · exact Nat.le_succ _
    · exact Nat.le_refl _
    · rw [hsz1]; omega
    · rfl
    · rfl
    · intro B hB; rw [hold B hB]; exact SameForm.refl _
    · exact fun B hB _ _ => hold B hB
    · intro B hB _
      exact ⟨fun h => h.resolve_right (by omega), .inl⟩
    · exact fun _ _ _ _ => rfl
    · intro B hB h1 h2 e' he'
      refine ⟨fun j hj => ?_, fun e'' he'' => ?_⟩
      · have := hold B hB
        unfold World.cell?
        simp only [this]
      · have he2 : G.lim B = some e'' := he''
        rw [he'] at he2; cases he2; exact Nat.le_refl _
    · exact hO
    · exact fun _ _ h => h
    · intro j o h
      by_cases e' : j = n
      · subst e'; exact .inr ⟨Nat.le_refl _, Nat.lt_succ_self _⟩
      · exact .inl ⟨o, by simpa [upd, e'] using h⟩
    · exact fun _ => .inl
  have R1 : RepH G1 ⟨upd f n (some (.loop N t ps asg body .ready none)), n + 1, T, m⟩ w1 := by
    refine ⟨fun j o h => ?_, fun i j o o' h1 h2 h3 => ?_, fun k hk => ⟨(rel.h.tok k hk).1, fun B e' he' => ?_⟩, rel.h.tinj⟩
    · by_cases e' : j = n
      · subst e'
        have : o = .loop N t ps asg body .ready none := by simpa [upd] using h.symm
        subst this
        refine ⟨.inr rfl, by rw [hιn]; exact .inr rfl, by rw [hιn, hsz1]; show w.heap.size + 1 < _; omega, rec0, by rw [hιn]; exact hL1, rel.size, fun i => VRel.mono rel.h Tr1 _ _ (rel.t i), c2, rfl, rfl, rfl, rfl⟩
      · have h' : f j = some o := by simpa [upd, e'] using h
        obtain ⟨a1, a2, a3, a4⟩ := rel.h.obj j o h'
        refine ⟨.inl a1, by rw [hι1 j a1]; exact .inl a2, by rw [hι1 j a1, hsz1]; omega, ?_⟩
        rw [hι1 j a1, hold _ a3]
        exact a4.mono rel.h Tr1
    · have low : ∀ k p, f k = some p → G1.ι k < w.heap.size := fun k p hk => by rw [hι1 k (rel.h.obj k p hk).1]; exact (rel.h.obj k p hk).2.2.1
      by_cases e1 : i = n
      · by_cases e2 : j = n
        · rw [e1, e2]
        · have := low j o' (by simpa [upd, e2] using h2)
          rw [← h3, e1, hιn] at this
          omega
      · have hi : f i = some o := by simpa [upd, e1] using h1
        by_cases e2 : j = n
        · have := low i o hi
          rw [h3, e2, hιn] at this
          omega
        · have hj : f j = some o' := by simpa [upd, e2] using h2
          exact rel.h.inj i j o o' hi hj (by rw [← hι1 i (rel.h.obj i o hi).1, ← hι1 j (rel.h.obj j o' hj).1]; exact h3)
    · obtain ⟨b1, b2, b3⟩ := (rel.h.tok k hk).2 B e' he'
      refine ⟨b1, ?_, by rw [hsz1]; omega⟩
      rintro (h | h)
      · exact b2 h
      · omega
  have F1 : Fresh G1 ⟨upd f n (some (.loop N t ps asg body .ready none)), n + 1, T, m⟩ ⟨f2, n2, T2, m2⟩ := F.step Tr1
  have hargs : VRels G1 w1 (first ++ [.yld n] ++ caps) (vs ++ [Value.func (.yield (D + 1)) #[] #[]] ++ us) := by
    refine VRels.append (VRels.append (VRels.mono rel.h Tr1 _ _ hv1) ?_) (VRels.mono rel.h Tr1 _ _ hv2)
    simp only [VRels, VRel]
    exact ⟨_, [], rfl, ⟨.inr rfl, by rw [hιn]⟩, rfl⟩
  refine ⟨D + 1, [{ target := .collected D, args := #[] }], w1, { target := .fn (.func fi) us.toArray, args := vs.toArray ++ #[Value.func (.yield (D + 1)) #[] #[]] }, w1, fi, (vs ++ [Value.func (.yield (D + 1)) #[] #[]] ++ us).toArray, w1, ?_, ?_, fun _ _ => trivial, ?_, fun h => by simp [rd, Fence.wide] at h, callsIn_rd ?_⟩
  · exact run_enterLoop_outer fid a.tmps qs asg body
  · have he : ∀ v, a.eval (.const v) = v := fun _ => rfl
    simp [resolve, rangeCall, hz, Deferred.ofValue, he]
  · simp [invoke, run_callFunc w1 hf hfb hfn]
  · refine (hcall G1 w1 _ hargs R1 F1).mono ?_
    rintro e' w3 ⟨v, G3, rfl, T3, R3, V3⟩
    obtain ⟨b1, b2, b3, ⟨st3, pend3, fn3, tmps3, params3, asg3, body3, df3⟩, b4, b5, b6, b7, b8, b9, b10, b11⟩ := R3.obj n _ ho2
    simp only at b10 b11
    subst b11
    have hι3 : G3.ι n = D + 1 := (T3.ι_eq n (.inr rfl)).trans hιn
    rw [hι3] at b3 b4
    have hDO1 : ¬ H.O ⟨upd f n (some (.loop N t ps asg body .ready none)), n + 1, T, m⟩ G1 D := by
      rintro ⟨j, o, h1, h2⟩
      by_cases e' : j = n
      · subst e'; rw [hιn] at h2; omega
      · have h1' : f j = some o := by simpa [upd, e'] using h1
        have := (rel.h.obj j o h1').2.2.1
        rw [hι1 j (rel.h.obj j o h1').1] at h2
        omega
    have hDT1 : ¬ H.T ⟨upd f n (some (.loop N t ps asg body .ready none)), n + 1, T, m⟩ G1 D := by
      rintro ⟨k, hk, e', he'⟩
      have := ((rel.h.tok k hk).2 D e' he').2.2
      omega
    have hDlt : D < w1.heap.size := by rw [hsz1]; show w.heap.size < _; omega
    have hD3 : w3.heap[D]? = some (.deferred (some [])) := (T3.keep D hDlt hDO1 hDT1).trans hD1
    have hDO3 : ¬ H.O ⟨f2, n2, T2, m2⟩ G3 D := fun h => hDO1 (T3.O_new D hDlt h)
    have hDT3 : ¬ H.T ⟨f2, n2, T2, m2⟩ G3 D := fun h => hDT1 (T3.T_new D hDlt h)
    refine ⟨pend3, _, run_endLoop b4 (by simp only; rw [b10]; exact hst), ?_⟩
    let w4 := w3.putObj (D + 1) (.loop ⟨.exhausted, pend3, fn3, tmps3, params3, asg3, body3, df3⟩)
    have tu : Turned (D + 1) w3 w4 := ⟨by simp [w4], fun B hB => World.putObj_heap_other hB, fun c T fr e => absurd (b4.symm.trans e) (by simp), rfl, rfl⟩
    have hle3 : HLe ⟨f2, n2, T2, m2⟩ ⟨fun j => if j = n then none else f2 j, n2, T2, m2⟩ := by
      refine ⟨fun j o' hj => ?_, fun t h => h⟩
      simp only at hj
      split at hj
      · cases hj
      · exact ⟨o', hj, OSub.refl _⟩
    have T03 : Trans G w ⟨f, n, T, m⟩ G3 w3 ⟨fun j => if j = n then none else f2 j, n2, T2, m2⟩ := (Tr1.trans rel.h R1 T3).trans rel.h R3 (Trans.le hle3 (Nat.le_refl _) (Nat.le_refl _))
    have R03 := R3.le hle3
    have hLO : ¬ H.O ⟨fun j => if j = n then none else f2 j, n2, T2, m2⟩ G3 (D + 1) := by
      rintro ⟨j, o, h1, h2⟩
      simp only at h1
      split at h1
      · cases h1
      · rename_i hjn
        exact hjn (R3.inj j n o _ h1 ho2 (by rw [h2, hι3]))
    have T04 := T03.turn tu (by show w.heap.size ≤ w.heap.size + 1; omega)
    have R04 := R03.turn tu hLO
    have hD4 : w4.heap[D]? = some (.deferred (some [])) := by rw [tu.same D (by omega)]; exact hD3
    have relEnd : Rel N ⟨t, ⟨fun j => if j = n then none else f2 j, n2, T2, m2⟩⟩ G3 w4 { a with defers := [({ target := .collected D, args := #[] } : Deferred)] ++ a.defers } := by
      refine ⟨rel.size, fun i => VRel.turn tu _ _ (VRel.mono rel.h T03 _ _ (rel.t i)), R04, ?_, ?_⟩
      · show ([({ target := .collected D, args := #[] } : Deferred)] ++ a.defers).Nodup
        rw [List.singleton_append, List.nodup_cons]
        refine ⟨fun hm => ?_, rel.df.1⟩
        obtain ⟨D', e', h1, -⟩ := rel.df.2 _ hm
        simp only [Deferred.mk.injEq, Target.collected.injEq, and_true] at e'
        have := heap_lt h1
        rw [← e'] at this
        exact absurd this (Nat.lt_irrefl _)
      · intro d hd
        rcases List.mem_append.1 hd with hd | hd
        · rw [List.mem_singleton.1 hd]
          exact ⟨D, rfl, hD4, fun ⟨j, o, h1, h2⟩ => by
            simp only at h1
            split at h1
            · cases h1
            · exact hDO3 ⟨j, o, h1, h2⟩, hDT3⟩
        · exact (rel.df.mono T04).2 d hd
    have hnew : NewM w a.defers ([({ target := .collected D, args := #[] } : Deferred)] ++ a.defers) := by
      intro d hd
      rcases List.mem_append.1 hd with hd | hd
      · rw [List.mem_singleton.1 hd]; exact .inr ⟨D, Nat.le_refl _, rfl⟩
      · exact .inl hd
    cases hle with
    | none => exact ⟨trivial, hnew, G3, T04, relEnd⟩
    | ret => exact wpIn_ret ⟨trivial, hnew, G3, T04, relEnd⟩
    | exit i => exact wpIn_exit ⟨rfl, hnew, G3, T04, relEnd⟩
    | goto l => exact wpIn_goto ⟨rfl, hnew, G3, T04, relEnd⟩
end
end Go.Av
end
section
set_option linter.unusedVariables false
set_option linter.unusedSimpArgs false
namespace Go.Av
section
variable {P : Program} {N : Nat} {o : Oper} {t : Tm} {h : H} {en : Ent}
theorem appzT_loc {c : Call} {zs zx : Operand} {ys yx : Opd} {T U e : TypeId} {i : TypeInfo} {z : Value} {b : AV} {s : Nat} {n : Int} (hop : o.op = .call c) (hc : c.callee = .builtin .append) (ha : c.args.toList = [zs, zx]) (hta : c.argTypes.toList = [T, U])
    (hT : P.underlying T = some (.slice e)) (hU : P.underlying U = some (.int .i64)) (hi : P.info? e = some i) (hz : i.zero = some z) (hzs : z.cells.size = i.size) (hb0 : constAV P e z = some b) (hsz : 0 < i.size)
    (hys : opd P T zs = some ys) (hyx : opd P U zx = some yx) (hs : ev t ys = .sl s [] (.exact 0)) (hx : ev t yx = .int .i64 n) (h0 : 0 < n) (hsh : shaped b = true)
    (hb : n.toNat * i.bytes ≤ 140737488355328) (hlen : n.toNat < 4611686018427387904) :
    Loc P o t h (.tsl i.size h.n 0 n.toNat none) { h with objs := upd h.objs h.n (some (.cells ((List.replicate n.toNat b).flatMap cellsOf))), n := h.n + 1 } ⟨[], [h.n], []⟩ := by
  have ha' : c.args = #[zs, zx] := by rw [← Array.toArray_toList (xs := c.args), ha]
  have hta' : c.argTypes = #[T, U] := by rw [← Array.toArray_toList (xs := c.argTypes), hta]
  refine ⟨_, _, touch_new h _, fun G w a ht R F => ?_⟩
  have r1 := opd_rel hys ht
  have r2 := opd_rel hyx ht
  rw [hs] at r1
  rw [hx] at r2
  simp only [VRel] at r2
  have hbase : ∃ a0, a.eval zs = .slice a0 0 0 := by
    simp only [VRel, CapOk] at r1
    rcases r1 with ⟨-, h, -⟩ | ⟨B, off, C, vs, q1, -, -, -, -, q6⟩
    · exact h
    · subst q6; exact ⟨_, by simpa using q1⟩
  obtain ⟨a0, ha0⟩ := hbase
  have rb := const_rel (G := G) (w := w) hb0
  obtain ⟨sc1, sc2⟩ := shaped_cells rb hsh
  have hel : ∀ k : Nat, VElems G w i.size (List.replicate k b) (List.replicate k z.cells.toList).flatten := by
    intro k
    induction k with
    | zero => simp [VElems]
    | succ k ih =>
      simp only [List.replicate_succ, List.flatten_cons, VElems]
      exact ⟨z, _, rfl, hzs, rb, ih⟩
  have hone : ∀ u ∈ (List.replicate n.toNat z.cells.toList).flatten, One u := by
    intro u hu
    obtain ⟨x, hx, hu'⟩ := List.mem_flatten.1 hu
    rw [(List.mem_replicate.1 hx).2] at hu'
    exact cells_one sc1 sc2 u hu'
  have hnn : (n.toNat : Int) = n := Int.toNat_of_nonneg (by omega)
  have hzf := zeroCells_flat hzs hsz n.toNat
  obtain ⟨w', C, rest, e1, e2, e3, e4⟩ := run_appendz_grows (ty := o.type) (n := n.toNat) hT hU hi hz hzs hsz (src_none (P := P) (w := w) a0) (by omega) (Nat.le_refl _) (by simpa using hb) (by simpa using hlen)
  rw [List.nil_append, hzf] at e2
  simp only [Nat.zero_add] at e1 e3 e4
  have hnl := (hel n.toNat).length
  obtain ⟨G', T1, R1, V⟩ := new_tsl (m := h.m) (sz := i.size) e2 (rels_of_elems (hel n.toNat) (by simp [hsh])) hone (fresh_n F (by simp [H.only])) e3 (by rw [hnl, e4, List.length_replicate]; exact Nat.le_refl _)
  refine ⟨.value _, _, w', G', ?_, .inl rfl, T1, R1, V⟩
  rw [hnn] at e1
  simp [execOp, hop, resolve, hc, ha', hta', invoke, builtin, ha0, r2, e1]
def aopZ (ρ : Opd → AV) (h : H) : AOp → Option (AV × H × Ent)
  | .appz bytes zero sz s x => match ρ s, ρ x with
    | .sl _ [] (.exact 0), .int .i64 n => if 0 < n ∧ n.toNat * bytes ≤ 140737488355328 ∧ n.toNat < 4611686018427387904 ∧ shaped zero = true then
        some (.tsl sz h.n 0 n.toNat none, { h with objs := upd h.objs h.n (some (.cells ((List.replicate n.toNat zero).flatMap cellsOf))), n := h.n + 1 }, ⟨[], [h.n], []⟩) else none
    | _, _ => none
  | _ => none
theorem cOp_appz {sz bytes : Nat} {b : AV} {ys yx : Opd} (h : cOp P o = some (.appz bytes b sz ys yx)) : ∃ c zs zx T U e i z, o.op = .call c ∧ c.callee = .builtin .append ∧ c.args.toList = [zs, zx] ∧ c.argTypes.toList = [T, U] ∧
    opd P T zs = some ys ∧ opd P U zx = some yx ∧ P.underlying T = some (.slice e) ∧ P.underlying U = some (.int .i64) ∧ P.info? e = some i ∧ 0 < i.size ∧ i.zero = some z ∧ z.cells.size = i.size ∧ constAV P e z = some b ∧ i.size = sz ∧ i.bytes = bytes := by
  unfold cOp at h
  split at h
  case h_28 c hop =>
    split at h
    case h_7 hcal =>
      split at h
      · rename_i zs zx T U ha hta
        split at h
        · (repeat' split at h) <;> (try cases h) <;> simp at h
        · (repeat' split at h) <;> (try cases h) <;> simp at h
        · split at h
          · rename_i i hi
            split at h
            · rename_i b' hb'
              split at h
              · rename_i hq
                cases h
                cases hz : i.zero with
                | none => rw [hz] at hb'; simp at hb'
                | some z =>
                  rw [hz] at hb' hq
                  exact ⟨c, zs, zx, T, U, _, i, z, hop, hcal, ha, hta, ‹_›, ‹_›, ‹_›, ‹_›, hi, hq.1, hz, by simpa using hq.2, by simpa using hb', rfl, rfl⟩
              · cases h
            · cases h
          · cases h
        · cases h
      · cases h
    all_goals first
      | (cases h; done)
      | ((repeat' split at h) <;> (try cases h) <;> simp at h)
  all_goals first
    | (cases h; done)
    | (simp at h; done)
    | ((repeat' split at h) <;> (try cases h) <;> (try simp at h) ; done)
    | skip
theorem aopZ_loc {op : AOp} {x : AV} {h' : H} (hc : cOp P o = some op) (hx : aopZ (ev t) h op = some (x, h', en)) : Loc P o t h x h' en := by
  cases op <;> (try (simp [aopZ] at hx; done))
  case appz bytes b sz s x0 =>
    obtain ⟨c, zs, zx, T, U, e, i, z, hop, hcal, ha, hta, hys, hyx, hT, hU, hi, hs1, hz1, hz2, hz3, rfl, rfl⟩ := cOp_appz hc
    simp only [aopZ] at hx
    split at hx
    · split at hx
      · rename_i hq
        cases hx
        exact appzT_loc hop hcal ha hta hT hU hi hz1 hz2 hz3 hs1 hys hyx ‹_› ‹_› hq.1 hq.2.2.2 hq.2.1 hq.2.2.1
      · cases hx
    · cases hx
theorem aopZ_congr {ρ ρ' : Opd → AV} {op : AOp} (hx : ∀ y ∈ opdsOf op, ρ y = ρ' y) : aopZ ρ h op = aopZ ρ' h op := by
  cases op <;> (try rfl)
  case appz bytes b sz s x0 => simp only [aopZ, hx s (by simp [opdsOf]), hx x0 (by simp [opdsOf])]
theorem itrun_opZ {ops : Array Oper} {i : Nat} {o : Oper} {it : AItem} {t : Tm} {h h' : H} {x : AV} {en : Ent} (ho : ops[i]? = some o) (hit : cItem P N ops o = some it) (hg : guardOf t it.guard = some true) (hx : aopZ (ev t) h it.op = some (x, h', en)) :
    ∃ h1 h1', Touch h h1 h1' h' en ∧ ItRun P ops i o t h1 x h1' := by
  unfold cItem at hit
  split at hit
  · rename_i op g hop hgd
    split at hit <;> cases hit
    rename_i hcond
    simp only [Bool.and_eq_true] at hcond
    have hop := cOpD_of hop (by rintro rfl; simp [aopZ] at hx)
    have hx' : aopZ (ev (cutTo (names ops o) t)) h op = some (x, h', en) := by
      rw [aopZ_congr (cut_ev hcond.2)]; exact hx
    obtain ⟨h1, h1', tc, loc⟩ := aopZ_loc hop hx'
    refine ⟨h1, h1', tc, fun G w a ht R F K Q hK ro => ?_⟩
    obtain ⟨nx, v, w', G', e1, e2, T1, R1, V⟩ := loc G w a (cut_rel ht) R F
    unfold wpOpIn
    rw [ho]
    simp only [guard_wanted hgd ht hg, if_true]
    refine ⟨fun _ _ => trivial, ?_⟩
    rw [Oper.semAt_eq _ _ _ (cOp_plain hop), e1]
    rcases e2 with rfl | ⟨rfl, rfl⟩
    · rw [Oper.uponIn_value]; exact hK G' w' v T1 R1 V
    · rw [Oper.uponIn_skip]; exact hK G' w' undef T1 R1 V
  · cases hit
theorem WpItemsN.opZ {dst : Option Nat} {g : Option (Nat × Bool)} {op : AOp} {its : List AItem} {t : Tm} {h h' : H} {en : Ent} {K : Tm → H → Prop} {x : AV} (hg : guardOf t g = some true) (hx : aopZ (ev t) h op = some (x, h', en))
    (rest : WpItemsN P N its (putT t dst x) h' K) : WpItemsN P N (⟨dst, g, op⟩ :: its) t h K :=
  WpItemsN.step (it := ⟨dst, g, op⟩) (fun ops i o ho hit => itrun_opZ ho hit hg hx) rest
theorem ACalls.thaw {f : FuncId} {args : List AV} {n m n' sz id off : Nat} {cs : List AV} (hid : n ≤ id ∧ id < n') (hc : ACalls P f args (H0 n m) (.tsl sz id off 0 none) (.only (upd none' id (some (.cells cs))) [] n' m)) :
    ACalls P f args (H0 n m) (.sl sz [] (.own m)) (.only none' [m] n' (m + 1)) := by
  intro G w vs hv R F
  have F0 : Fresh G (H0 n m) (.only (upd none' id (some (.cells cs))) [] n' m) := ⟨F.1, fun t h1 h2 => F.2 t h1 (Nat.lt_succ_of_lt h2)⟩
  refine (hc G w vs hv R F0).mono ?_
  rintro e w' ⟨v, G', rfl, T, R', V⟩
  have ho : (H.only (upd none' id (some (.cells cs))) [] n' m).objs id = some (.cells cs) := by simp [H.only, upd]
  obtain ⟨q1, q2, q3, ws, rest, T0, fr, y1, y2, y3, y4⟩ := R'.obj id _ ho
  have hnew : w.heap.size ≤ G'.ι id := by
    rcases Nat.lt_or_ge (G'.ι id) w.heap.size with hb | hb
    · exact absurd (T.O_new _ hb ⟨id, _, ho, rfl⟩) (only_O _)
    · exact hb
  have hmt : ¬ G'.tdom m := by
    intro h
    rcases T.tdom_new m h with h | ⟨h1, h2⟩
    · exact F.2 m (Nat.le_refl _) (Nat.lt_succ_self _) h
    · exact Nat.lt_irrefl _ h2
  let G2 : Ghost := { G' with tdom := fun x => G'.tdom x ∨ x = m, τ := upd G'.τ m (some (G'.ι id, off)), own := fun B => G'.own B ∧ B ≠ G'.ι id, lim := fun B => if B = G'.ι id then some off else G'.lim B }
  have hτm : G2.τ m = some (G'.ι id, off) := by simp [G2, upd]
  have hτo : ∀ x, G'.tdom x → G2.τ x = G'.τ x := fun x hx => by
    simp only [G2, upd]; rw [if_neg]; rintro rfl; exact hmt hx
  refine ⟨v, G2, rfl, ?_, ?_, ?_⟩
  · constructor
    · exact T.dom_le
    · exact T.dom_new
    · exact T.ι_eq
    · exact fun x h => .inl (T.tdom_le x h)
    · rintro x (h | rfl)
      · rcases T.tdom_new x h with h | ⟨h1, h2⟩
        · exact .inl h
        · exact .inr ⟨h1, Nat.lt_succ_of_lt h2⟩
      · exact .inr ⟨Nat.le_refl _, Nat.lt_succ_self _⟩
    · exact fun x h => (hτo x (T.tdom_le x h)).trans (T.τ_eq x h)
    · exact T.n_le
    · exact Nat.le_succ_of_le T.m_le
    · exact T.size_le
    · exact T.os
    · exact T.output
    · exact T.form
    · exact fun B hB h1 h2 => T.keep B hB h1 h2
    · intro B hB h1
      have := T.own_keep B hB h1
      exact ⟨fun h => this.1 h.1, fun h => ⟨this.2 h, by omega⟩⟩
    · intro B hB h1 h2
      show (if B = G'.ι id then some off else G'.lim B) = _
      rw [if_neg (by omega)]; exact T.lim_keep B hB h1 h2
    · exact fun B hB h => absurd h (only_T0 B)
    · exact fun B _ h => absurd h (only_O B)
    · rintro B hB ⟨x, hx, e', he'⟩
      simp only [H.only, List.mem_singleton] at hx
      subst hx
      rw [hτm] at he'
      cases he'
      exact absurd hB (by omega)
    · exact fun j o h => by simp [H.only, none'] at h
    · intro x hx
      simp only [H.only, List.mem_singleton] at hx
      subst hx
      exact .inr ⟨Nat.le_refl _, Nat.lt_succ_self _⟩
  · refine ⟨fun j o h => by simp [H.only, none'] at h, fun j _ o _ h => by simp [H.only, none'] at h, fun x hx => ?_, fun x hx x' hx' B e e' h1 h2 => ?_⟩
    · simp only [H.only, List.mem_singleton] at hx
      subst hx
      refine ⟨.inr rfl, fun B e he => ?_⟩
      rw [hτm] at he
      cases he
      exact ⟨by simp [G2], fun h => h.2 rfl, q3⟩
    · simp only [H.only, List.mem_singleton] at hx hx'
      rw [hx, hx']
  · simp only [VRel] at V ⊢
    obtain ⟨-, ⟨C, c, T1, fr1, v1, v2, -, v3, v4⟩ | ⟨-, ⟨a, v1⟩, -⟩⟩ := V
    · refine .inr ⟨G'.ι id, off, C, [], by simpa using v1, by simp, by simp, by simp [VElems], Imm.nil, ?_⟩
      refine .inr ⟨.inr rfl, by rw [hτm]; simp, c, T1, fr1, v3, v4, ?_⟩
      rw [y1] at v3
      simp only [Option.some.injEq, Go.Obj.cells.injEq] at v3
      obtain ⟨-, -, rfl⟩ := v3
      exact fun j _ => y3 j
    · exact .inl ⟨by simp, ⟨_, v1⟩, by simp [CapNil]⟩
end
end Go.Av
end
section
set_option linter.unusedSimpArgs false
set_option linter.unusedVariables false
set_option maxRecDepth 10000
namespace Go.Proofs.Ytpehfflehebmbaa.Space
open Go Go.Av Go.Proofs Go.Proofs.Ytpehfflehebmbaa.C Go.Proofs.Ytpehfflehebmbaa.Batch
abbrev Bs := List UInt8
structure Ver where
  t : Int
  v : Bs
  d : Bool
  deriving DecidableEq
instance : Inhabited Ver := ⟨⟨0, [], false⟩⟩
def encV (x : Ver) : AV := .agg [.int .i64 x.t, .str x.v, .bool x.d]
theorem encV_pure (x : Ver) : isPure (encV x) = true := rfl
theorem vers_pure (l : List Ver) : allPure (l.map encV) = true := Av.allPure_map encV_pure l
def okV (x : Ver) : Bool := decide (1 ≤ x.t) && decide (x.t ≤ 1152921504606846976) && decide ((x.v.length : Int) ≤ 200) && (!x.d || decide (x.v = []))
theorem right_p (x : Ver) : PCalls Try.prog 102 [encV x] (.bool (okV x)) := by
  refine f102.pcalls0 (by simp) (by simp [allPure, encV_pure]) rfl ?_
  unfold c102
  repeat' (first
    | (refine WpItems.nil ⟨?_, ?_⟩; (· first | trivial | simp [pairsQ, pairsOk, apart, ent0]))
    | (apply WpItems.evU; (· simp only [go_sem, reduceIte, Nat.reduceEqDiff, Nat.reduceAdd, bx, ax, if_true, if_false, Nat.reduceMul, Nat.reduceLeDiff, encV, List.length_map]; exact rfl); (· simp only [go_sem, reduceIte, Nat.reduceEqDiff, Nat.reduceAdd, bx, ax, if_true, if_false, Nat.reduceMul, Nat.reduceLeDiff, encV, List.length_map]; exact rfl))
    | (apply WpItems.part 1; (· simp only [go_sem, reduceIte, Nat.reduceEqDiff, Nat.reduceAdd, bx, ax, if_true, if_false, Nat.reduceMul, Nat.reduceLeDiff, encV, List.length_map]; exact rfl); (try simp only [List.drop_succ_cons, List.drop_zero, List.drop_nil]))
    | (refine WpItems.gsplit_dec (p := ?_) ?_ (fun hc => ?_) (fun hc => ?_); rotate_left; (· simp only [go_sem, reduceIte, Nat.reduceEqDiff, Nat.reduceAdd, bx, ax, if_true, if_false, Nat.reduceMul, Nat.reduceLeDiff, encV, List.length_map]; exact rfl))
    | (refine WpItems.gsplit_ndec (p := ?_) ?_ (fun hc => ?_) (fun hc => ?_); rotate_left; (· simp only [go_sem, reduceIte, Nat.reduceEqDiff, Nat.reduceAdd, bx, ax, if_true, if_false, Nat.reduceMul, Nat.reduceLeDiff, encV, List.length_map]; exact rfl))
    | (refine WpItems.gsplit (b := ?_) ?_ (fun hc => ?_) (fun hc => ?_); rotate_left; (· simp only [go_sem, reduceIte, Nat.reduceEqDiff, Nat.reduceAdd, bx, ax, if_true, if_false, Nat.reduceMul, Nat.reduceLeDiff, encV, List.length_map]; exact rfl))
    | refine Wp.seqRegS ?_
    | refine Wp.regS ?_
    | (refine Wp.cond_true ?_ ?_; (· simp only [go_sem, reduceIte, Nat.reduceEqDiff, Nat.reduceAdd, bx, ax, if_true, if_false, Nat.reduceMul, Nat.reduceLeDiff, encV, List.length_map]))
    | (refine Wp.cond_false ?_ ?_; (· simp only [go_sem, reduceIte, Nat.reduceEqDiff, Nat.reduceAdd, bx, ax, if_true, if_false, Nat.reduceMul, Nat.reduceLeDiff, encV, List.length_map]))
    | (refine Wp.cond_dec (p := ?_) ?_ (fun hc => ?_) (fun hc => ?_); rotate_left; (· simp only [go_sem, reduceIte, Nat.reduceEqDiff, Nat.reduceAdd, bx, ax, if_true, if_false, Nat.reduceMul, Nat.reduceLeDiff, encV, List.length_map]; exact rfl))
    | (refine Wp.cond_ndec (p := ?_) ?_ (fun hc => ?_) (fun hc => ?_); rotate_left; (· simp only [go_sem, reduceIte, Nat.reduceEqDiff, Nat.reduceAdd, bx, ax, if_true, if_false, Nat.reduceMul, Nat.reduceLeDiff, encV, List.length_map]; exact rfl))
    | (refine Wp.cond_split (b := ?_) ?_ (fun hc => ?_) (fun hc => ?_); rotate_left; (· simp only [go_sem, reduceIte, Nat.reduceEqDiff, Nat.reduceAdd, bx, ax, if_true, if_false, Nat.reduceMul, Nat.reduceLeDiff, encV, List.length_map]; exact rfl))
    | refine Wp.skip ?_
    | refine Wp.label ?_
    | refine Wp.block ?_
    | refine Wp.exit ?_
    | refine Wp.seq ?_)
  all_goals
    refine Wp.ret ⟨trivial, _, rfl, ?_⟩
    simp only [go_sem, reduceIte, Nat.reduceEqDiff, Nat.reduceAdd, bx]
    refine VSub.of_eq ?_
    first | (simp_all [okV]; done) | (simp_all [okV]; intros; exfalso; omega)
theorem rightR_p (x : Ver) : PCalls Try.prog 108 [encV x] (.bool (okV x)) := by
  refine f108.pcalls0 (by simp) (by simp [allPure, encV_pure]) rfl ?_
  unfold c108
  repeat' (first
    | (refine WpItems.nil ⟨?_, ?_⟩; (· first | trivial | simp [pairsQ, pairsOk, apart, ent0]))
    | (apply WpItems.evU; (· simp only [go_sem, reduceIte, Nat.reduceEqDiff, Nat.reduceAdd, bx, ax, if_true, if_false, Nat.reduceMul, Nat.reduceLeDiff, encV, List.length_map]; exact rfl); (· simp only [go_sem, reduceIte, Nat.reduceEqDiff, Nat.reduceAdd, bx, ax, if_true, if_false, Nat.reduceMul, Nat.reduceLeDiff, encV, List.length_map]; exact rfl))
    | (apply WpItems.part 1; (· simp only [go_sem, reduceIte, Nat.reduceEqDiff, Nat.reduceAdd, bx, ax, if_true, if_false, Nat.reduceMul, Nat.reduceLeDiff, encV, List.length_map]; exact rfl); (try simp only [List.drop_succ_cons, List.drop_zero, List.drop_nil]))
    | (refine WpItems.gsplit_dec (p := ?_) ?_ (fun hc => ?_) (fun hc => ?_); rotate_left; (· simp only [go_sem, reduceIte, Nat.reduceEqDiff, Nat.reduceAdd, bx, ax, if_true, if_false, Nat.reduceMul, Nat.reduceLeDiff, encV, List.length_map]; exact rfl))
    | (refine WpItems.gsplit_ndec (p := ?_) ?_ (fun hc => ?_) (fun hc => ?_); rotate_left; (· simp only [go_sem, reduceIte, Nat.reduceEqDiff, Nat.reduceAdd, bx, ax, if_true, if_false, Nat.reduceMul, Nat.reduceLeDiff, encV, List.length_map]; exact rfl))
    | (refine WpItems.gsplit (b := ?_) ?_ (fun hc => ?_) (fun hc => ?_); rotate_left; (· simp only [go_sem, reduceIte, Nat.reduceEqDiff, Nat.reduceAdd, bx, ax, if_true, if_false, Nat.reduceMul, Nat.reduceLeDiff, encV, List.length_map]; exact rfl))
    | refine Wp.seqRegS ?_
    | refine Wp.regS ?_
    | (refine Wp.cond_true ?_ ?_; (· simp only [go_sem, reduceIte, Nat.reduceEqDiff, Nat.reduceAdd, bx, ax, if_true, if_false, Nat.reduceMul, Nat.reduceLeDiff, encV, List.length_map]))
    | (refine Wp.cond_false ?_ ?_; (· simp only [go_sem, reduceIte, Nat.reduceEqDiff, Nat.reduceAdd, bx, ax, if_true, if_false, Nat.reduceMul, Nat.reduceLeDiff, encV, List.length_map]))
    | (refine Wp.cond_dec (p := ?_) ?_ (fun hc => ?_) (fun hc => ?_); rotate_left; (· simp only [go_sem, reduceIte, Nat.reduceEqDiff, Nat.reduceAdd, bx, ax, if_true, if_false, Nat.reduceMul, Nat.reduceLeDiff, encV, List.length_map]; exact rfl))
    | (refine Wp.cond_ndec (p := ?_) ?_ (fun hc => ?_) (fun hc => ?_); rotate_left; (· simp only [go_sem, reduceIte, Nat.reduceEqDiff, Nat.reduceAdd, bx, ax, if_true, if_false, Nat.reduceMul, Nat.reduceLeDiff, encV, List.length_map]; exact rfl))
    | (refine Wp.cond_split (b := ?_) ?_ (fun hc => ?_) (fun hc => ?_); rotate_left; (· simp only [go_sem, reduceIte, Nat.reduceEqDiff, Nat.reduceAdd, bx, ax, if_true, if_false, Nat.reduceMul, Nat.reduceLeDiff, encV, List.length_map]; exact rfl))
    | refine Wp.skip ?_
    | refine Wp.label ?_
    | refine Wp.block ?_
    | refine Wp.exit ?_
    | refine Wp.seq ?_)
  all_goals
    refine Wp.ret ⟨trivial, _, rfl, ?_⟩
    simp only [go_sem, reduceIte, Nat.reduceEqDiff, Nat.reduceAdd, bx]
    refine VSub.of_eq ?_
    first | (simp_all [okV]; done) | (simp_all [okV]; intros; exfalso; omega)
def vOk (l : List Ver) (i : Nat) : Bool := okV (l.getD i default) && (decide (i = 0) || decide ((l.getD i default).t < (l.getD (i - 1) default).t))
def chB (l : List Ver) : Bool := (List.range l.length).all (vOk l)
theorem vOk_zero {l : List Ver} {j : Nat} (h : j = 0) : vOk l j = okV (l.getD j default) := by simp [vOk, h]
theorem vOk_pos {l : List Ver} {j : Nat} (h : j ≠ 0) : vOk l j = (okV (l.getD j default) && decide ((l.getD j default).t < (l.getD (j - 1) default).t)) := by simp [vOk, h]
set_option maxHeartbeats 1000000 in
theorem check_p (l : List Ver) (hl : l.length ≤ 1152921504606846976) : PCalls Try.prog 101 [.sl 3 (l.map encV) .any] (.int .i64 (if chB l then 0 else 4)) := by
  refine f101.pcalls0 (by simp) (by simp [allPure, isPure, capPure, vers_pure]) rfl ?_
  unfold c101
  repeat' (first
    | (refine WpItems.nil ⟨?_, ?_⟩; (· first | trivial | simp [pairsQ, pairsOk, apart, ent0]))
    | (apply WpItems.evU; (· simp only [go_sem, reduceIte, Nat.reduceEqDiff, Nat.reduceAdd, bx, ax, if_true, if_false, Nat.reduceMul, Nat.reduceLeDiff, List.length_map]; exact rfl); (· simp only [go_sem, reduceIte, Nat.reduceEqDiff, Nat.reduceAdd, bx, ax, if_true, if_false, Nat.reduceMul, Nat.reduceLeDiff, List.length_map]; exact rfl))
    | (apply WpItems.part 1; (· simp only [go_sem, reduceIte, Nat.reduceEqDiff, Nat.reduceAdd, bx, ax, if_true, if_false, Nat.reduceMul, Nat.reduceLeDiff, List.length_map]; exact rfl); (try simp only [List.drop_succ_cons, List.drop_zero, List.drop_nil]))
    | (refine WpItems.gsplit_dec (p := ?_) ?_ (fun hc => ?_) (fun hc => ?_); rotate_left; (· simp only [go_sem, reduceIte, Nat.reduceEqDiff, Nat.reduceAdd, bx, ax, if_true, if_false, Nat.reduceMul, Nat.reduceLeDiff, List.length_map]; exact rfl))
    | (refine WpItems.gsplit_ndec (p := ?_) ?_ (fun hc => ?_) (fun hc => ?_); rotate_left; (· simp only [go_sem, reduceIte, Nat.reduceEqDiff, Nat.reduceAdd, bx, ax, if_true, if_false, Nat.reduceMul, Nat.reduceLeDiff, List.length_map]; exact rfl))
    | (refine WpItems.gsplit (b := ?_) ?_ (fun hc => ?_) (fun hc => ?_); rotate_left; (· simp only [go_sem, reduceIte, Nat.reduceEqDiff, Nat.reduceAdd, bx, ax, if_true, if_false, Nat.reduceMul, Nat.reduceLeDiff, List.length_map]; exact rfl))
    | refine Wp.seqRegS ?_
    | refine Wp.regS ?_
    | (refine Wp.cond_true ?_ ?_; (· simp only [go_sem, reduceIte, Nat.reduceEqDiff, Nat.reduceAdd, bx, ax, if_true, if_false, Nat.reduceMul, Nat.reduceLeDiff, List.length_map]))
    | (refine Wp.cond_false ?_ ?_; (· simp only [go_sem, reduceIte, Nat.reduceEqDiff, Nat.reduceAdd, bx, ax, if_true, if_false, Nat.reduceMul, Nat.reduceLeDiff, List.length_map]))
    | (refine Wp.cond_dec (p := ?_) ?_ (fun hc => ?_) (fun hc => ?_); rotate_left; (· simp only [go_sem, reduceIte, Nat.reduceEqDiff, Nat.reduceAdd, bx, ax, if_true, if_false, Nat.reduceMul, Nat.reduceLeDiff, List.length_map]; exact rfl))
    | (refine Wp.cond_ndec (p := ?_) ?_ (fun hc => ?_) (fun hc => ?_); rotate_left; (· simp only [go_sem, reduceIte, Nat.reduceEqDiff, Nat.reduceAdd, bx, ax, if_true, if_false, Nat.reduceMul, Nat.reduceLeDiff, List.length_map]; exact rfl))
    | (refine Wp.cond_split (b := ?_) ?_ (fun hc => ?_) (fun hc => ?_); rotate_left; (· simp only [go_sem, reduceIte, Nat.reduceEqDiff, Nat.reduceAdd, bx, ax, if_true, if_false, Nat.reduceMul, Nat.reduceLeDiff, List.length_map]; exact rfl))
    | refine Wp.skip ?_
    | refine Wp.label ?_
    | refine Wp.block ?_
    | refine Wp.exit ?_
    | refine Wp.seq ?_)
  refine Wp.loopN [0, 5, 6] (by simp only [go_sem, reduceIte, Nat.reduceEqDiff, List.map, List.length_map]; exact rfl) (fun j : Nat => [(7, .int .i64 j)]) (fun j => j ≤ l.length ∧ ∀ i, i < j → vOk l i = true) (fun j => l.length - j) 0 ⟨Nat.zero_le _, fun i h => absurd h (by omega)⟩ ?_ ?_
  · simp only [AllSub, go_sem, reduceIte, Nat.reduceEqDiff, Nat.reduceAdd, bx]; and_intros <;> first | exact trivial | exact VSub.refl _ | exact VSub.any _ | (refine VSub.int ?_; omega)
  rintro j n hn ⟨hj, hs⟩
  by_cases hc : j < l.length
  · have g1 : decide (((j : Nat) : Int) < ((l.length : Nat) : Int)) = true := decide_eq_true (by omega)
    have h2 : (0 : Int) ≤ ((j : Nat) : Int) := by omega
    have h3 : ((j : Nat) : Int) < ((l.length : Nat) : Int) := by omega
    have e1 : IntKind.i64.wrap (((j : Nat) : Int) + 1) = ((j + 1 : Nat) : Int) := by rw [IntWalk.i64_in _ (by omega)]; omega
    have hat := enc_at encV l j .any hc
    by_cases hz : j = 0
    · have g2 : decide ((0 : Int) < (j : Int)) = false := decide_eq_false (by omega)
      cases hr : okV (l.getD j default)
      · repeat (first
          | ((first | apply Wp.seqItems | apply Wp.items | ((first
              | (refine WpItems.pcall ?_ ?_ (right_p (l.getD j default)) ?_; (· simp only [go_sem, reduceIte, Nat.reduceEqDiff, Nat.reduceAdd, bx]); (· simp only [go_sem, reduceIte, Nat.reduceEqDiff, Nat.reduceAdd, bx, List.map]; first | exact VSubs.refl _ | (repeat (first | exact VSubs.nil | refine VSubs.cons (by first | exact VSub.refl _ | assumption | exact VSub.cap | exact VSub.any _) ?_))))); apply WpItems.eval)); (· simp only [go_sem, reduceIte, Nat.reduceEqDiff, Nat.reduceAdd, bx, ax, if_true, if_false, Nat.reduceMul, Nat.reduceLeDiff, g1, g2, h2, h3, e1, Int.toNat_natCast, List.length_map, hat, encV, hr]; exact rfl))
          | (refine WpItems.nil ⟨?_, ?_⟩; (· first | trivial | simp [pairsQ, pairsOk, apart, ent0]))
          | (apply Wp.cond_lit; (· simp only [go_sem, reduceIte, Nat.reduceEqDiff, Nat.reduceAdd, bx, ax, if_true, if_false, Nat.reduceMul, Nat.reduceLeDiff, g1, g2, h2, h3, e1, Int.toNat_natCast, List.length_map, hat, encV, hr]; exact rfl); (· rfl))
          | refine Wp.skip ?_
          | refine Wp.label ?_
          | refine Wp.block ?_
          | refine Wp.exit ?_
          | refine Wp.seq ?_)
        refine Wp.ret ⟨trivial, _, rfl, ?_⟩
        simp only [go_sem, reduceIte, Nat.reduceEqDiff, Nat.reduceAdd, bx]
        rw [chB, all_no hc ((vOk_zero hz).trans hr)]; exact VSub.refl _
      · repeat (first
          | ((first | apply Wp.seqItems | apply Wp.items | ((first
              | (refine WpItems.pcall ?_ ?_ (right_p (l.getD j default)) ?_; (· simp only [go_sem, reduceIte, Nat.reduceEqDiff, Nat.reduceAdd, bx]); (· simp only [go_sem, reduceIte, Nat.reduceEqDiff, Nat.reduceAdd, bx, List.map]; first | exact VSubs.refl _ | (repeat (first | exact VSubs.nil | refine VSubs.cons (by first | exact VSub.refl _ | assumption | exact VSub.cap | exact VSub.any _) ?_))))); apply WpItems.eval)); (· simp only [go_sem, reduceIte, Nat.reduceEqDiff, Nat.reduceAdd, bx, ax, if_true, if_false, Nat.reduceMul, Nat.reduceLeDiff, g1, g2, h2, h3, e1, Int.toNat_natCast, List.length_map, hat, encV, hr]; exact rfl))
          | (refine WpItems.nil ⟨?_, ?_⟩; (· first | trivial | simp [pairsQ, pairsOk, apart, ent0]))
          | (apply Wp.cond_lit; (· simp only [go_sem, reduceIte, Nat.reduceEqDiff, Nat.reduceAdd, bx, ax, if_true, if_false, Nat.reduceMul, Nat.reduceLeDiff, g1, g2, h2, h3, e1, Int.toNat_natCast, List.length_map, hat, encV, hr]; exact rfl); (· rfl))
          | refine Wp.skip ?_
          | refine Wp.label ?_
          | refine Wp.block ?_
          | refine Wp.exit ?_
          | refine Wp.seq ?_)
        refine ⟨j + 1, n + 1, by omega, ⟨by omega, all_step hs ((vOk_zero hz).trans hr)⟩, by omega, ?_⟩
        refine StLe.tmN (by omega) (OLe.none _) (by simp only [AllSub, go_sem, reduceIte, Nat.reduceEqDiff, Nat.reduceAdd, bx]; and_intros <;> first | exact trivial | exact VSub.refl _ | exact VSub.any _ | (refine VSub.int ?_; omega))
    · have g2 : decide ((0 : Int) < (j : Int)) = true := decide_eq_true (by omega)
      have e2 : IntKind.i64.wrap ((j : Int) - 1) = ((j - 1 : Nat) : Int) := by rw [IntWalk.i64_in _ (by omega)]; omega
      have h4 : (0 : Int) ≤ ((j - 1 : Nat) : Int) := by omega
      have h5 : ((j - 1 : Nat) : Int) < (l.length : Int) := by omega
      have hat2 := enc_at encV l (j - 1) .any (by omega)
      cases hr : okV (l.getD j default)
      · repeat (first
          | ((first | apply Wp.seqItems | apply Wp.items | ((first
              | (refine WpItems.pcall ?_ ?_ (right_p (l.getD j default)) ?_; (· simp only [go_sem, reduceIte, Nat.reduceEqDiff, Nat.reduceAdd, bx]); (· simp only [go_sem, reduceIte, Nat.reduceEqDiff, Nat.reduceAdd, bx, List.map]; first | exact VSubs.refl _ | (repeat (first | exact VSubs.nil | refine VSubs.cons (by first | exact VSub.refl _ | assumption | exact VSub.cap | exact VSub.any _) ?_))))); apply WpItems.eval)); (· simp only [go_sem, reduceIte, Nat.reduceEqDiff, Nat.reduceAdd, bx, ax, if_true, if_false, Nat.reduceMul, Nat.reduceLeDiff, g1, g2, h2, h3, e1, Int.toNat_natCast, List.length_map, hat, encV, hr]; exact rfl))
          | (refine WpItems.nil ⟨?_, ?_⟩; (· first | trivial | simp [pairsQ, pairsOk, apart, ent0]))
          | (apply Wp.cond_lit; (· simp only [go_sem, reduceIte, Nat.reduceEqDiff, Nat.reduceAdd, bx, ax, if_true, if_false, Nat.reduceMul, Nat.reduceLeDiff, g1, g2, h2, h3, e1, Int.toNat_natCast, List.length_map, hat, encV, hr]; exact rfl); (· rfl))
          | refine Wp.skip ?_
          | refine Wp.label ?_
          | refine Wp.block ?_
          | refine Wp.exit ?_
          | refine Wp.seq ?_)
        refine Wp.ret ⟨trivial, _, rfl, ?_⟩
        simp only [go_sem, reduceIte, Nat.reduceEqDiff, Nat.reduceAdd, bx]
        rw [chB, all_no hc ((vOk_pos hz).trans (by rw [hr]; rfl))]; exact VSub.refl _
      · cases hp : decide ((l.getD (j - 1) default).t ≤ (l.getD j default).t)
        · have hlt : (l.getD j default).t < (l.getD (j - 1) default).t := by simp only [decide_eq_false_iff_not] at hp; omega
          repeat (first
            | ((first | apply Wp.seqItems | apply Wp.items | ((first
                | (refine WpItems.pcall ?_ ?_ (right_p (l.getD j default)) ?_; (· simp only [go_sem, reduceIte, Nat.reduceEqDiff, Nat.reduceAdd, bx]); (· simp only [go_sem, reduceIte, Nat.reduceEqDiff, Nat.reduceAdd, bx, List.map]; first | exact VSubs.refl _ | (repeat (first | exact VSubs.nil | refine VSubs.cons (by first | exact VSub.refl _ | assumption | exact VSub.cap | exact VSub.any _) ?_))))); apply WpItems.eval)); (· simp only [go_sem, reduceIte, Nat.reduceEqDiff, Nat.reduceAdd, bx, ax, if_true, if_false, Nat.reduceMul, Nat.reduceLeDiff, g1, g2, h2, h3, h4, h5, e1, e2, Int.toNat_natCast, List.length_map, hat, hat2, encV, hr, hp]; exact rfl))
            | (refine WpItems.nil ⟨?_, ?_⟩; (· first | trivial | simp [pairsQ, pairsOk, apart, ent0]))
            | (apply Wp.cond_lit; (· simp only [go_sem, reduceIte, Nat.reduceEqDiff, Nat.reduceAdd, bx, ax, if_true, if_false, Nat.reduceMul, Nat.reduceLeDiff, g1, g2, h2, h3, h4, h5, e1, e2, Int.toNat_natCast, List.length_map, hat, hat2, encV, hr, hp]; exact rfl); (· rfl))
            | refine Wp.skip ?_
            | refine Wp.label ?_
            | refine Wp.block ?_
            | refine Wp.exit ?_
            | refine Wp.seq ?_)
          refine ⟨j + 1, n + 1, by omega, ⟨by omega, all_step hs ((vOk_pos hz).trans (by rw [hr]; simpa using hlt))⟩, by omega, ?_⟩
          refine StLe.tmN (by omega) (OLe.none _) (by simp only [AllSub, go_sem, reduceIte, Nat.reduceEqDiff, Nat.reduceAdd, bx]; and_intros <;> first | exact trivial | exact VSub.refl _ | exact VSub.any _ | (refine VSub.int ?_; omega))
        · have hlt : ¬ (l.getD j default).t < (l.getD (j - 1) default).t := by simp only [decide_eq_true_eq] at hp; omega
          repeat (first
            | ((first | apply Wp.seqItems | apply Wp.items | ((first
                | (refine WpItems.pcall ?_ ?_ (right_p (l.getD j default)) ?_; (· simp only [go_sem, reduceIte, Nat.reduceEqDiff, Nat.reduceAdd, bx]); (· simp only [go_sem, reduceIte, Nat.reduceEqDiff, Nat.reduceAdd, bx, List.map]; first | exact VSubs.refl _ | (repeat (first | exact VSubs.nil | refine VSubs.cons (by first | exact VSub.refl _ | assumption | exact VSub.cap | exact VSub.any _) ?_))))); apply WpItems.eval)); (· simp only [go_sem, reduceIte, Nat.reduceEqDiff, Nat.reduceAdd, bx, ax, if_true, if_false, Nat.reduceMul, Nat.reduceLeDiff, g1, g2, h2, h3, h4, h5, e1, e2, Int.toNat_natCast, List.length_map, hat, hat2, encV, hr, hp]; exact rfl))
            | (refine WpItems.nil ⟨?_, ?_⟩; (· first | trivial | simp [pairsQ, pairsOk, apart, ent0]))
            | (apply Wp.cond_lit; (· simp only [go_sem, reduceIte, Nat.reduceEqDiff, Nat.reduceAdd, bx, ax, if_true, if_false, Nat.reduceMul, Nat.reduceLeDiff, g1, g2, h2, h3, h4, h5, e1, e2, Int.toNat_natCast, List.length_map, hat, hat2, encV, hr, hp]; exact rfl); (· rfl))
            | refine Wp.skip ?_
            | refine Wp.label ?_
            | refine Wp.block ?_
            | refine Wp.exit ?_
            | refine Wp.seq ?_)
          refine Wp.ret ⟨trivial, _, rfl, ?_⟩
          simp only [go_sem, reduceIte, Nat.reduceEqDiff, Nat.reduceAdd, bx]
          rw [chB, all_no hc ((vOk_pos hz).trans (by rw [hr]; simpa using hlt))]; exact VSub.refl _
  · obtain rfl : j = l.length := by omega
    have g1 : decide (((l.length : Nat) : Int) < ((l.length : Nat) : Int)) = false := decide_eq_false (by omega)
    repeat (first
      | ((first | apply Wp.seqItems | apply Wp.items); (· simp only [go_sem, reduceIte, Nat.reduceEqDiff, Nat.reduceAdd, bx, ax, if_true, if_false, Nat.reduceMul, Nat.reduceLeDiff, g1, List.length_map]; exact rfl))
      | (refine WpItems.nil ⟨?_, ?_⟩; (· first | trivial | simp [pairsQ, pairsOk, apart, ent0]))
      | (apply Wp.cond_lit; (· simp only [go_sem, reduceIte, Nat.reduceEqDiff, Nat.reduceAdd, bx, ax, if_true, if_false, Nat.reduceMul, Nat.reduceLeDiff, g1, List.length_map]; exact rfl); (· rfl))
      | refine Wp.skip ?_
      | refine Wp.label ?_
      | refine Wp.block ?_
      | refine Wp.exit ?_
      | refine Wp.seq ?_)
    refine Wp.ret ⟨trivial, _, rfl, ?_⟩
    simp only [go_sem, reduceIte, Nat.reduceEqDiff, Nat.reduceAdd, bx]
    rw [chB, all_yes hs]; exact VSub.refl _
end Go.Proofs.Ytpehfflehebmbaa.Space
end
section
set_option linter.unusedSimpArgs false
set_option linter.unusedVariables false
set_option maxRecDepth 10000
namespace Go.Proofs.Ytpehfflehebmbaa.Space
open Go Go.Av Go.Proofs Go.Proofs.Ytpehfflehebmbaa.C Go.Proofs.Ytpehfflehebmbaa.Batch
set_option maxHeartbeats 1000000 in
theorem rightsR_p (l : List Ver) (hl : l.length ≤ 1152921504606846976) : PCalls Try.prog 67 [.sl 3 (l.map encV) .any] (.bool (chB l)) := by
  refine f67.pcalls0 (by simp) (by simp [allPure, isPure, capPure, vers_pure]) rfl ?_
  unfold c67
  repeat (first
    | ((first | apply Wp.seqItems | apply Wp.items); (· simp only [go_sem, reduceIte, Nat.reduceEqDiff, Nat.reduceAdd, bx, ax, if_true, if_false, Nat.reduceMul, Nat.reduceLeDiff]; exact rfl))
    | (refine WpItems.nil ⟨?_, ?_⟩; (· first | trivial | simp [pairsQ, pairsOk, apart, ent0]))
    | (apply Wp.cond_lit; (· simp only [go_sem, reduceIte, Nat.reduceEqDiff, Nat.reduceAdd, bx, ax, if_true, if_false, Nat.reduceMul, Nat.reduceLeDiff]; exact rfl); (· rfl))
    | refine Wp.skip ?_
    | refine Wp.label ?_
    | refine Wp.block ?_
    | refine Wp.exit ?_
    | refine Wp.seq ?_)
  refine Wp.loopK [0] (by simp only [go_sem, reduceIte, Nat.reduceEqDiff, Nat.reduceAdd, bx, List.map]; exact rfl) (fun j : Nat => [(3, .int .i64 j)]) (fun j => j ≤ l.length ∧ ∀ i, i < j → vOk l i = true) (fun j => l.length - j) 0 ⟨Nat.zero_le _, fun i h => absurd h (by omega)⟩ ?_ ?_
  · simp only [AllSub, go_sem, reduceIte, Nat.reduceEqDiff, Nat.reduceAdd, bx]; and_intros <;> first | exact trivial | exact VSub.refl _ | exact VSub.any _ | (refine VSub.int ?_; omega)
  rintro j ⟨hj, hs⟩
  by_cases hc : j < l.length
  · have g1 : decide (((j : Nat) : Int) < ((l.length : Nat) : Int)) = true := decide_eq_true (by omega)
    have h2 : (0 : Int) ≤ ((j : Nat) : Int) := by omega
    have h3 : ((j : Nat) : Int) < ((l.length : Nat) : Int) := by omega
    have e1 : IntKind.i64.wrap (((j : Nat) : Int) + 1) = ((j + 1 : Nat) : Int) := by rw [IntWalk.i64_in _ (by omega)]; omega
    have hat := enc_at encV l j .any hc
    by_cases hz : j = 0
    · have g2 : decide ((0 : Int) < (j : Int)) = false := decide_eq_false (by omega)
      cases hr : okV (l.getD j default)
      · repeat (first
          | ((first | apply Wp.seqItems | apply Wp.items | ((first
              | (refine WpItems.pcall ?_ ?_ (rightR_p (l.getD j default)) ?_; (· simp only [go_sem, reduceIte, Nat.reduceEqDiff, Nat.reduceAdd, bx]); (· simp only [go_sem, reduceIte, Nat.reduceEqDiff, Nat.reduceAdd, bx, List.map]; first | exact VSubs.refl _ | (repeat (first | exact VSubs.nil | refine VSubs.cons (by first | exact VSub.refl _ | assumption | exact VSub.cap | exact VSub.any _) ?_))))); apply WpItems.eval)); (· simp only [go_sem, reduceIte, Nat.reduceEqDiff, Nat.reduceAdd, bx, ax, if_true, if_false, Nat.reduceMul, Nat.reduceLeDiff, g1, g2, h2, h3, e1, Int.toNat_natCast, List.length_map, hat, encV, hr]; exact rfl))
          | (refine WpItems.nil ⟨?_, ?_⟩; (· first | trivial | simp [pairsQ, pairsOk, apart, ent0]))
          | (apply Wp.cond_lit; (· simp only [go_sem, reduceIte, Nat.reduceEqDiff, Nat.reduceAdd, bx, ax, if_true, if_false, Nat.reduceMul, Nat.reduceLeDiff, g1, g2, h2, h3, e1, Int.toNat_natCast, List.length_map, hat, encV, hr]; exact rfl); (· rfl))
          | refine Wp.skip ?_
          | refine Wp.label ?_
          | refine Wp.block ?_
          | refine Wp.exit ?_
          | refine Wp.seq ?_)
        refine Wp.ret ⟨trivial, _, rfl, ?_⟩
        simp only [go_sem, reduceIte, Nat.reduceEqDiff, Nat.reduceAdd, bx]
        rw [chB, all_no hc ((vOk_zero hz).trans hr)]; exact VSub.refl _
      · repeat (first
          | ((first | apply Wp.seqItems | apply Wp.items | ((first
              | (refine WpItems.pcall ?_ ?_ (rightR_p (l.getD j default)) ?_; (· simp only [go_sem, reduceIte, Nat.reduceEqDiff, Nat.reduceAdd, bx]); (· simp only [go_sem, reduceIte, Nat.reduceEqDiff, Nat.reduceAdd, bx, List.map]; first | exact VSubs.refl _ | (repeat (first | exact VSubs.nil | refine VSubs.cons (by first | exact VSub.refl _ | assumption | exact VSub.cap | exact VSub.any _) ?_))))); apply WpItems.eval)); (· simp only [go_sem, reduceIte, Nat.reduceEqDiff, Nat.reduceAdd, bx, ax, if_true, if_false, Nat.reduceMul, Nat.reduceLeDiff, g1, g2, h2, h3, e1, Int.toNat_natCast, List.length_map, hat, encV, hr]; exact rfl))
          | (refine WpItems.nil ⟨?_, ?_⟩; (· first | trivial | simp [pairsQ, pairsOk, apart, ent0]))
          | (apply Wp.cond_lit; (· simp only [go_sem, reduceIte, Nat.reduceEqDiff, Nat.reduceAdd, bx, ax, if_true, if_false, Nat.reduceMul, Nat.reduceLeDiff, g1, g2, h2, h3, e1, Int.toNat_natCast, List.length_map, hat, encV, hr]; exact rfl); (· rfl))
          | refine Wp.skip ?_
          | refine Wp.label ?_
          | refine Wp.block ?_
          | refine Wp.exit ?_
          | refine Wp.seq ?_)
        refine ⟨j + 1, ⟨by omega, all_step hs ((vOk_zero hz).trans hr)⟩, by omega, ?_⟩
        refine StLe.tm (by simp only [AllSub, go_sem, reduceIte, Nat.reduceEqDiff, Nat.reduceAdd, bx]; and_intros <;> first | exact trivial | exact VSub.refl _ | exact VSub.any _ | (refine VSub.int ?_; omega))
    · have g2 : decide ((0 : Int) < (j : Int)) = true := decide_eq_true (by omega)
      have e2 : IntKind.i64.wrap ((j : Int) - 1) = ((j - 1 : Nat) : Int) := by rw [IntWalk.i64_in _ (by omega)]; omega
      have h4 : (0 : Int) ≤ ((j - 1 : Nat) : Int) := by omega
      have h5 : ((j - 1 : Nat) : Int) < (l.length : Int) := by omega
      have hat2 := enc_at encV l (j - 1) .any (by omega)
      cases hr : okV (l.getD j default)
      · repeat (first
          | ((first | apply Wp.seqItems | apply Wp.items | ((first
              | (refine WpItems.pcall ?_ ?_ (rightR_p (l.getD j default)) ?_; (· simp only [go_sem, reduceIte, Nat.reduceEqDiff, Nat.reduceAdd, bx]); (· simp only [go_sem, reduceIte, Nat.reduceEqDiff, Nat.reduceAdd, bx, List.map]; first | exact VSubs.refl _ | (repeat (first | exact VSubs.nil | refine VSubs.cons (by first | exact VSub.refl _ | assumption | exact VSub.cap | exact VSub.any _) ?_))))); apply WpItems.eval)); (· simp only [go_sem, reduceIte, Nat.reduceEqDiff, Nat.reduceAdd, bx, ax, if_true, if_false, Nat.reduceMul, Nat.reduceLeDiff, g1, g2, h2, h3, e1, Int.toNat_natCast, List.length_map, hat, encV, hr]; exact rfl))
          | (refine WpItems.nil ⟨?_, ?_⟩; (· first | trivial | simp [pairsQ, pairsOk, apart, ent0]))
          | (apply Wp.cond_lit; (· simp only [go_sem, reduceIte, Nat.reduceEqDiff, Nat.reduceAdd, bx, ax, if_true, if_false, Nat.reduceMul, Nat.reduceLeDiff, g1, g2, h2, h3, e1, Int.toNat_natCast, List.length_map, hat, encV, hr]; exact rfl); (· rfl))
          | refine Wp.skip ?_
          | refine Wp.label ?_
          | refine Wp.block ?_
          | refine Wp.exit ?_
          | refine Wp.seq ?_)
        refine Wp.ret ⟨trivial, _, rfl, ?_⟩
        simp only [go_sem, reduceIte, Nat.reduceEqDiff, Nat.reduceAdd, bx]
        rw [chB, all_no hc ((vOk_pos hz).trans (by rw [hr]; rfl))]; exact VSub.refl _
      · cases hp : decide ((l.getD (j - 1) default).t ≤ (l.getD j default).t)
        · have hlt : (l.getD j default).t < (l.getD (j - 1) default).t := by simp only [decide_eq_false_iff_not] at hp; omega
          repeat (first
            | ((first | apply Wp.seqItems | apply Wp.items | ((first
                | (refine WpItems.pcall ?_ ?_ (rightR_p (l.getD j default)) ?_; (· simp only [go_sem, reduceIte, Nat.reduceEqDiff, Nat.reduceAdd, bx]); (· simp only [go_sem, reduceIte, Nat.reduceEqDiff, Nat.reduceAdd, bx, List.map]; first | exact VSubs.refl _ | (repeat (first | exact VSubs.nil | refine VSubs.cons (by first | exact VSub.refl _ | assumption | exact VSub.cap | exact VSub.any _) ?_))))); apply WpItems.eval)); (· simp only [go_sem, reduceIte, Nat.reduceEqDiff, Nat.reduceAdd, bx, ax, if_true, if_false, Nat.reduceMul, Nat.reduceLeDiff, g1, g2, h2, h3, h4, h5, e1, e2, Int.toNat_natCast, List.length_map, hat, hat2, encV, hr, hp]; exact rfl))
            | (refine WpItems.nil ⟨?_, ?_⟩; (· first | trivial | simp [pairsQ, pairsOk, apart, ent0]))
            | (apply Wp.cond_lit; (· simp only [go_sem, reduceIte, Nat.reduceEqDiff, Nat.reduceAdd, bx, ax, if_true, if_false, Nat.reduceMul, Nat.reduceLeDiff, g1, g2, h2, h3, h4, h5, e1, e2, Int.toNat_natCast, List.length_map, hat, hat2, encV, hr, hp]; exact rfl); (· rfl))
            | refine Wp.skip ?_
            | refine Wp.label ?_
            | refine Wp.block ?_
            | refine Wp.exit ?_
            | refine Wp.seq ?_)
          refine ⟨j + 1, ⟨by omega, all_step hs ((vOk_pos hz).trans (by rw [hr]; simpa using hlt))⟩, by omega, ?_⟩
          refine StLe.tm (by simp only [AllSub, go_sem, reduceIte, Nat.reduceEqDiff, Nat.reduceAdd, bx]; and_intros <;> first | exact trivial | exact VSub.refl _ | exact VSub.any _ | (refine VSub.int ?_; omega))
        · have hlt : ¬ (l.getD j default).t < (l.getD (j - 1) default).t := by simp only [decide_eq_true_eq] at hp; omega
          repeat (first
            | ((first | apply Wp.seqItems | apply Wp.items | ((first
                | (refine WpItems.pcall ?_ ?_ (rightR_p (l.getD j default)) ?_; (· simp only [go_sem, reduceIte, Nat.reduceEqDiff, Nat.reduceAdd, bx]); (· simp only [go_sem, reduceIte, Nat.reduceEqDiff, Nat.reduceAdd, bx, List.map]; first | exact VSubs.refl _ | (repeat (first | exact VSubs.nil | refine VSubs.cons (by first | exact VSub.refl _ | assumption | exact VSub.cap | exact VSub.any _) ?_))))); apply WpItems.eval)); (· simp only [go_sem, reduceIte, Nat.reduceEqDiff, Nat.reduceAdd, bx, ax, if_true, if_false, Nat.reduceMul, Nat.reduceLeDiff, g1, g2, h2, h3, h4, h5, e1, e2, Int.toNat_natCast, List.length_map, hat, hat2, encV, hr, hp]; exact rfl))
            | (refine WpItems.nil ⟨?_, ?_⟩; (· first | trivial | simp [pairsQ, pairsOk, apart, ent0]))
            | (apply Wp.cond_lit; (· simp only [go_sem, reduceIte, Nat.reduceEqDiff, Nat.reduceAdd, bx, ax, if_true, if_false, Nat.reduceMul, Nat.reduceLeDiff, g1, g2, h2, h3, h4, h5, e1, e2, Int.toNat_natCast, List.length_map, hat, hat2, encV, hr, hp]; exact rfl); (· rfl))
            | refine Wp.skip ?_
            | refine Wp.label ?_
            | refine Wp.block ?_
            | refine Wp.exit ?_
            | refine Wp.seq ?_)
          refine Wp.ret ⟨trivial, _, rfl, ?_⟩
          simp only [go_sem, reduceIte, Nat.reduceEqDiff, Nat.reduceAdd, bx]
          rw [chB, all_no hc ((vOk_pos hz).trans (by rw [hr]; simpa using hlt))]; exact VSub.refl _
  · obtain rfl : j = l.length := by omega
    have g1 : decide (((l.length : Nat) : Int) < ((l.length : Nat) : Int)) = false := decide_eq_false (by omega)
    repeat (first
      | ((first | apply Wp.seqItems | apply Wp.items); (· simp only [go_sem, reduceIte, Nat.reduceEqDiff, Nat.reduceAdd, bx, ax, if_true, if_false, Nat.reduceMul, Nat.reduceLeDiff, g1, List.length_map]; exact rfl))
      | (refine WpItems.nil ⟨?_, ?_⟩; (· first | trivial | simp [pairsQ, pairsOk, apart, ent0]))
      | (apply Wp.cond_lit; (· simp only [go_sem, reduceIte, Nat.reduceEqDiff, Nat.reduceAdd, bx, ax, if_true, if_false, Nat.reduceMul, Nat.reduceLeDiff, g1, List.length_map]; exact rfl); (· rfl))
      | refine Wp.skip ?_
      | refine Wp.label ?_
      | refine Wp.block ?_
      | refine Wp.exit ?_
      | refine Wp.seq ?_)
    refine Wp.ret ⟨trivial, _, rfl, ?_⟩
    simp only [go_sem, reduceIte, Nat.reduceEqDiff, Nat.reduceAdd, bx]
    rw [chB, all_yes hs]; exact VSub.refl _
def plc (l : List Ver) (t : Int) : Nat := l.findIdx fun v => decide (v.t ≤ t)
theorem plc_le (l : List Ver) (t : Int) : plc l t ≤ l.length := List.findIdx_le_length
theorem desc {l : List Ver} (h : chB l = true) {i : Nat} : ∀ {j}, i < j → j < l.length → (l.getD j default).t < (l.getD i default).t
  | 0, hij, _ => absurd hij (by omega)
  | j + 1, hij, hj => by
    have h1 := List.all_eq_true.1 h (j + 1) (List.mem_range.2 hj)
    have h2 : (l.getD (j + 1) default).t < (l.getD j default).t := by
      rw [vOk_pos (by omega)] at h1
      simp only [Bool.and_eq_true, decide_eq_true_eq] at h1
      exact h1.2
    by_cases e : i = j
    · subst e; exact h2
    · exact Int.lt_trans h2 (desc h (by omega) (by omega))
theorem plc_lt {l : List Ver} {t : Int} {i : Nat} (h : i < plc l t) : ¬ (l.getD i default).t ≤ t := by
  have hl : i < l.length := Nat.lt_of_lt_of_le h (plc_le l t)
  have := List.not_of_lt_findIdx h
  rw [getD_el hl]
  simpa using this
theorem plc_at {l : List Ver} {t : Int} (h : plc l t < l.length) : (l.getD (plc l t) default).t ≤ t := by
  have := List.findIdx_getElem (p := fun v : Ver => decide (v.t ≤ t)) (xs := l) (w := h)
  rw [getD_el h]
  have h2 : (l[plc l t]'h).t ≤ t := of_decide_eq_true this
  exact h2
theorem plc_ge {l : List Ver} {t : Int} {i : Nat} (hc : chB l = true) (h : plc l t ≤ i) (hl : i < l.length) : (l.getD i default).t ≤ t := by
  have h1 := plc_at (l := l) (t := t) (by omega)
  by_cases e : i = plc l t
  · rw [e]; exact h1
  · exact Int.le_trans (Int.le_of_lt (desc hc (by omega) hl)) h1
theorem sortSearch_p (len : Nat) (hlen : len ≤ 1152921504606846976) {g : FuncId} {fn : Func} (hf : Try.prog.funcs[g]? = some fn) (hb : fn.body.isSome = true) (hn : fn.name ≠ "runtime.NumGoroutine") (caps : List AV) (hcp : allPure caps = true)
    (r : Nat) (hr : r ≤ len) (h0 : ∀ i, i < r → PCalls Try.prog g (.int .i64 (i : Nat) :: caps) (.bool false)) (h1 : ∀ i, r ≤ i → i < len → PCalls Try.prog g (.int .i64 (i : Nat) :: caps) (.bool true)) :
    PCalls Try.prog 138 [.int .i64 len, .clo (.func g) [] caps] (.int .i64 r) := by
  refine f138.pcalls0 (by simp) (by simp [allPure, isPure, hcp]) rfl ?_
  unfold c138
  refine Wp.seqReg (by simp only [go_sem, reduceIte, Nat.reduceEqDiff, Nat.reduceAdd, bx]; exact rfl) (by trivial) ?_
  refine Wp.seqReg (by simp only [go_sem, reduceIte, Nat.reduceEqDiff, Nat.reduceAdd, bx]; exact rfl) (by trivial) ?_
  refine Wp.seq ?_
  refine Wp.block ?_
  refine Wp.loopK [1] (by simp only [go_sem, reduceIte, Nat.reduceEqDiff, Nat.reduceAdd, bx, List.map]; exact rfl) (fun j : Nat × Nat => [(5, .int .i64 j.1), (6, .int .i64 j.2)]) (fun j => j.1 ≤ r ∧ r ≤ j.2 ∧ j.2 ≤ len) (fun j => j.2 - j.1) (0, len) ⟨Nat.zero_le _, hr, Nat.le_refl _⟩ ?_ ?_
  · simp only [AllSub, go_sem, reduceIte, Nat.reduceEqDiff, Nat.reduceAdd, bx]; and_intros <;> first | exact trivial | exact VSub.refl _ | exact VSub.any _ | (refine VSub.int ?_; omega)
  · rintro ⟨i, j⟩ ⟨a1, a2, a3⟩
    simp only at a1 a2 a3
    refine Wp.seq ?_
    refine Wp.seqReg (by simp only [go_sem, reduceIte, Nat.reduceEqDiff, Nat.reduceAdd, bx]; exact rfl) (by trivial) ?_
    refine Wp.cond_split (b := decide ((i : Int) < (j : Int))) (by simp only [go_sem, reduceIte, Nat.reduceEqDiff, Nat.reduceAdd, bx]) (fun hc => ?_) (fun hc => ?_)
    · have hc' : (i : Int) < (j : Int) := by simpa using hc
      have e1 : IntKind.i64.wrap ((i : Int) + (j : Int)) = ((i + j : Nat) : Int) := by rw [IntWalk.i64_in _ (by omega)]; omega
      have e2 : IntKind.u64.wrap ((i + j : Nat) : Int) = ((i + j : Nat) : Int) := IntWalk.u64_in _ (by omega)
      have e3 : ((i + j : Nat) : Int).fdiv (2 ^ (min (Int.toNat 1) 64)) = (((i + j) / 2 : Nat) : Int) := by
        rw [show min (Int.toNat 1) 64 = 1 from rfl, Int.fdiv_eq_ediv_of_nonneg _ (by omega)]
        omega
      have e4 : IntKind.i64.wrap (((i + j) / 2 : Nat) : Int) = (((i + j) / 2 : Nat) : Int) := IntWalk.i64_in _ (by omega)
      have e5 : ¬ (1 : Int) < 0 := by omega
      refine Wp.skip ?_
      refine Wp.block ?_
      refine Wp.seqReg (by simp only [go_sem, reduceIte, Nat.reduceEqDiff, Nat.reduceAdd, bx, e1, e2, IntKind.bits, e3, e4, e5]; exact rfl) (by trivial) ?_
      refine Wp.seqItems (by simp only [go_sem, reduceIte, Nat.reduceEqDiff, Nat.reduceAdd, bx]; exact rfl) ?_
      by_cases hh : (i + j) / 2 < r
      · refine WpItems.pcallv (by simp only [go_sem]) (by simp only [go_sem, reduceIte, Nat.reduceEqDiff]; exact rfl) hf hb hn (by simp only [go_sem, reduceIte, Nat.reduceEqDiff, List.map]; exact VSubs.refl _) (h0 _ hh) ?_
        refine WpItems.eval (by simp only [go_sem, reduceIte, Nat.reduceEqDiff, Nat.reduceAdd, bx]; exact rfl) ?_
        refine WpItems.nil ⟨by trivial, ?_⟩
        refine Wp.cond_true (by simp only [go_sem, reduceIte, Nat.reduceEqDiff, Nat.reduceAdd, bx]) ?_
        refine Wp.reg1 (by simp only [go_sem, reduceIte, Nat.reduceEqDiff, Nat.reduceAdd, bx]; simp (disch := omega) only [IntWalk.i64_in]; exact rfl) (by trivial) ?_
        refine ⟨((i + j) / 2 + 1, j), ⟨by simp only; omega, by simp only; omega, by simp only; omega⟩, by simp only; omega, ?_⟩
        refine StLe.tm (by simp only [AllSub, go_sem, reduceIte, Nat.reduceEqDiff, Nat.reduceAdd, bx]; and_intros <;> first | exact trivial | exact VSub.refl _ | exact VSub.any _ | (refine VSub.int ?_; omega))
      · refine WpItems.pcallv (by simp only [go_sem]) (by simp only [go_sem, reduceIte, Nat.reduceEqDiff]; exact rfl) hf hb hn (by simp only [go_sem, reduceIte, Nat.reduceEqDiff, List.map]; exact VSubs.refl _) (h1 _ (by omega) (by omega)) ?_
        refine WpItems.eval (by simp only [go_sem, reduceIte, Nat.reduceEqDiff, Nat.reduceAdd, bx]; exact rfl) ?_
        refine WpItems.nil ⟨by trivial, ?_⟩
        refine Wp.cond_false (by simp only [go_sem, reduceIte, Nat.reduceEqDiff, Nat.reduceAdd, bx]) ?_
        refine Wp.reg1 (by simp only [go_sem, reduceIte, Nat.reduceEqDiff, Nat.reduceAdd, bx]; exact rfl) (by trivial) ?_
        refine ⟨(i, (i + j) / 2), ⟨by simp only; omega, by simp only; omega, by simp only; omega⟩, by simp only; omega, ?_⟩
        refine StLe.tm (by simp only [AllSub, go_sem, reduceIte, Nat.reduceEqDiff, Nat.reduceAdd, bx]; and_intros <;> first | exact trivial | exact VSub.refl _ | exact VSub.any _ | (refine VSub.int ?_; omega))
    · have hc' : ¬ (i : Int) < (j : Int) := by simpa using hc
      obtain rfl : i = r := by omega
      refine Wp.exit ?_
      refine Wp.seqReg (by simp only [go_sem, reduceIte, Nat.reduceEqDiff, Nat.reduceAdd, bx]; exact rfl) (by trivial) ?_
      refine Wp.ret ⟨trivial, _, rfl, ?_⟩
      simp only [go_sem, reduceIte, Nat.reduceEqDiff, Nat.reduceAdd, bx]
      exact VSub.refl _
theorem place1_p (l : List Ver) (hl : l.length ≤ 1152921504606846976) (t : Int) (i : Nat) (hi : i < l.length) : PCalls Try.prog 139 [.int .i64 i, .ref [.sl 3 (l.map encV) .any], .ref [.int .i64 t]] (.bool (decide ((l.getD i default).t ≤ t))) := by
  refine f139.pcalls0 (by simp) (by simp [allPure, isPure, capPure, vers_pure]) rfl ?_
  unfold c139
  have g1 : decide (((i : Nat) : Int) < ((l.length : Nat) : Int)) = true := decide_eq_true (by omega)
  have h2 : (0 : Int) ≤ ((i : Nat) : Int) := by omega
  have h3 : ((i : Nat) : Int) < ((l.length : Nat) : Int) := by omega
  have e1 : IntKind.i64.wrap (((i : Nat) : Int) + 1) = ((i + 1 : Nat) : Int) := by rw [IntWalk.i64_in _ (by omega)]; omega
  have hat := enc_at encV l i .any hi
  repeat (first
    | ((first | apply Wp.seqItems | apply Wp.items); (· simp only [go_sem, reduceIte, Nat.reduceEqDiff, Nat.reduceAdd, bx, ax, if_true, if_false, Nat.reduceMul, Nat.reduceLeDiff, g1, h2, h3, Int.toNat_natCast, List.length_map, hat, encV]; exact rfl))
    | (refine WpItems.nil ⟨?_, ?_⟩; (· first | trivial | simp [pairsQ, pairsOk, apart, ent0]))
    | (apply Wp.cond_lit; (· simp only [go_sem, reduceIte, Nat.reduceEqDiff, Nat.reduceAdd, bx, ax, if_true, if_false, Nat.reduceMul, Nat.reduceLeDiff, g1, h2, h3, Int.toNat_natCast, List.length_map, hat, encV]; exact rfl); (· rfl))
    | refine Wp.skip ?_
    | refine Wp.label ?_
    | refine Wp.block ?_
    | refine Wp.exit ?_
    | refine Wp.seq ?_)
  refine Wp.ret ⟨trivial, _, rfl, ?_⟩
  simp only [go_sem, reduceIte, Nat.reduceEqDiff, Nat.reduceAdd, bx]
  exact VSub.refl _
theorem place_p (l : List Ver) (hl : l.length ≤ 1152921504606846976) (hc : chB l = true) (t : Int) : PCalls Try.prog 107 [.sl 3 (l.map encV) .any, .int .i64 t] (.int .i64 (plc l t)) := by
  refine f107.pcalls0 (by simp) (by simp [allPure, isPure, capPure, vers_pure]) rfl ?_
  unfold c107
  refine Wp.seqReg (by simp only [go_sem, reduceIte, Nat.reduceEqDiff, Nat.reduceAdd, bx]; exact rfl) (by trivial) ?_
  refine Wp.frz (fun _ => true) [(2, .ref [.sl 3 (l.map encV) .any]), (3, .ref [.int .i64 t])] ⟨none', 2, [], 0⟩ ?_ (OLe.none _) (by simp) (by simp [go_sem]) (Nat.le_refl _) ?_
  · simp only [AllSub, go_sem, reduceIte, Nat.reduceEqDiff, unT, and_true]
    and_intros <;> exact VSub.refl _
  have hs := sortSearch_p l.length hl Try.func139 rfl (of_decide_eq_true (by kernel_rfl)) [.ref [.sl 3 (l.map encV) .any], .ref [.int .i64 t]] (by simp [allPure, isPure, capPure, vers_pure]) (plc l t) (plc_le l t)
    (fun i hi => by have := place1_p l hl t i (by have := plc_le l t; omega); rwa [decide_eq_false (plc_lt hi)] at this)
    (fun i hi hi2 => by have := place1_p l hl t i hi2; rwa [decide_eq_true (plc_ge hc hi hi2)] at this)
  repeat (first
    | ((first | apply Wp.seqItems | apply Wp.items | ((first
        | (refine WpItems.pcall ?_ ?_ (hs) ?_; (· simp only [go_sem, reduceIte, Nat.reduceEqDiff, Nat.reduceAdd, bx]); (· simp only [go_sem, reduceIte, Nat.reduceEqDiff, Nat.reduceAdd, bx, List.map]; first | exact VSubs.refl _ | (repeat (first | exact VSubs.nil | refine VSubs.cons (by first | exact VSub.refl _ | assumption | exact VSub.cap | exact VSub.any _) ?_))))); apply WpItems.eval)); (· simp only [go_sem, reduceIte, Nat.reduceEqDiff, Nat.reduceAdd, bx, ax, if_true, if_false, Nat.reduceMul, Nat.reduceLeDiff, List.length_map]; exact rfl))
    | (refine WpItems.nil ⟨?_, ?_⟩; (· first | trivial | simp [pairsQ, pairsOk, apart, ent0]))
    | (apply Wp.cond_lit; (· simp only [go_sem, reduceIte, Nat.reduceEqDiff, Nat.reduceAdd, bx, ax, if_true, if_false, Nat.reduceMul, Nat.reduceLeDiff, List.length_map]; exact rfl); (· rfl))
    | refine Wp.skip ?_
    | refine Wp.label ?_
    | refine Wp.block ?_
    | refine Wp.exit ?_
    | refine Wp.seq ?_)
  refine Wp.ret ⟨trivial, _, rfl, ?_⟩
  simp only [go_sem, reduceIte, Nat.reduceEqDiff, Nat.reduceAdd, bx]
  exact VSub.refl _
def atB (l : List Ver) (t : Int) : Bs × Bool := if chB l = true ∧ plc l t < l.length then ((l.getD (plc l t) default).v, !(l.getD (plc l t) default).d) else ([], false)
theorem at_p (l : List Ver) (hl : l.length ≤ 1152921504606846976) (t : Int) : PCalls Try.prog 60 [.sl 3 (l.map encV) .any, .int .i64 t] (.tup [.str (atB l t).1, .bool (atB l t).2]) := by
  refine f60.pcalls0 (by simp) (by simp [allPure, isPure, capPure, vers_pure]) rfl ?_
  unfold c60
  have hck := check_p l hl
  have d0 : decide ((0 : Int) = 0) = true := rfl
  have d4 : decide ((4 : Int) = 0) = false := rfl
  cases hc : chB l with
  | false =>
    simp only [hc, Bool.false_eq_true, if_false] at hck
    repeat (first
      | ((first | apply Wp.seqItems | apply Wp.items | ((first
          | (refine WpItems.pcall ?_ ?_ (hck) ?_; (· simp only [go_sem, reduceIte, Nat.reduceEqDiff, Nat.reduceAdd, bx]); (· simp only [go_sem, reduceIte, Nat.reduceEqDiff, Nat.reduceAdd, bx, List.map]; first | exact VSubs.refl _ | (repeat (first | exact VSubs.nil | refine VSubs.cons (by first | exact VSub.refl _ | assumption | exact VSub.cap | exact VSub.any _) ?_))))); apply WpItems.eval)); (· simp only [go_sem, reduceIte, Nat.reduceEqDiff, Nat.reduceAdd, bx, ax, if_true, if_false, Nat.reduceMul, Nat.reduceLeDiff, d4]; exact rfl))
      | (refine WpItems.nil ⟨?_, ?_⟩; (· first | trivial | simp [pairsQ, pairsOk, apart, ent0]))
      | (apply Wp.cond_lit; (· simp only [go_sem, reduceIte, Nat.reduceEqDiff, Nat.reduceAdd, bx, ax, if_true, if_false, Nat.reduceMul, Nat.reduceLeDiff, d4]; exact rfl); (· rfl))
      | refine Wp.skip ?_
      | refine Wp.label ?_
      | refine Wp.block ?_
      | refine Wp.exit ?_
      | refine Wp.seq ?_)
    refine Wp.ret ⟨trivial, _, rfl, ?_⟩
    simp only [go_sem, reduceIte, Nat.reduceEqDiff, Nat.reduceAdd, bx]
    rw [atB, if_neg (by simp [hc])]; exact VSub.refl _
  | true =>
    simp only [hc, if_true] at hck
    have hle := plc_le l t
    by_cases hp : plc l t < l.length
    · have g1 : decide (((plc l t : Nat) : Int) = (l.length : Int)) = false := decide_eq_false (by omega)
      have h2 : (0 : Int) ≤ ((plc l t : Nat) : Int) := by omega
      have h3 : ((plc l t : Nat) : Int) < (l.length : Int) := by omega
      have hat := enc_at encV l (plc l t) .any hp
      repeat (first
        | ((first | apply Wp.seqItems | apply Wp.items | ((first
            | (refine WpItems.pcall ?_ ?_ (hck) ?_; (· simp only [go_sem, reduceIte, Nat.reduceEqDiff, Nat.reduceAdd, bx]); (· simp only [go_sem, reduceIte, Nat.reduceEqDiff, Nat.reduceAdd, bx, List.map]; first | exact VSubs.refl _ | (repeat (first | exact VSubs.nil | refine VSubs.cons (by first | exact VSub.refl _ | assumption | exact VSub.cap | exact VSub.any _) ?_))))
            | (refine WpItems.pcall ?_ ?_ (place_p l hl hc t) ?_; (· simp only [go_sem, reduceIte, Nat.reduceEqDiff, Nat.reduceAdd, bx]); (· simp only [go_sem, reduceIte, Nat.reduceEqDiff, Nat.reduceAdd, bx, List.map]; first | exact VSubs.refl _ | (repeat (first | exact VSubs.nil | refine VSubs.cons (by first | exact VSub.refl _ | assumption | exact VSub.cap | exact VSub.any _) ?_))))); apply WpItems.eval)); (· simp only [go_sem, reduceIte, Nat.reduceEqDiff, Nat.reduceAdd, bx, ax, if_true, if_false, Nat.reduceMul, Nat.reduceLeDiff, d0, g1, h2, h3, Int.toNat_natCast, List.length_map, hat, encV]; exact rfl))
        | (refine WpItems.nil ⟨?_, ?_⟩; (· first | trivial | simp [pairsQ, pairsOk, apart, ent0]))
        | (apply Wp.cond_lit; (· simp only [go_sem, reduceIte, Nat.reduceEqDiff, Nat.reduceAdd, bx, ax, if_true, if_false, Nat.reduceMul, Nat.reduceLeDiff, d0, g1, h2, h3, Int.toNat_natCast, List.length_map, hat, encV]; exact rfl); (· rfl))
        | refine Wp.skip ?_
        | refine Wp.label ?_
        | refine Wp.block ?_
        | refine Wp.exit ?_
        | refine Wp.seq ?_)
      refine Wp.ret ⟨trivial, _, rfl, ?_⟩
      simp only [go_sem, reduceIte, Nat.reduceEqDiff, Nat.reduceAdd, bx]
      rw [atB, if_pos ⟨hc, hp⟩]; exact VSub.refl _
    · have g1 : decide (((plc l t : Nat) : Int) = (l.length : Int)) = true := decide_eq_true (by omega)
      repeat (first
        | ((first | apply Wp.seqItems | apply Wp.items | ((first
            | (refine WpItems.pcall ?_ ?_ (hck) ?_; (· simp only [go_sem, reduceIte, Nat.reduceEqDiff, Nat.reduceAdd, bx]); (· simp only [go_sem, reduceIte, Nat.reduceEqDiff, Nat.reduceAdd, bx, List.map]; first | exact VSubs.refl _ | (repeat (first | exact VSubs.nil | refine VSubs.cons (by first | exact VSub.refl _ | assumption | exact VSub.cap | exact VSub.any _) ?_))))
            | (refine WpItems.pcall ?_ ?_ (place_p l hl hc t) ?_; (· simp only [go_sem, reduceIte, Nat.reduceEqDiff, Nat.reduceAdd, bx]); (· simp only [go_sem, reduceIte, Nat.reduceEqDiff, Nat.reduceAdd, bx, List.map]; first | exact VSubs.refl _ | (repeat (first | exact VSubs.nil | refine VSubs.cons (by first | exact VSub.refl _ | assumption | exact VSub.cap | exact VSub.any _) ?_))))); apply WpItems.eval)); (· simp only [go_sem, reduceIte, Nat.reduceEqDiff, Nat.reduceAdd, bx, ax, if_true, if_false, Nat.reduceMul, Nat.reduceLeDiff, d0, g1, List.length_map]; exact rfl))
        | (refine WpItems.nil ⟨?_, ?_⟩; (· first | trivial | simp [pairsQ, pairsOk, apart, ent0]))
        | (apply Wp.cond_lit; (· simp only [go_sem, reduceIte, Nat.reduceEqDiff, Nat.reduceAdd, bx, ax, if_true, if_false, Nat.reduceMul, Nat.reduceLeDiff, d0, g1, List.length_map]; exact rfl); (· rfl))
        | refine Wp.skip ?_
        | refine Wp.label ?_
        | refine Wp.block ?_
        | refine Wp.exit ?_
        | refine Wp.seq ?_)
      refine Wp.ret ⟨trivial, _, rfl, ?_⟩
      simp only [go_sem, reduceIte, Nat.reduceEqDiff, Nat.reduceAdd, bx]
      rw [atB, if_neg (by omega)]; exact VSub.refl _
theorem atR_p (l : List Ver) (hl : l.length ≤ 1152921504606846976) (t : Int) : PCalls Try.prog 111 [.sl 3 (l.map encV) .any, .int .i64 t] (.tup [.str (atB l t).1, .bool (atB l t).2]) := by
  refine f111.pcalls0 (by simp) (by simp [allPure, isPure, capPure, vers_pure]) rfl ?_
  unfold c111
  have hck := rightsR_p l hl
  cases hc : chB l with
  | false =>
    rw [hc] at hck
    repeat (first
      | ((first | apply Wp.seqItems | apply Wp.items | ((first
          | (refine WpItems.pcall ?_ ?_ (hck) ?_; (· simp only [go_sem, reduceIte, Nat.reduceEqDiff, Nat.reduceAdd, bx]); (· simp only [go_sem, reduceIte, Nat.reduceEqDiff, Nat.reduceAdd, bx, List.map]; first | exact VSubs.refl _ | (repeat (first | exact VSubs.nil | refine VSubs.cons (by first | exact VSub.refl _ | assumption | exact VSub.cap | exact VSub.any _) ?_))))); apply WpItems.eval)); (· simp only [go_sem, reduceIte, Nat.reduceEqDiff, Nat.reduceAdd, bx, ax, if_true, if_false, Nat.reduceMul, Nat.reduceLeDiff]; exact rfl))
      | (refine WpItems.nil ⟨?_, ?_⟩; (· first | trivial | simp [pairsQ, pairsOk, apart, ent0]))
      | (apply Wp.cond_lit; (· simp only [go_sem, reduceIte, Nat.reduceEqDiff, Nat.reduceAdd, bx, ax, if_true, if_false, Nat.reduceMul, Nat.reduceLeDiff]; exact rfl); (· rfl))
      | refine Wp.skip ?_
      | refine Wp.label ?_
      | refine Wp.block ?_
      | refine Wp.exit ?_
      | refine Wp.seq ?_)
    refine Wp.ret ⟨trivial, _, rfl, ?_⟩
    simp only [go_sem, reduceIte, Nat.reduceEqDiff, Nat.reduceAdd, bx]
    rw [atB, if_neg (by simp [hc])]; exact VSub.refl _
  | true =>
    rw [hc] at hck
    repeat (first
      | ((first | apply Wp.seqItems | apply Wp.items | ((first
          | (refine WpItems.pcall ?_ ?_ (hck) ?_; (· simp only [go_sem, reduceIte, Nat.reduceEqDiff, Nat.reduceAdd, bx]); (· simp only [go_sem, reduceIte, Nat.reduceEqDiff, Nat.reduceAdd, bx, List.map]; first | exact VSubs.refl _ | (repeat (first | exact VSubs.nil | refine VSubs.cons (by first | exact VSub.refl _ | assumption | exact VSub.cap | exact VSub.any _) ?_))))); apply WpItems.eval)); (· simp only [go_sem, reduceIte, Nat.reduceEqDiff, Nat.reduceAdd, bx, ax, if_true, if_false, Nat.reduceMul, Nat.reduceLeDiff]; exact rfl))
      | (refine WpItems.nil ⟨?_, ?_⟩; (· first | trivial | simp [pairsQ, pairsOk, apart, ent0]))
      | (apply Wp.cond_lit; (· simp only [go_sem, reduceIte, Nat.reduceEqDiff, Nat.reduceAdd, bx, ax, if_true, if_false, Nat.reduceMul, Nat.reduceLeDiff]; exact rfl); (· rfl))
      | refine Wp.skip ?_
      | refine Wp.label ?_
      | refine Wp.block ?_
      | refine Wp.exit ?_
      | refine Wp.seq ?_)
    refine Wp.loopK [0, 1] (by simp only [go_sem, reduceIte, Nat.reduceEqDiff, Nat.reduceAdd, bx, List.map]; exact rfl) (fun j : Nat => [(6, .int .i64 j)]) (fun j => j ≤ plc l t) (fun j => l.length - j) 0 (Nat.zero_le _) ?_ ?_
    · simp only [AllSub, go_sem, reduceIte, Nat.reduceEqDiff, Nat.reduceAdd, bx]; and_intros <;> first | exact trivial | exact VSub.refl _ | exact VSub.any _ | (refine VSub.int ?_; omega)
    intro j hj
    have hle := plc_le l t
    by_cases hlt : j < l.length
    · have g1 : decide (((j : Nat) : Int) < ((l.length : Nat) : Int)) = true := decide_eq_true (by omega)
      have h2 : (0 : Int) ≤ ((j : Nat) : Int) := by omega
      have h3 : ((j : Nat) : Int) < ((l.length : Nat) : Int) := by omega
      have e1 : IntKind.i64.wrap (((j : Nat) : Int) + 1) = ((j + 1 : Nat) : Int) := by rw [IntWalk.i64_in _ (by omega)]; omega
      have hat := enc_at encV l j .any hlt
      by_cases he : j < plc l t
      · have g2 : decide ((l.getD j default).t ≤ t) = false := decide_eq_false (plc_lt he)
        repeat (first
          | ((first | apply Wp.seqItems | apply Wp.items); (· simp only [go_sem, reduceIte, Nat.reduceEqDiff, Nat.reduceAdd, bx, ax, if_true, if_false, Nat.reduceMul, Nat.reduceLeDiff, g1, g2, h2, h3, e1, Int.toNat_natCast, List.length_map, hat, encV]; exact rfl))
          | (refine WpItems.nil ⟨?_, ?_⟩; (· first | trivial | simp [pairsQ, pairsOk, apart, ent0]))
          | (apply Wp.cond_lit; (· simp only [go_sem, reduceIte, Nat.reduceEqDiff, Nat.reduceAdd, bx, ax, if_true, if_false, Nat.reduceMul, Nat.reduceLeDiff, g1, g2, h2, h3, e1, Int.toNat_natCast, List.length_map, hat, encV]; exact rfl); (· rfl))
          | refine Wp.skip ?_
          | refine Wp.label ?_
          | refine Wp.block ?_
          | refine Wp.exit ?_
          | refine Wp.seq ?_)
        refine ⟨j + 1, he, by omega, ?_⟩
        refine StLe.tm (by simp only [AllSub, go_sem, reduceIte, Nat.reduceEqDiff, Nat.reduceAdd, bx]; and_intros <;> first | exact trivial | exact VSub.refl _ | exact VSub.any _ | (refine VSub.int ?_; omega))
      · obtain rfl : j = plc l t := by omega
        have g2 : decide ((l.getD (plc l t) default).t ≤ t) = true := decide_eq_true (plc_at hlt)
        repeat (first
          | ((first | apply Wp.seqItems | apply Wp.items); (· simp only [go_sem, reduceIte, Nat.reduceEqDiff, Nat.reduceAdd, bx, ax, if_true, if_false, Nat.reduceMul, Nat.reduceLeDiff, g1, g2, h2, h3, e1, Int.toNat_natCast, List.length_map, hat, encV]; exact rfl))
          | (refine WpItems.nil ⟨?_, ?_⟩; (· first | trivial | simp [pairsQ, pairsOk, apart, ent0]))
          | (apply Wp.cond_lit; (· simp only [go_sem, reduceIte, Nat.reduceEqDiff, Nat.reduceAdd, bx, ax, if_true, if_false, Nat.reduceMul, Nat.reduceLeDiff, g1, g2, h2, h3, e1, Int.toNat_natCast, List.length_map, hat, encV]; exact rfl); (· rfl))
          | refine Wp.skip ?_
          | refine Wp.label ?_
          | refine Wp.block ?_
          | refine Wp.exit ?_
          | refine Wp.seq ?_)
        refine Wp.ret ⟨trivial, _, rfl, ?_⟩
        simp only [go_sem, reduceIte, Nat.reduceEqDiff, Nat.reduceAdd, bx]
        rw [atB, if_pos ⟨hc, hlt⟩]; exact VSub.refl _
    · obtain rfl : j = l.length := by omega
      have g1 : decide (((l.length : Nat) : Int) < ((l.length : Nat) : Int)) = false := decide_eq_false (by omega)
      repeat (first
        | ((first | apply Wp.seqItems | apply Wp.items); (· simp only [go_sem, reduceIte, Nat.reduceEqDiff, Nat.reduceAdd, bx, ax, if_true, if_false, Nat.reduceMul, Nat.reduceLeDiff, g1, List.length_map]; exact rfl))
        | (refine WpItems.nil ⟨?_, ?_⟩; (· first | trivial | simp [pairsQ, pairsOk, apart, ent0]))
        | (apply Wp.cond_lit; (· simp only [go_sem, reduceIte, Nat.reduceEqDiff, Nat.reduceAdd, bx, ax, if_true, if_false, Nat.reduceMul, Nat.reduceLeDiff, g1, List.length_map]; exact rfl); (· rfl))
        | refine Wp.skip ?_
        | refine Wp.label ?_
        | refine Wp.block ?_
        | refine Wp.exit ?_
        | refine Wp.seq ?_)
      refine Wp.ret ⟨trivial, _, rfl, ?_⟩
      simp only [go_sem, reduceIte, Nat.reduceEqDiff, Nat.reduceAdd, bx]
      rw [atB, if_neg (by omega)]; exact VSub.refl _
end Go.Proofs.Ytpehfflehebmbaa.Space
end
section
set_option linter.unusedSimpArgs false
set_option linter.unusedVariables false
set_option maxRecDepth 10000
namespace Go.Proofs.Ytpehfflehebmbaa.Space
open Go Go.Av Go.Proofs Go.Proofs.Ytpehfflehebmbaa.C Go.Proofs.Ytpehfflehebmbaa.Batch
theorem clone_p (l : List Ver) (hl : l.length ≤ 4398046511104) : PCalls Try.prog 64 [.sl 3 (l.map encV) .any] (.sl 3 (l.map encV) .any) :=
  clone_gen (sz := 3) (bytes := 32) f64 (l.map encV) (vers_pure l) (by rw [List.length_map]; omega) (by rw [List.length_map]; omega)
theorem grow_p (k : Nat) (h0 : 0 < k) (hk : k ≤ 4398046511104) (n m : Nat) : ACalls Try.prog 137 [.sl 3 [] (.exact 0), .int .i64 k] (H0 n m) (.sl 3 [] (.own m)) (.only none' [m] (n + 1) (m + 1)) := by
  refine ACalls.thaw (cs := (List.replicate k (AV.agg [.int .i64 0, .str [], .bool false])).flatMap cellsOf) (id := n) (off := 0) ⟨Nat.le_refl _, Nat.lt_succ_self _⟩ ?_
  have key : ∃ r h', ACalls Try.prog 137 [.sl 3 [] (.exact 0), .int .i64 k] (H0 n m) r h' ∧ (r = .tsl 3 n 0 0 none ∧ h' = .only (upd none' n (some (.cells ((List.replicate k (AV.agg [.int .i64 0, .str [], .bool false])).flatMap cellsOf)))) [] (n + 1) m) := by
    refine f137.acalls (by simp) ?_
    unfold c137
    have g1 : decide ((k : Int) < 0) = false := decide_eq_false (by omega)
    have g2 : decide ((0 : Int) < (k : Int)) = true := decide_eq_true (by omega)
    have e0 : IntKind.i64.wrap (((0 : Nat) : Int) - ((0 : Nat) : Int)) = 0 := rfl
    have e1 : IntKind.i64.wrap ((k : Int) - 0) = (k : Int) := by rw [Int.sub_zero]; exact IntWalk.i64_in _ (by omega)
    have h3 : (0 : Int) < (k : Int) := by omega
    have z : ((0 : Nat) : Int) = 0 := rfl
    have r1 : k * 32 ≤ 140737488355328 := by omega
    have r2 : k < 4611686018427387904 := by omega
    repeat (first
      | ((first | apply Wp.seqItemsR | apply Wp.itemsR); (· simp only [go_sem, reduceIte, Nat.reduceEqDiff, Nat.reduceAdd, bx, ax, if_true, if_false, Nat.reduceMul, Nat.reduceLeDiff, g1, g2, e0, e1]; exact rfl))
      | (refine WpItems.nil ⟨?_, ?_⟩; (· first | trivial | simp [pairsQ, pairsOk, apart, ent0]))
      | (apply Wp.cond_lit; (· simp only [go_sem, reduceIte, Nat.reduceEqDiff, Nat.reduceAdd, bx, ax, if_true, if_false, Nat.reduceMul, Nat.reduceLeDiff, g1, g2, e0, e1]; exact rfl); (· rfl))
      | refine Wp.skip ?_
      | refine Wp.label ?_
      | refine Wp.block ?_
      | refine Wp.exit ?_
      | refine Wp.seq ?_)
    refine Wp.regN ?_
    refine WpItemsN.op (by simp only [go_sem, reduceIte, Nat.reduceEqDiff, Nat.reduceAdd, bx]) (by simp only [go_sem, reduceIte, Nat.reduceEqDiff, Nat.reduceAdd, bx]; exact rfl) ?_
    refine WpItemsN.op (by simp only [go_sem, reduceIte, Nat.reduceEqDiff, Nat.reduceAdd, bx]) (by simp only [go_sem, reduceIte, Nat.reduceEqDiff, Nat.reduceAdd, bx]; exact rfl) ?_
    refine WpItemsN.op (by simp only [go_sem, reduceIte, Nat.reduceEqDiff, Nat.reduceAdd, bx]) (by simp only [go_sem, reduceIte, Nat.reduceEqDiff, Nat.reduceAdd, bx]; exact rfl) ?_
    refine WpItemsN.op (by simp only [go_sem, reduceIte, Nat.reduceEqDiff, Nat.reduceAdd, bx]) (by simp only [go_sem, reduceIte, Nat.reduceEqDiff, Nat.reduceAdd, bx, z, Int.le_refl, and_self, if_true, Int.toNat_zero, Nat.sub_self]; exact rfl) ?_
    refine WpItemsN.op (by simp only [go_sem, reduceIte, Nat.reduceEqDiff, Nat.reduceAdd, bx]) (by simp only [go_sem, reduceIte, Nat.reduceEqDiff, Nat.reduceAdd, bx, z, Int.le_refl, and_self, if_true, Int.toNat_zero, Nat.sub_self]; exact rfl) ?_
    refine WpItemsN.opZ (by simp only [go_sem]) (by simp only [aopZ, go_sem, reduceIte, Nat.reduceEqDiff, h3, Int.toNat_natCast, r1, r2, and_self, if_true, true_and]; exact rfl) ?_
    refine WpItemsN.op (by simp only [go_sem, reduceIte, Nat.reduceEqDiff, Nat.reduceAdd, bx]) (by simp only [go_sem, reduceIte, Nat.reduceEqDiff, Nat.reduceAdd, bx, z, Int.le_refl, and_self, if_true, Int.toNat_zero, Nat.sub_self, true_and, Int.toNat_natCast, Int.natCast_nonneg]; exact rfl) ?_
    refine WpItemsN.op (by simp only [go_sem, reduceIte, Nat.reduceEqDiff, Nat.reduceAdd, bx]) (by simp only [go_sem, reduceIte, Nat.reduceEqDiff, Nat.reduceAdd, bx, z, Int.le_refl, and_self, if_true, Int.toNat_zero, Nat.sub_self, true_and, Int.toNat_natCast, Int.natCast_nonneg]; exact rfl) ?_
    refine WpItemsN.op (by simp only [go_sem, reduceIte, Nat.reduceEqDiff, Nat.reduceAdd, bx]) (by simp only [go_sem, reduceIte, Nat.reduceEqDiff, Nat.reduceAdd, bx, z, Int.le_refl, and_self, if_true, Int.toNat_zero, Nat.sub_self, true_and, Int.toNat_natCast, Int.natCast_nonneg]; exact rfl) ?_
    refine WpItemsN.op (by simp only [go_sem, reduceIte, Nat.reduceEqDiff, Nat.reduceAdd, bx]) (by simp only [go_sem, reduceIte, Nat.reduceEqDiff, Nat.reduceAdd, bx, z, Int.le_refl, and_self, if_true, Int.toNat_zero, Nat.sub_self, true_and, Int.toNat_natCast, Int.natCast_nonneg]; exact rfl) ?_
    refine WpItems.toN (log := []) (WpItems.nil ?_)
    repeat (first
      | ((first | apply Wp.seqItemsR | apply Wp.itemsR); (· simp only [go_sem, reduceIte, Nat.reduceEqDiff, Nat.reduceAdd, bx, ax, if_true, if_false, Nat.reduceMul, Nat.reduceLeDiff]; exact rfl))
      | (refine WpItems.nil ⟨?_, ?_⟩; (· first | trivial | simp [pairsQ, pairsOk, apart, ent0]))
      | (apply Wp.cond_lit; (· simp only [go_sem, reduceIte, Nat.reduceEqDiff, Nat.reduceAdd, bx, ax, if_true, if_false, Nat.reduceMul, Nat.reduceLeDiff]; exact rfl); (· rfl))
      | refine Wp.skip ?_
      | refine Wp.label ?_
      | refine Wp.block ?_
      | refine Wp.exit ?_
      | refine Wp.seq ?_)
    exact Wp.ret ⟨trivial, _, rfl, rfl, rfl⟩
  obtain ⟨r, h', hc, rfl, rfl⟩ := key
  exact hc
def addB (l : List Ver) (v : Ver) : List Ver × Int := if chB l = false then ([], 4) else if okV v = false then ([], 2) else if 0 < l.length ∧ v.t ≤ (l.getD 0 default).t then ([], 18) else (v :: l, 0)
end Go.Proofs.Ytpehfflehebmbaa.Space
end
section
set_option linter.unusedSimpArgs false
set_option linter.unusedVariables false
set_option maxRecDepth 10000
namespace Go.Proofs.Ytpehfflehebmbaa.Reads
open Go Go.Av Go.Proofs Go.Proofs.Ytpehfflehebmbaa.C Go.Proofs.Ytpehfflehebmbaa.Batch
abbrev Bs := List UInt8
structure Sp where
  f : Bs
  t : Bs
  deriving DecidableEq
instance : Inhabited Sp := ⟨⟨[], []⟩⟩
def encSp (s : Sp) : AV := .agg [.str s.f, .str s.t]
def sps (l : List Sp) : List AV := l.map encSp
end Go.Proofs.Ytpehfflehebmbaa.Reads
end
section
set_option linter.unusedSimpArgs false
set_option linter.unusedVariables false
set_option maxRecDepth 10000
namespace Go.Proofs.Ytpehfflehebmbaa.Reads
open Go Go.Av Go.Proofs Go.Proofs.Ytpehfflehebmbaa.C Go.Proofs.Ytpehfflehebmbaa.Batch
theorem getD_el {α : Type} {l : List α} {i : Nat} {d : α} (h : i < l.length) : l.getD i d = l[i] := by
  rw [List.getD_eq_getElem?_getD, List.getElem?_eq_getElem h]; rfl
end Go.Proofs.Ytpehfflehebmbaa.Reads
end
section
set_option linter.unusedSimpArgs false
set_option linter.unusedVariables false
set_option maxRecDepth 10000
namespace Go.Proofs.Ytpehfflehebmbaa.Reads
open Go Go.Av Go.Proofs Go.Proofs.Ytpehfflehebmbaa.C Go.Proofs.Ytpehfflehebmbaa.Batch
theorem isNaN_p (a : Bs) : PCalls Try.prog 127 [.str a] (.bool false) := by
  refine f127.pcalls0 (by simp) rfl rfl ?_
  unfold c127
  have h : decide (a = a) = true := decide_eq_true rfl
  repeat (first
    | ((first | apply Wp.seqItems | apply Wp.items); (· simp only [go_sem, reduceIte, Nat.reduceEqDiff, Nat.reduceAdd, bx, ax, if_true, if_false, Nat.reduceMul, Nat.reduceLeDiff, h]; exact rfl))
    | (refine WpItems.nil ⟨?_, ?_⟩; (· first | trivial | simp [pairsQ, pairsOk, apart, ent0]))
    | (apply Wp.cond_lit; (· simp only [go_sem, reduceIte, Nat.reduceEqDiff, Nat.reduceAdd, bx, ax, if_true, if_false, Nat.reduceMul, Nat.reduceLeDiff, h]; exact rfl); (· rfl))
    | refine Wp.skip ?_
    | refine Wp.label ?_
    | refine Wp.block ?_
    | refine Wp.exit ?_
    | refine Wp.seq ?_)
  refine Wp.ret ⟨trivial, _, rfl, ?_⟩
  simp only [go_sem, reduceIte, Nat.reduceEqDiff, Nat.reduceAdd, bx]
  exact VSub.refl _
theorem isNaN2_p (a : Bs) : PCalls Try.prog 144 [.str a] (.bool false) := by
  refine f144.pcalls0 (by simp) rfl rfl ?_
  unfold c144
  have h : decide (a = a) = true := decide_eq_true rfl
  repeat (first
    | ((first | apply Wp.seqItems | apply Wp.items); (· simp only [go_sem, reduceIte, Nat.reduceEqDiff, Nat.reduceAdd, bx, ax, if_true, if_false, Nat.reduceMul, Nat.reduceLeDiff, h]; exact rfl))
    | (refine WpItems.nil ⟨?_, ?_⟩; (· first | trivial | simp [pairsQ, pairsOk, apart, ent0]))
    | (apply Wp.cond_lit; (· simp only [go_sem, reduceIte, Nat.reduceEqDiff, Nat.reduceAdd, bx, ax, if_true, if_false, Nat.reduceMul, Nat.reduceLeDiff, h]; exact rfl); (· rfl))
    | refine Wp.skip ?_
    | refine Wp.label ?_
    | refine Wp.block ?_
    | refine Wp.exit ?_
    | refine Wp.seq ?_)
  refine Wp.ret ⟨trivial, _, rfl, ?_⟩
  simp only [go_sem, reduceIte, Nat.reduceEqDiff, Nat.reduceAdd, bx]
  exact VSub.refl _
theorem less_p (a b : Bs) : PCalls Try.prog 126 [.str a, .str b] (.bool (Op.bytesLess a b)) := by
  refine f126.pcalls0 (by simp) rfl rfl ?_
  unfold c126
  repeat (first
    | ((first | apply Wp.seqItems | apply Wp.items | ((first
        | (refine WpItems.pcall ?_ ?_ (isNaN2_p a) ?_; (· simp only [go_sem, reduceIte, Nat.reduceEqDiff, Nat.reduceAdd, bx]); (· simp only [go_sem, reduceIte, Nat.reduceEqDiff, Nat.reduceAdd, bx, List.map]; first | exact VSubs.refl _ | (repeat (first | exact VSubs.nil | refine VSubs.cons (by first | exact VSub.refl _ | assumption | exact VSub.cap | exact VSub.any _) ?_))))); apply WpItems.eval)); (· simp only [go_sem, reduceIte, Nat.reduceEqDiff, Nat.reduceAdd, bx, ax, if_true, if_false, Nat.reduceMul, Nat.reduceLeDiff]; exact rfl))
    | (refine WpItems.nil ⟨?_, ?_⟩; (· first | trivial | simp [pairsQ, pairsOk, apart, ent0]))
    | (apply Wp.cond_lit; (· simp only [go_sem, reduceIte, Nat.reduceEqDiff, Nat.reduceAdd, bx, ax, if_true, if_false, Nat.reduceMul, Nat.reduceLeDiff]; exact rfl); (· rfl))
    | refine Wp.skip ?_
    | refine Wp.label ?_
    | refine Wp.block ?_
    | refine Wp.exit ?_
    | refine Wp.seq ?_)
  refine Wp.ret ⟨trivial, _, rfl, ?_⟩
  simp only [go_sem, reduceIte, Nat.reduceEqDiff, Nat.reduceAdd, bx]
  exact VSub.refl _
theorem bsearch_p (l : List Bs) (hl : l.length ≤ 1152921504606846976) (key : Bs) (r : Nat) (hr : r ≤ l.length) (h0 : ∀ i, i < r → Op.bytesLess (l.getD i []) key = true) (h1 : ∀ i, r ≤ i → i < l.length → Op.bytesLess (l.getD i []) key = false) :
    PCalls Try.prog 81 [.sl 1 (strs l) .any, .str key] (.tup [.int .i64 r, .bool (decide (r < l.length) && decide (l.getD r [] = key))]) := by
  refine f81.pcalls0 (by simp) (by simp [allPure, isPure, capPure, strs_pure]) (by simp [allPure, isPure]) ?_
  unfold c81
  refine Wp.seqReg (by simp only [go_sem, reduceIte, Nat.reduceEqDiff, Nat.reduceAdd, bx]; exact rfl) (by trivial) ?_
  refine Wp.seqReg (by simp only [go_sem, reduceIte, Nat.reduceEqDiff, Nat.reduceAdd, bx, strs_length]; exact rfl) (by trivial) ?_
  refine Wp.seqReg (by simp only [go_sem, reduceIte, Nat.reduceEqDiff, Nat.reduceAdd, bx]; exact rfl) (by trivial) ?_
  refine Wp.seq ?_
  refine Wp.block ?_
  refine Wp.loopK [0, 1, 6] (by simp only [go_sem, reduceIte, Nat.reduceEqDiff, Nat.reduceAdd, bx, List.map]; exact rfl) (fun j : Nat × Nat => [(7, .int .i64 j.1), (8, .int .i64 j.2)]) (fun j => j.1 ≤ r ∧ r ≤ j.2 ∧ j.2 ≤ l.length) (fun j => j.2 - j.1) (0, l.length) ⟨Nat.zero_le _, hr, Nat.le_refl _⟩ ?_ ?_
  · simp only [AllSub, go_sem, reduceIte, Nat.reduceEqDiff, Nat.reduceAdd, bx]; and_intros <;> first | exact trivial | exact VSub.refl _ | exact VSub.any _ | (refine VSub.int ?_; omega)
  · rintro ⟨i, j⟩ ⟨a1, a2, a3⟩
    simp only at a1 a2 a3
    refine Wp.seq ?_
    refine Wp.seqReg (by simp only [go_sem, reduceIte, Nat.reduceEqDiff, Nat.reduceAdd, bx]; exact rfl) (by trivial) ?_
    refine Wp.cond_split (b := decide ((i : Int) < (j : Int))) (by simp only [go_sem, reduceIte, Nat.reduceEqDiff, Nat.reduceAdd, bx]) (fun hc => ?_) (fun hc => ?_)
    · have hc' : (i : Int) < (j : Int) := by simpa using hc
      have e1 : IntKind.i64.wrap ((i : Int) + (j : Int)) = ((i + j : Nat) : Int) := by rw [IntWalk.i64_in _ (by omega)]; omega
      have e2 : IntKind.u64.wrap ((i + j : Nat) : Int) = ((i + j : Nat) : Int) := IntWalk.u64_in _ (by omega)
      have e3 : ((i + j : Nat) : Int).fdiv (2 ^ (min (Int.toNat 1) 64)) = (((i + j) / 2 : Nat) : Int) := by
        rw [show min (Int.toNat 1) 64 = 1 from rfl, Int.fdiv_eq_ediv_of_nonneg _ (by omega)]
        omega
      have e4 : IntKind.i64.wrap (((i + j) / 2 : Nat) : Int) = (((i + j) / 2 : Nat) : Int) := IntWalk.i64_in _ (by omega)
      have e5 : ¬ (1 : Int) < 0 := by omega
      have p1 : (0 : Int) ≤ (((i + j) / 2 : Nat) : Int) := by omega
      have p2 : (((i + j) / 2 : Nat) : Int) < (l.length : Int) := by omega
      have p3 : (i + j) / 2 < l.length := by omega
      refine Wp.skip ?_
      refine Wp.block ?_
      refine Wp.seqReg (by simp only [go_sem, reduceIte, Nat.reduceEqDiff, Nat.reduceAdd, bx, e1, e2, IntKind.bits, e3, e4, e5]; exact rfl) (by trivial) ?_
      by_cases hh : (i + j) / 2 < r
      · have hs := h0 _ hh
        repeat (first
          | ((first | apply Wp.seqItems | apply Wp.items | ((first
              | (refine WpItems.pcall ?_ ?_ (less_p (l.getD ((i + j) / 2) []) key) ?_; (· simp only [go_sem, reduceIte, Nat.reduceEqDiff, Nat.reduceAdd, bx]); (· simp only [go_sem, reduceIte, Nat.reduceEqDiff, Nat.reduceAdd, bx, List.map]; first | exact VSubs.refl _ | (repeat (first | exact VSubs.nil | refine VSubs.cons (by first | exact VSub.refl _ | assumption | exact VSub.cap | exact VSub.any _) ?_))))); apply WpItems.eval)); (· simp only [go_sem, reduceIte, Nat.reduceEqDiff, Nat.reduceAdd, bx, ax, if_true, if_false, Nat.reduceMul, Nat.reduceLeDiff, strs_length, p1, p2, Int.toNat_natCast, strs_getD _ _ _ p3, hs, IntWalk.i64_in]; exact rfl))
          | (refine WpItems.nil ⟨?_, ?_⟩; (· first | trivial | simp [pairsQ, pairsOk, apart, ent0]))
          | (apply Wp.cond_lit; (· simp only [go_sem, reduceIte, Nat.reduceEqDiff, Nat.reduceAdd, bx, ax, if_true, if_false, Nat.reduceMul, Nat.reduceLeDiff, strs_length, p1, p2, Int.toNat_natCast, strs_getD _ _ _ p3, hs, IntWalk.i64_in]; exact rfl); (· rfl))
          | refine Wp.skip ?_
          | refine Wp.label ?_
          | refine Wp.block ?_
          | refine Wp.exit ?_
          | refine Wp.seq ?_)
        refine ⟨((i + j) / 2 + 1, j), ⟨by simp only; omega, by simp only; omega, by simp only; omega⟩, by simp only; omega, ?_⟩
        have e6 : IntKind.i64.wrap ((((i + j) / 2 : Nat) : Int) + 1) = (((i + j) / 2 + 1 : Nat) : Int) := by rw [IntWalk.i64_in _ (by omega)]; omega
        refine StLe.tm (by simp only [AllSub, go_sem, reduceIte, Nat.reduceEqDiff, Nat.reduceAdd, bx, e6]; and_intros <;> first | exact trivial | exact VSub.refl _ | exact VSub.any _ | (refine VSub.int ?_; omega))
      · have hs := h1 _ (by omega) p3
        repeat (first
          | ((first | apply Wp.seqItems | apply Wp.items | ((first
              | (refine WpItems.pcall ?_ ?_ (less_p (l.getD ((i + j) / 2) []) key) ?_; (· simp only [go_sem, reduceIte, Nat.reduceEqDiff, Nat.reduceAdd, bx]); (· simp only [go_sem, reduceIte, Nat.reduceEqDiff, Nat.reduceAdd, bx, List.map]; first | exact VSubs.refl _ | (repeat (first | exact VSubs.nil | refine VSubs.cons (by first | exact VSub.refl _ | assumption | exact VSub.cap | exact VSub.any _) ?_))))); apply WpItems.eval)); (· simp only [go_sem, reduceIte, Nat.reduceEqDiff, Nat.reduceAdd, bx, ax, if_true, if_false, Nat.reduceMul, Nat.reduceLeDiff, strs_length, p1, p2, Int.toNat_natCast, strs_getD _ _ _ p3, hs]; exact rfl))
          | (refine WpItems.nil ⟨?_, ?_⟩; (· first | trivial | simp [pairsQ, pairsOk, apart, ent0]))
          | (apply Wp.cond_lit; (· simp only [go_sem, reduceIte, Nat.reduceEqDiff, Nat.reduceAdd, bx, ax, if_true, if_false, Nat.reduceMul, Nat.reduceLeDiff, strs_length, p1, p2, Int.toNat_natCast, strs_getD _ _ _ p3, hs]; exact rfl); (· rfl))
          | refine Wp.skip ?_
          | refine Wp.label ?_
          | refine Wp.block ?_
          | refine Wp.exit ?_
          | refine Wp.seq ?_)
        refine ⟨(i, (i + j) / 2), ⟨by simp only; omega, by simp only; omega, by simp only; omega⟩, by simp only; omega, ?_⟩
        refine StLe.tm (by simp only [AllSub, go_sem, reduceIte, Nat.reduceEqDiff, Nat.reduceAdd, bx]; and_intros <;> first | exact trivial | exact VSub.refl _ | exact VSub.any _ | (refine VSub.int ?_; omega))
    · have hc' : ¬ (i : Int) < (j : Int) := by simpa using hc
      obtain rfl : i = r := by omega
      refine Wp.exit ?_
      have p1 : (0 : Int) ≤ (i : Int) := by omega
      by_cases hlt : i < l.length
      · have d1 : decide ((i : Int) < (l.length : Int)) = true := decide_eq_true (by omega)
        have p2 : (i : Int) < (l.length : Int) := by omega
        cases he : decide (l.getD i [] = key) with
        | true =>
          repeat (first
            | ((first | apply Wp.seqItems | apply Wp.items); (· simp only [go_sem, reduceIte, Nat.reduceEqDiff, Nat.reduceAdd, bx, ax, if_true, if_false, Nat.reduceMul, Nat.reduceLeDiff, d1, p1, p2, strs_length, Int.toNat_natCast, strs_getD _ _ _ hlt, he]; exact rfl))
            | (refine WpItems.nil ⟨?_, ?_⟩; (· first | trivial | simp [pairsQ, pairsOk, apart, ent0]))
            | (apply Wp.cond_lit; (· simp only [go_sem, reduceIte, Nat.reduceEqDiff, Nat.reduceAdd, bx, ax, if_true, if_false, Nat.reduceMul, Nat.reduceLeDiff, d1, p1, p2, strs_length, Int.toNat_natCast, strs_getD _ _ _ hlt, he]; exact rfl); (· rfl))
            | refine Wp.skip ?_
            | refine Wp.label ?_
            | refine Wp.block ?_
            | refine Wp.exit ?_
            | refine Wp.seq ?_)
          refine Wp.ret ⟨trivial, _, rfl, ?_⟩
          simp only [go_sem, reduceIte, Nat.reduceEqDiff, Nat.reduceAdd, bx]
          simp only [decide_eq_true hlt, Bool.true_and]
          exact VSub.refl _
        | false =>
          repeat (first
            | ((first | apply Wp.seqItems | apply Wp.items | ((first
                | (refine WpItems.pcall ?_ ?_ (isNaN_p (l.getD i [])) ?_; (· simp only [go_sem, reduceIte, Nat.reduceEqDiff, Nat.reduceAdd, bx]); (· simp only [go_sem, reduceIte, Nat.reduceEqDiff, Nat.reduceAdd, bx, List.map]; first | exact VSubs.refl _ | (repeat (first | exact VSubs.nil | refine VSubs.cons (by first | exact VSub.refl _ | assumption | exact VSub.cap | exact VSub.any _) ?_))))); apply WpItems.eval)); (· simp only [go_sem, reduceIte, Nat.reduceEqDiff, Nat.reduceAdd, bx, ax, if_true, if_false, Nat.reduceMul, Nat.reduceLeDiff, d1, p1, p2, strs_length, Int.toNat_natCast, strs_getD _ _ _ hlt, he]; exact rfl))
            | (refine WpItems.nil ⟨?_, ?_⟩; (· first | trivial | simp [pairsQ, pairsOk, apart, ent0]))
            | (apply Wp.cond_lit; (· simp only [go_sem, reduceIte, Nat.reduceEqDiff, Nat.reduceAdd, bx, ax, if_true, if_false, Nat.reduceMul, Nat.reduceLeDiff, d1, p1, p2, strs_length, Int.toNat_natCast, strs_getD _ _ _ hlt, he]; exact rfl); (· rfl))
            | refine Wp.skip ?_
            | refine Wp.label ?_
            | refine Wp.block ?_
            | refine Wp.exit ?_
            | refine Wp.seq ?_)
          refine Wp.ret ⟨trivial, _, rfl, ?_⟩
          simp only [go_sem, reduceIte, Nat.reduceEqDiff, Nat.reduceAdd, bx]
          simp only [decide_eq_true hlt, Bool.true_and]
          exact VSub.refl _
      · have d1 : decide ((i : Int) < (l.length : Int)) = false := decide_eq_false (by omega)
        repeat (first
          | ((first | apply Wp.seqItems | apply Wp.items); (· simp only [go_sem, reduceIte, Nat.reduceEqDiff, Nat.reduceAdd, bx, ax, if_true, if_false, Nat.reduceMul, Nat.reduceLeDiff, d1]; exact rfl))
          | (refine WpItems.nil ⟨?_, ?_⟩; (· first | trivial | simp [pairsQ, pairsOk, apart, ent0]))
          | (apply Wp.cond_lit; (· simp only [go_sem, reduceIte, Nat.reduceEqDiff, Nat.reduceAdd, bx, ax, if_true, if_false, Nat.reduceMul, Nat.reduceLeDiff, d1]; exact rfl); (· rfl))
          | refine Wp.skip ?_
          | refine Wp.label ?_
          | refine Wp.block ?_
          | refine Wp.exit ?_
          | refine Wp.seq ?_)
        refine Wp.ret ⟨trivial, _, rfl, ?_⟩
        simp only [go_sem, reduceIte, Nat.reduceEqDiff, Nat.reduceAdd, bx]
        simp only [decide_eq_false hlt, Bool.false_and]
        exact VSub.refl _
end Go.Proofs.Ytpehfflehebmbaa.Reads
end
section
set_option linter.unusedSimpArgs false
set_option linter.unusedVariables false
set_option maxRecDepth 10000
namespace Go.Proofs.Ytpehfflehebmbaa.Reads
open Go Go.Av Go.Proofs Go.Proofs.Ytpehfflehebmbaa.C Go.Lib Go.RowKit
def lays22_ren : Go.Shelf.Ren := ⟨fun | 22 => 82 | 29 => 128 | 30 => 129 | 36 => 145 | 17 => 146 | n => n, fun | 24 => 37 | 9 => 9 | 3 => 3 | 4 => 4 | 0 => 0 | n => n, fun | n => n⟩
theorem lays22 : Lays2.n22 Try.prog lays22_ren where
  mixed := by kernel_rfl
  f17 := Try.func146.trans (congrArg some (by kernel_rfl))
  f22 := Try.func82.trans (congrArg some (by kernel_rfl))
  f29 := Try.func128.trans (congrArg some (by kernel_rfl))
  f30 := Try.func129.trans (congrArg some (by kernel_rfl))
  f36 := Try.func145.trans (congrArg some (by kernel_rfl))
  t0 := Try.underlying0
  a0 := Try.isAgg0
  z0 := Try.sizeOf0
  v0 := Try.zeroValue0
  t3 := Try.underlying3
  a3 := Try.isAgg3
  z3 := Try.sizeOf3
  v3 := Try.zeroValue3
  t4 := Try.underlying4
  a4 := Try.isAgg4
  z4 := Try.sizeOf4
  v4 := Try.zeroValue4
  t9 := Try.underlying9
  a9 := Try.isAgg9
  z9 := Try.sizeOf9
  v9 := Try.zeroValue9
  t24 := Try.underlying37
  a24 := Try.isAgg37
  z24 := Try.sizeOf37
  v24 := Try.zeroValue37
  i9 := by kernel_rfl
def sv (l : List (List UInt8)) : List Value := l.map fun s => .string ⟨s.toArray⟩
theorem sv_length (l : List (List UInt8)) : (sv l).length = l.length := by simp [sv]
theorem sv_of {G : Ghost} {w : World} : ∀ {l : List (List UInt8)} {vs : List Value}, VRels G w (strs l) vs → vs = sv l
  | [], vs, h => by simpa [strs, VRels, sv] using h
  | s :: l, vs, h => by
    simp only [strs, List.map_cons, VRels, VRel] at h
    obtain ⟨v, us, rfl, rfl, h⟩ := h
    rw [sv_of (l := l) h]
    rfl
theorem sv_rels (l : List (List UInt8)) (G : Ghost) (w : World) : VRels G w (strs l) (sv l) := by
  induction l with
  | nil => simp [strs, sv, VRels]
  | cons s l ih =>
    simp only [strs, sv, List.map_cons, VRels]
    exact ⟨.string ⟨s.toArray⟩, sv l, rfl, by simp [VRel], ih⟩
theorem sv_one {l : List (List UInt8)} {v : Value} (h : v ∈ sv l) : One v := by
  obtain ⟨s, _, rfl⟩ := List.mem_map.1 h
  exact ⟨(fun _ e => by cases e), (fun _ e => by cases e)⟩
theorem sv_one' {l : List (List UInt8)} {v : Value} (h : v ∈ sv l) : v.oneCell' = true := by
  obtain ⟨s, _, rfl⟩ := List.mem_map.1 h
  rfl
theorem cell_of {w : World} {B : Nat} {T : TypeId} {fr : Nat × Nat} {L R : List Value} (hg : w.heap[B]? = some (.cells (L ++ R).toArray T fr)) (j : Nat) (v : Value) (h : L[j]? = some v) : w.cell? ⟨B, 0 + j, none⟩ = some v := by
  have hj := (List.getElem?_eq_some_iff.1 h).1
  unfold World.cell?
  simp only [hg, Nat.zero_add]
  simpa [List.getElem?_append_left hj] using h
theorem sv_insert (l : List (List UInt8)) (i : Nat) (x : List UInt8) : sv (l.take i ++ x :: l.drop i) = (sv l).take i ++ .string ⟨x.toArray⟩ :: (sv l).drop i := by simp [sv]
theorem ins_end {A R : List Value} {X : Value} {n : Nat} (hn : A.length = n) : (A ++ R).take (0 + n) ++ [X] ++ (A ++ R).drop (0 + n + 1) = A.take n ++ X :: A.drop n ++ R.drop 1 := by
  subst hn
  rw [Nat.zero_add, List.take_left, List.take_length, List.drop_length, List.drop_append, List.drop_eq_nil_of_le (by omega)]
  simp
theorem ins_mid {A R : List Value} {X : Value} {n i : Nat} (hn : A.length = n) (hi : i < n) :
    ((A ++ R).take (0 + (i + 1)) ++ A.drop i ++ (A ++ R).drop (0 + (i + 1) + (A.drop i).length)).take (0 + i) ++ [X] ++ ((A ++ R).take (0 + (i + 1)) ++ A.drop i ++ (A ++ R).drop (0 + (i + 1) + (A.drop i).length)).drop (0 + i + 1) = A.take i ++ X :: A.drop i ++ (A ++ R).drop (n + 1) := by
  subst hn
  have e2 : ((A ++ R).take (i + 1)).length = i + 1 := by simp; omega
  have e1 : ((A ++ R).take (i + 1)).take i = A.take i := by
    rw [List.take_take, Nat.min_eq_left (by omega), List.take_append_of_le_length (by omega)]
  have e3 : i + 1 + (A.drop i).length = A.length + 1 := by simp; omega
  rw [Nat.zero_add, Nat.zero_add, e3]
  have c1 : ((A ++ R).take (i + 1) ++ A.drop i ++ (A ++ R).drop (A.length + 1)).take i = A.take i := by
    rw [List.append_assoc, List.take_append_of_le_length (by omega), e1]
  have c2 : ((A ++ R).take (i + 1) ++ A.drop i ++ (A ++ R).drop (A.length + 1)).drop (i + 1) = A.drop i ++ (A ++ R).drop (A.length + 1) := by
    rw [List.append_assoc, List.drop_append, e2, List.drop_eq_nil_of_le (by omega), Nat.sub_self, List.drop_zero, List.nil_append]
  rw [c1, c2]
  simp
theorem ins_grow {A Z : List Value} {X : Value} {n i : Nat} (hn : A.length = n) (hi : i < n) :
    ((A.take i ++ Z).take i ++ [X] ++ (A.take i ++ Z).drop (i + 1)).take (i + 1) ++ A.drop i ++ ((A.take i ++ Z).take i ++ [X] ++ (A.take i ++ Z).drop (i + 1)).drop (i + 1 + (A.drop i).length) = A.take i ++ X :: A.drop i ++ ((A.take i ++ Z).take i ++ [X] ++ (A.take i ++ Z).drop (i + 1)).drop (i + 1 + (A.drop i).length) := by
  subst hn
  have e2 : (A.take i).length = i := by simp; omega
  have e1 : (A.take i ++ Z).take i = A.take i := by
    rw [List.take_append_of_le_length (by omega), List.take_take, Nat.min_self]
  have e4 : ((A.take i ++ Z).take i ++ [X] ++ (A.take i ++ Z).drop (i + 1)).take (i + 1) = A.take i ++ [X] := by
    rw [e1, List.take_append_of_le_length (by simp; omega), List.take_of_length_le (by simp; omega)]
  rw [e4]
  simp
theorem grown_le {w : World} {n old : Nat} {e : TypeId} (h : n ≤ 1099511627777) : grownCap w n old e ≤ 9223372036854775807 := by
  have := Nat.mod_lt (w.tape w.drawn (.appendCap n old e)) (show 0 < 2 ^ 63 - n by omega)
  simp only [grownCap, Question.cut]
  omega
theorem insert_t (l : List (List UInt8)) (i : Nat) (x : List UInt8) (hi : i ≤ l.length) (hl : l.length < 1099511627776) (h0 : 0 < l.length) {id id2 : Nat} (hne : id ≠ id2) {h : H} (ho : h.objs id = some (.cells (strs l))) (ho2 : h.objs id2 = some (.cells [.str x])) (htk : h.toks = []) :
    ACalls Try.prog 82 [.tsl 1 id 0 l.length none, .int .i64 i, .tsl 1 id2 0 1 none] h (.tsl 1 h.n 0 (l.length + 1) none) (h.turn id (.cells (strs (l.take i ++ x :: l.drop i)))) := by
  intro G w vs hv R F
  simp only [VRels, VRel] at hv
  obtain ⟨v1, _, rfl, ⟨hd1, hv1⟩, v2, _, rfl, rfl, v3, _, rfl, ⟨hd2, hv3⟩, rfl⟩ := hv
  obtain ⟨C, c, T, fr, rfl, ⟨hnC, hc63⟩, -, hg, hroom⟩ | ⟨hz, -⟩ := hv1
  rotate_left
  · omega
  obtain ⟨C2, c2, T2, fr2, rfl, ⟨hnC2, -⟩, -, hg2, hroom2⟩ | ⟨hz, -⟩ := hv3
  rotate_left
  · omega
  obtain ⟨-, hown, hB, us, rest, T', fr', hg', hvs, hfr, -⟩ := R.obj id _ ho
  obtain ⟨-, hown2, hB2, us2, rest2, T2', fr2', hg2', hvs2, hfr2, -⟩ := R.obj id2 _ ho2
  have hus := sv_of hvs
  subst hus
  have hus2 : us2 = [.string ⟨x.toArray⟩] := by
    simp only [VRels, VRel] at hvs2
    obtain ⟨v, _, rfl, rfl, rfl⟩ := hvs2
    rfl
  subst hus2
  have hbb : G.ι id2 ≠ G.ι id := fun e => hne (R.inj _ _ _ _ ho ho2 e.symm)
  rw [hg] at hg'
  obtain ⟨rfl, rfl, rfl⟩ : c = (sv l ++ rest).toArray ∧ T = T' ∧ fr = fr' := by simpa using hg'
  rw [hg2] at hg2'
  obtain ⟨rfl, rfl, rfl⟩ : c2 = ([Value.string ⟨x.toArray⟩] ++ rest2).toArray ∧ T2 = T2' ∧ fr2 = fr2' := by simpa using hg2'
  have hsl := sv_length l
  have hrl : C ≤ l.length + rest.length := by simpa [hsl] using hroom
  have hcs : ∀ (j : Nat) v, (sv l)[j]? = some v → w.cell? ⟨G.ι id, 0 + j, none⟩ = some v := fun j v => cell_of hg j v
  have hvs' : ∀ (j : Nat) v, ([Value.string ⟨x.toArray⟩] : List Value)[j]? = some v → w.cell? ⟨G.ι id2, 0 + j, none⟩ = some v := fun j v => cell_of hg2 j v
  have h1v : ∀ v ∈ ([Value.string ⟨x.toArray⟩] : List Value), v.oneCell' = true := by simp [Value.oneCell']
  have hsome : ∀ j, j < C → (w.cell? ⟨G.ι id, 0 + j, none⟩).isSome = true := fun j hj => by
    unfold World.cell?; simp only [hg]; simp [hsl]; omega
  have hfz : ∀ j, w.frozen? ⟨G.ι id, j, none⟩ = false := fun j => by
    unfold World.frozen?; simp only [hg]
    have := hfr j
    simp; omega
  have hfz2 : ∀ j, w.frozen? ⟨G.ι id2, j, none⟩ = false := fun j => by
    unfold World.frozen?; simp only [hg2]
    have := hfr2 j
    simp; omega
  have hfrn : ¬ G.dom h.n := F.1 _ (Nat.le_refl _) (Nat.lt_succ_self _)
  have hout : (strs (l.take i ++ x :: l.drop i)).length = l.length + 1 := by simp [strs]; omega
  have hso : (sv (l.take i ++ x :: l.drop i)).length = l.length + 1 := by rw [sv_length]; simp; omega
  -- a world in which the row stands in a new block
  have newb : ∀ (w' : World) (L2 : List Value) (T0 : TypeId) (C0 : Nat), l.length + 1 ≤ C0 → C0 ≤ 9223372036854775807 → C0 ≤ l.length + 1 + L2.length → w'.heap[w.heap.size]? = some (.cells (sv (l.take i ++ x :: l.drop i) ++ L2).toArray T0 (0, 0)) → w.heap.size ≤ w'.heap.size → w'.os = w.os → w'.output = w.output → (∀ b, b < w.heap.size → w'.heap[b]? = w.heap[b]?) →
      ∃ v G', Ending.returned (.slice (some ⟨w.heap.size, 0, none⟩) (l.length + 1) C0) = .returned v ∧ Trans G w h G' w' (h.turn id (.cells (strs (l.take i ++ x :: l.drop i)))) ∧ RepH G' (h.turn id (.cells (strs (l.take i ++ x :: l.drop i)))) w' ∧ VRel G' w' (.tsl 1 h.n 0 (l.length + 1) none) v := by
    intro w' L2 T0 C0 q1 q7 q8 q2 q3 q4 q5 q6
    obtain ⟨G', T1, R1, V⟩ := row_new (B := w.heap.size) (C := C0) (w' := w') R ho htk hfrn q3 q4 q5 (fun b hb _ => q6 b hb) (by rw [q6 _ hB]; exact SameForm.refl _) (.inr (Nat.le_refl _)) ⟨by rw [hout]; exact q1, q7⟩ (by rw [hso, hout]) (sv_rels _) (fun v hv => sv_one hv) q2 (by rw [hso]; exact q8) (fun j => by simp)
    exact ⟨_, G', rfl, T1, R1, by rw [hout] at V; exact V⟩
  -- a world in which it stands in its own block
  have inpl : ∀ (w' : World) (L2 : List Value), w'.heap[G.ι id]? = some (.cells (sv (l.take i ++ x :: l.drop i) ++ L2).toArray T fr) → (sv (l.take i ++ x :: l.drop i) ++ L2).length = (sv l ++ rest).length → w'.heap.size = w.heap.size → w'.os = w.os → w'.output = w.output → (∀ b, b ≠ G.ι id → w'.heap[b]? = w.heap[b]?) → l.length + 1 ≤ C →
      ∃ v G', Ending.returned (.slice (some ⟨G.ι id, 0, none⟩) (l.length + 1) C) = .returned v ∧ Trans G w h G' w' (h.turn id (.cells (strs (l.take i ++ x :: l.drop i)))) ∧ RepH G' (h.turn id (.cells (strs (l.take i ++ x :: l.drop i)))) w' ∧ VRel G' w' (.tsl 1 h.n 0 (l.length + 1) none) v := by
    intro w' L2 q1 q2 q3 q4 q5 q6 q7
    obtain ⟨G', T1, R1, V⟩ := row_new (B := G.ι id) (C := C) (w' := w') R ho htk hfrn (Nat.le_of_eq q3.symm) q4 q5 (fun b _ hb => q6 b hb) (by rw [hg, q1]; exact ⟨_, rfl, by simpa using q2⟩) (.inl rfl) ⟨by rw [hout]; exact q7, hc63⟩ (by rw [hso, hout]) (sv_rels _) (fun v hv => sv_one hv) q1 (by rw [List.length_append, List.length_append, hsl] at q2; omega) hfr
    exact ⟨_, G', rfl, T1, R1, by rw [hout] at V; exact V⟩
  by_cases hfit : l.length + 1 ≤ C
  · by_cases hie : i = l.length
    · subst hie
      refine (Any2.slices_Insert_string_end_room lays22 (G.ι id) 0 l.length C (G.ι id2) 0 1 C2 [.string ⟨x.toArray⟩] w (by omega) hfit hc63 rfl (fun j hj => by have := hsome (l.length + j) (by omega); rwa [← Nat.add_assoc] at this) (fun j hj => hfz _) hvs' h1v).mono ?_
      rintro e w' ⟨rfl, rfl⟩
      obtain ⟨a1, a2, a3, a4, a5⟩ := setCells_heap (G.ι id) T fr [.string ⟨x.toArray⟩] (0 + l.length) (sv l ++ rest) w hg (by simp [hsl]; omega)
      refine inpl _ (rest.drop 1) ?_ ?_ a3 a4 a5 a2 hfit
      · rw [a1, sv_insert, List.length_singleton, ins_end hsl]
      · rw [List.length_append, List.length_append, hso, hsl, List.length_drop]; omega
    · have hlt : i < l.length := by omega
      refine (Any2.slices_Insert_string_shift lays22 (G.ι id) 0 l.length C i (G.ι id2) 0 1 C2 (sv l) [.string ⟨x.toArray⟩] w hlt (by omega) hfit hc63 hbb hsl rfl hcs (fun j hj => hsome j (by omega)) (fun j hj => hfz _) hvs' (fun v hv => sv_one' hv) h1v T2 T ([Value.string ⟨x.toArray⟩] ++ rest2).toArray.size (sv l ++ rest).toArray.size (by unfold World.shape?; simp only [hg2]) (by unfold World.shape?; simp only [hg]) (by rw [List.size_toArray, List.length_append, hsl]; omega) (hfz2 _) (hfz2 _)).mono ?_
      rintro e w' ⟨rfl, rfl⟩
      obtain ⟨a1, a2, a3, a4, a5⟩ := setCells_heap (G.ι id) T fr ((sv l).drop i) (0 + (i + 1)) (sv l ++ rest) w.drew hg (by simp [hsl]; omega)
      obtain ⟨b1, b2, b3, b4, b5⟩ := setCells_heap (G.ι id) T fr [.string ⟨x.toArray⟩] (0 + i) _ _ a1 (by simp [hsl]; omega)
      refine inpl _ ((sv l ++ rest).drop (l.length + 1)) ?_ ?_ (b3.trans a3) (b4.trans a4) (b5.trans a5) (fun b hb => (b2 b hb).trans (a2 b hb)) hfit
      · rw [b1, sv_insert, List.length_singleton, ins_mid hsl hlt]
      · rw [List.length_append, hso, List.length_drop, List.length_append, hsl]; omega
  · have hCl : C = l.length := by omega
    subst hCl
    have hbig : (l.length + 1) * 16 ≤ 140737488355328 := by omega
    have hgc : ∀ e, l.length + 1 ≤ grownCap w (l.length + 1) l.length e := fun e => by simp [grownCap, Question.cut]
    by_cases hie : i = l.length
    · subst hie
      refine (Any2.slices_Insert_string_end_grow lays22 (some ⟨G.ι id, 0, none⟩) l.length l.length (G.ι id2) 0 1 C2 (sv l) [.string ⟨x.toArray⟩] w (by omega) (Nat.le_refl _) (by omega) hbig hsl rfl (fun e => by cases e) (fun a ha j v hj => by cases ha; rw [Addr.add_lit]; exact hcs j v hj) hvs' h1v).mono ?_
      rintro e w' ⟨rfl, rfl⟩
      have hgc' := hgc (lays22_ren.t 9)
      have hgl : grownCap w (l.length + 1) l.length (lays22_ren.t 9) ≤ 9223372036854775807 := grown_le (by omega)
      generalize grownCap w (l.length + 1) l.length (lays22_ren.t 9) = C0 at hgc' hgl ⊢
      have hZs : (Builtin.zeroCells (Value.string ⟨#[]⟩).cells (C0 - (l.length + 1))).toList.length = C0 - (l.length + 1) := by
        have hz : (Value.string ⟨#[]⟩).cells.size = 1 := rfl
        generalize (Value.string ⟨#[]⟩).cells = zc at hz
        simp [Builtin.zeroCells, hz]
      generalize Builtin.zeroCells (Value.string ⟨#[]⟩).cells (C0 - (l.length + 1)) = Zc at hZs ⊢
      refine newb _ Zc.toList (lays22_ren.t 9) _ hgc' hgl (by omega) ?_ ?_ rfl rfl ?_
      · show (w.heap.push _)[w.heap.size]? = _
        rw [Array.getElem?_push_size]
        refine congrArg some (congrArg (fun c => Go.Obj.cells c _ (0, 0)) (Array.ext' ?_))
        simp only [Array.toList_append, sv_insert, ← hsl, List.take_length, List.drop_length]
      · show _ ≤ (w.heap.push _).size
        rw [Array.size_push]; omega
      · intro b hb
        show (w.heap.push _)[b]? = _
        rw [Array.getElem?_push, if_neg (Nat.ne_of_lt hb)]
    · have hlt : i < l.length := by omega
      refine (Any2.slices_Insert_string_grow lays22 (G.ι id) 0 l.length l.length i (G.ι id2) 0 1 C2 (sv l) [.string ⟨x.toArray⟩] w hlt (by omega) (Nat.le_refl _) (by omega) hbig hsl rfl hcs hvs' (fun v hv => sv_one' hv) h1v).mono ?_
      rintro e w' ⟨rfl, rfl⟩
      generalize hC0 : grownCap w (l.length + 1) l.length (lays22_ren.t 9) = C0
      have hC1 : l.length + 1 ≤ C0 := hC0 ▸ hgc _
      have hC2 : C0 ≤ 9223372036854775807 := hC0 ▸ grown_le (by omega)
      generalize hA : w.alloc (.cells (((sv l).take i).toArray ++ Builtin.zeroCells (Value.string ⟨#[]⟩).cells (l.length + 1 - i) ++ Builtin.zeroCells (Value.string ⟨#[]⟩).cells (C0 - (l.length + 1))) (lays22_ren.t 9)) = A0
      obtain ⟨Z, hZl, g1⟩ : ∃ Z : List Value, Z.length = C0 - i ∧ A0.drew.heap[w.heap.size]? = some (.cells ((sv l).take i ++ Z).toArray (lays22_ren.t 9) (0, 0)) := by
        refine ⟨(Builtin.zeroCells (Value.string ⟨#[]⟩).cells (l.length + 1 - i) ++ Builtin.zeroCells (Value.string ⟨#[]⟩).cells (C0 - (l.length + 1))).toList, ?_, ?_⟩
        · have hz : (Value.string ⟨#[]⟩).cells.size = 1 := rfl
          generalize (Value.string ⟨#[]⟩).cells = zc at hz
          simp [Builtin.zeroCells, hz]; omega
        · subst hA
          show (w.heap.push _)[w.heap.size]? = _
          rw [Array.getElem?_push_size]
          refine congrArg some (congrArg (fun c => Go.Obj.cells c _ (0, 0)) (Array.ext' ?_))
          simp only [Array.toList_append, List.append_assoc]
      have k3 : A0.heap.size = w.heap.size + 1 := by
        rw [← hA]
        show (w.heap.push _).size = _
        rw [Array.size_push]
      have k4 : A0.os = w.os := by rw [← hA]; rfl
      have k5 : A0.output = w.output := by rw [← hA]; rfl
      have k2 : ∀ b, b < w.heap.size → A0.heap[b]? = w.heap[b]? := fun b hb => by
        rw [← hA]
        show (w.heap.push _)[b]? = _
        rw [Array.getElem?_push, if_neg (Nat.ne_of_lt hb)]
      clear hA
      have hT' : ((sv l).take i).length = i := by rw [List.length_take, hsl]; omega
      have hD : ((sv l).drop i).length = l.length - i := by rw [List.length_drop, hsl]
      obtain ⟨a1, a2, a3, a4, a5⟩ := setCells_heap w.heap.size _ (0, 0) [.string ⟨x.toArray⟩] i _ A0.drew g1 (by rw [List.length_append, hT', hZl, List.length_singleton]; omega)
      obtain ⟨b1, b2, b3, b4, b5⟩ := setCells_heap w.heap.size _ (0, 0) ((sv l).drop i) (i + 1) _ (World.setCells A0.drew w.heap.size i [.string ⟨x.toArray⟩]).drew a1 (by simp only [List.length_append, List.length_take, List.length_drop, hsl, hZl, List.length_singleton]; omega)
      rw [List.length_singleton, ins_grow hsl hlt, ← sv_insert] at b1
      refine newb _ _ _ _ hC1 hC2 (by simp only [List.length_append, List.length_take, List.length_drop, List.length_singleton, hsl, hZl]; omega) b1 ?_ ?_ ?_ ?_
      · rw [b3]; show _ ≤ (World.setCells A0.drew _ _ _).heap.size; rw [a3]; show _ ≤ A0.heap.size; omega
      · rw [b4]; show (World.setCells A0.drew _ _ _).os = _; rw [a4]; exact k4
      · rw [b5]; show (World.setCells A0.drew _ _ _).output = _; rw [a5]; exact k5
      · intro b hb
        rw [b2 b (Nat.ne_of_lt hb)]; show (World.setCells A0.drew _ _ _).heap[b]? = _
        rw [a2 b (Nat.ne_of_lt hb)]
        exact k2 b hb
theorem insert_e (x : List UInt8) {id2 : Nat} {h : H} (ho2 : h.objs id2 = some (.cells [.str x])) (htk : h.toks = []) :
    ACalls Try.prog 82 [.sl 1 [] (.exact 0), .int .i64 0, .tsl 1 id2 0 1 none] h (.tsl 1 h.n 0 1 none) (h.turn id2 (.cells (strs [x]))) := by
  intro G w vs hv R F
  simp only [VRels] at hv
  obtain ⟨v1, _, rfl, hv1, v2, _, rfl, hv2, v3, _, rfl, hv3, rfl⟩ := hv
  have hbase : ∃ a0, v1 = .slice a0 0 0 := by
    simp only [VRel, CapOk] at hv1
    rcases hv1 with ⟨-, h, -⟩ | ⟨B, off, C, vs, q1, -, -, -, -, q6⟩
    · exact h
    · subst q6; exact ⟨_, by simpa using q1⟩
  obtain ⟨a0, rfl⟩ := hbase
  simp only [VRel] at hv2 hv3
  subst hv2
  obtain ⟨hd2, hv3⟩ := hv3
  obtain ⟨C2, c2, T2, fr2, rfl, ⟨hnC2, -⟩, -, hg2, hroom2⟩ | ⟨hz, -⟩ := hv3
  rotate_left
  · omega
  obtain ⟨-, hown2, hB2, us2, rest2, T2', fr2', hg2', hvs2, hfr2, -⟩ := R.obj id2 _ ho2
  have hus2 : us2 = [.string ⟨x.toArray⟩] := by
    simp only [VRels, VRel] at hvs2
    obtain ⟨v, _, rfl, rfl, rfl⟩ := hvs2
    rfl
  subst hus2
  rw [hg2] at hg2'
  obtain ⟨rfl, rfl, rfl⟩ : c2 = ([Value.string ⟨x.toArray⟩] ++ rest2).toArray ∧ T2 = T2' ∧ fr2 = fr2' := by simpa using hg2'
  have hvs' : ∀ (j : Nat) v, ([Value.string ⟨x.toArray⟩] : List Value)[j]? = some v → w.cell? ⟨G.ι id2, 0 + j, none⟩ = some v := fun j v => cell_of hg2 j v
  have h1v : ∀ v ∈ ([Value.string ⟨x.toArray⟩] : List Value), v.oneCell' = true := by simp [Value.oneCell']
  have key := Any2.slices_Insert_string_end_grow lays22 a0 0 0 (G.ι id2) 0 1 C2 [] [.string ⟨x.toArray⟩] w (by omega) (Nat.le_refl _) (by omega) (by omega) rfl rfl (fun _ => rfl) (fun a ha j v hj => by simp at hj) hvs' h1v
  refine key.mono ?_
  rintro e w' ⟨rfl, rfl⟩
  have hgc' : 0 + 1 ≤ grownCap w (0 + 1) 0 (lays22_ren.t 9) := by simp [grownCap, Question.cut]
  have hgl : grownCap w (0 + 1) 0 (lays22_ren.t 9) ≤ 9223372036854775807 := grown_le (by omega)
  generalize grownCap w (0 + 1) 0 (lays22_ren.t 9) = C0 at hgc' hgl ⊢
  have hZs : (Builtin.zeroCells (Value.string ⟨#[]⟩).cells (C0 - (0 + 1))).toList.length = C0 - (0 + 1) := by
    have hz : (Value.string ⟨#[]⟩).cells.size = 1 := rfl
    generalize (Value.string ⟨#[]⟩).cells = zc at hz
    simp [Builtin.zeroCells, hz]
  generalize Builtin.zeroCells (Value.string ⟨#[]⟩).cells (C0 - (0 + 1)) = Zc at hZs ⊢
  have hs : (w.drew.alloc (.cells (([] ++ [Value.string ⟨x.toArray⟩]).toArray ++ Zc) (lays22_ren.t 9))).heap.size = w.heap.size + 1 := by
    show (w.heap.push _).size = _
    rw [Array.size_push]
  have hold : ∀ b, b < w.heap.size → (w.drew.alloc (.cells (([] ++ [Value.string ⟨x.toArray⟩]).toArray ++ Zc) (lays22_ren.t 9))).heap[b]? = w.heap[b]? := fun b hb => by
    show (w.heap.push _)[b]? = _
    rw [Array.getElem?_push, if_neg (Nat.ne_of_lt hb)]
  have hnew : (w.drew.alloc (.cells (([] ++ [Value.string ⟨x.toArray⟩]).toArray ++ Zc) (lays22_ren.t 9))).heap[w.heap.size]? = some (.cells (sv [x] ++ Zc.toList).toArray (lays22_ren.t 9) (0, 0)) := by
    show (w.heap.push _)[w.heap.size]? = _
    rw [Array.getElem?_push_size]
    refine congrArg some (congrArg (fun c => Go.Obj.cells c _ (0, 0)) (Array.ext' ?_))
    simp only [Array.toList_append]
    rfl
  obtain ⟨G', T1, R1, V⟩ := row_new (w' := w.drew.alloc (.cells (([] ++ [Value.string ⟨x.toArray⟩]).toArray ++ Zc) (lays22_ren.t 9))) (B := w.heap.size) (C := C0) (xs := strs [x]) (vs := sv [x]) R ho2 htk (F.1 _ (Nat.le_refl _) (Nat.lt_succ_self _)) (by omega) rfl rfl (fun b hb _ => hold b hb) (by rw [hold _ hB2]; exact SameForm.refl _) (.inr (Nat.le_refl _)) ⟨by simpa [strs] using hgc', hgl⟩ rfl (sv_rels _) (fun v hv => sv_one hv) hnew (by simp only [sv_length, List.length_singleton]; omega) (fun j => by simp)
  exact ⟨_, G', rfl, T1, R1, V⟩
end Go.Proofs.Ytpehfflehebmbaa.Reads
end
section
set_option linter.unusedSimpArgs false
set_option linter.unusedVariables false
set_option maxRecDepth 10000
namespace Go.Proofs.Ytpehfflehebmbaa.Space
open Go Go.Av Go.Proofs Go.Proofs.Ytpehfflehebmbaa.C Go.Proofs.Ytpehfflehebmbaa.Reads Go.Lib Go.RowKit
def lays24_ren : Go.Shelf.Ren := ⟨fun | 24 => 104 | n => n, fun | 24 => 37 | 9 => 9 | 3 => 3 | 4 => 4 | 0 => 0 | n => n, fun | n => n⟩
theorem lays24 : Lays2.n24 Try.prog lays24_ren where
  mixed := by kernel_rfl
  f24 := Try.func104.trans (congrArg some (by kernel_rfl))
  t0 := Try.underlying0
  a0 := Try.isAgg0
  z0 := Try.sizeOf0
  v0 := Try.zeroValue0
  t3 := Try.underlying3
  a3 := Try.isAgg3
  z3 := Try.sizeOf3
  v3 := Try.zeroValue3
  t4 := Try.underlying4
  a4 := Try.isAgg4
  z4 := Try.sizeOf4
  v4 := Try.zeroValue4
  t9 := Try.underlying9
  a9 := Try.isAgg9
  z9 := Try.sizeOf9
  v9 := Try.zeroValue9
  t24 := Try.underlying37
  a24 := Try.isAgg37
  z24 := Try.sizeOf37
  v24 := Try.zeroValue37
  i9 := by kernel_rfl
theorem delete_t (l : List (List UInt8)) (i : Nat) (hi : i < l.length) (hl : l.length < 1099511627776) {id : Nat} {h : H} (ho : h.objs id = some (.cells (strs l))) (htk : h.toks = []) :
    ACalls Try.prog 104 [.tsl 1 id 0 l.length none, .int .i64 i, .int .i64 ((i + 1 : Nat) : Int)] h (.tsl 1 h.n 0 (l.length - 1) none) (h.turn id (.cells (strs (l.take i ++ l.drop (i + 1))))) := by
  intro G w vs hv R F
  simp only [VRels, VRel] at hv
  obtain ⟨v1, _, rfl, ⟨hd1, hv1⟩, v2, _, rfl, rfl, v3, _, rfl, rfl, rfl⟩ := hv
  obtain ⟨C, c, T, fr, rfl, ⟨hnC, hc63⟩, -, hg, hroom⟩ | ⟨hz, -⟩ := hv1
  rotate_left
  · omega
  obtain ⟨-, hown, hB, us, rest, T', fr', hg', hvs, hfr, -⟩ := R.obj id _ ho
  have hus := sv_of hvs
  subst hus
  rw [hg] at hg'
  obtain ⟨rfl, rfl, rfl⟩ : c = (sv l ++ rest).toArray ∧ T = T' ∧ fr = fr' := by simpa using hg'
  have hsl := sv_length l
  have hfz : ∀ j, w.frozen? ⟨G.ι id, j, none⟩ = false := fun j => by
    unfold World.frozen?; simp only [hg]
    have := hfr j
    simp; omega
  have hout : (strs (l.take i ++ l.drop (i + 1))).length = l.length - 1 := by simp [strs]; omega
  have hcell : ∀ j, j < l.length → w.cell? ⟨G.ι id, 0 + j, none⟩ = some (.string (⟨(l.getD j []).toArray⟩ : ByteArray)) := fun j hj => cell_of hg j _ (by
    simp [sv, List.getElem?_map, List.getElem?_eq_getElem hj, List.getD_eq_getElem?_getD])
  have hS : Lib.strsOf (fun j => (⟨(l.getD j []).toArray⟩ : ByteArray)) l.length = l := by
    refine List.ext_getElem (Lib.strsOf_length _ _) fun j h1 h2 => ?_
    simp [Lib.strsOf, List.getD_eq_getElem?_getD, List.getElem?_eq_getElem h2]
  refine (Any.slices_Delete_string_cells lays24 (G.ι id) 0 l.length C i (i + 1) (fun j => (⟨(l.getD j []).toArray⟩ : ByteArray)) w hnC hc63 (by omega) (by omega) hcell (fun j hj => hfz _)).mono ?_
  rintro e w' ⟨rfl, q, rfl⟩
  rw [hS]
  have hm : ∀ m : List (List UInt8), m.map encStr = sv m := fun m => rfl
  rw [hm]
  have hsv : sv (l.take i ++ l.drop (i + 1) ++ List.replicate (i + 1 - i) []) = sv (l.take i ++ l.drop (i + 1)) ++ [.string ⟨#[]⟩] := by
    rw [show i + 1 - i = 1 by omega]; simp [sv]
  have hlen : (sv (l.take i ++ l.drop (i + 1) ++ List.replicate (i + 1 - i) [])).length = l.length := by rw [sv_length]; simp; omega
  obtain ⟨a1, a2, a3, a4, a5⟩ := setCells_heap (G.ι id) T fr (sv (l.take i ++ l.drop (i + 1) ++ List.replicate (i + 1 - i) [])) 0 (sv l ++ rest) (w.drewN q) hg (by rw [hlen, List.length_append, hsl]; omega)
  have e1 : (sv l ++ rest).take 0 ++ sv (l.take i ++ l.drop (i + 1) ++ List.replicate (i + 1 - i) []) ++ (sv l ++ rest).drop (0 + (sv (l.take i ++ l.drop (i + 1) ++ List.replicate (i + 1 - i) [])).length) = sv (l.take i ++ l.drop (i + 1)) ++ (Value.string ⟨#[]⟩ :: rest) := by
    rw [hlen, hsv, Nat.zero_add, ← hsl, List.drop_left, List.take_zero]; simp
  rw [e1] at a1
  have hC : C ≤ l.length + rest.length := by simpa [hsl] using hroom
  obtain ⟨G', T1, R1, V⟩ := row_new (B := G.ι id) (C := C) (xs := strs (l.take i ++ l.drop (i + 1))) (vs := sv (l.take i ++ l.drop (i + 1))) R ho htk (F.1 _ (Nat.le_refl _) (Nat.lt_succ_self _)) (Nat.le_of_eq a3.symm) a4 a5 (fun b _ hb => a2 b hb) (by
    rw [hg, a1]
    refine ⟨_, rfl, ?_⟩
    simp only [List.size_toArray, List.length_append, sv_length, List.length_cons, List.length_take, List.length_drop]
    omega) (.inl rfl) ⟨by rw [hout]; omega, hc63⟩ (by rw [hout, sv_length]; simp; omega) (sv_rels _) (fun v hv => sv_one hv) a1 (by simp only [sv_length, List.length_cons, List.length_append, List.length_take, List.length_drop]; omega) hfr
  refine ⟨_, G', rfl, T1, R1, ?_⟩
  rw [hout] at V
  rw [show l.length - (i + 1 - i) = l.length - 1 by omega]
  exact V
theorem insert_z (x : List UInt8) {id id2 : Nat} (hne : id ≠ id2) {h : H} (ho : h.objs id = some (.cells (strs []))) (ho2 : h.objs id2 = some (.cells [.str x])) (htk : h.toks = []) :
    ACalls Try.prog 82 [.tsl 1 id 0 0 none, .int .i64 0, .tsl 1 id2 0 1 none] h (.tsl 1 h.n 0 1 none) (h.turn id (.cells (strs [x]))) := by
  intro G w vs hv R F
  simp only [VRels, VRel] at hv
  obtain ⟨v1, _, rfl, ⟨hd1, hv1⟩, v2, _, rfl, rfl, v3, _, rfl, ⟨hd2, hv3⟩, rfl⟩ := hv
  obtain ⟨C2, c2, T2, fr2, rfl, ⟨hnC2, -⟩, -, hg2, hroom2⟩ | ⟨hz, -⟩ := hv3
  rotate_left
  · omega
  obtain ⟨-, hown2, hB2, us2, rest2, T2', fr2', hg2', hvs2, hfr2, -⟩ := R.obj id2 _ ho2
  obtain ⟨-, hown, hB, us, rest, T', fr', hg', hvs, hfr, -⟩ := R.obj id _ ho
  have hus := sv_of hvs
  subst hus
  have hus2 : us2 = [.string ⟨x.toArray⟩] := by
    simp only [VRels, VRel] at hvs2
    obtain ⟨v, _, rfl, rfl, rfl⟩ := hvs2
    rfl
  subst hus2
  rw [hg2] at hg2'
  obtain ⟨rfl, rfl, rfl⟩ : c2 = ([Value.string ⟨x.toArray⟩] ++ rest2).toArray ∧ T2 = T2' ∧ fr2 = fr2' := by simpa using hg2'
  have hvs' : ∀ (j : Nat) v, ([Value.string ⟨x.toArray⟩] : List Value)[j]? = some v → w.cell? ⟨G.ι id2, 0 + j, none⟩ = some v := fun j v => cell_of hg2 j v
  have h1v : ∀ v ∈ ([Value.string ⟨x.toArray⟩] : List Value), v.oneCell' = true := by simp [Value.oneCell']
  have grow : ∀ a0 : Option Addr, Calls Try.prog 82 #[.slice a0 0 0, .int .i64 0, .slice (some ⟨G.ι id2, 0, none⟩) 1 C2] w fun e w' => ∃ v G', e = .returned v ∧ Trans G w h G' w' (h.turn id (.cells (strs [x]))) ∧ RepH G' (h.turn id (.cells (strs [x]))) w' ∧ VRel G' w' (.tsl 1 h.n 0 1 none) v := by
    intro a0
    refine (Any2.slices_Insert_string_end_grow lays22 a0 0 0 (G.ι id2) 0 1 C2 [] [.string ⟨x.toArray⟩] w (by omega) (Nat.le_refl _) (by omega) (by omega) rfl rfl (fun _ => rfl) (fun a ha j v hj => by simp at hj) hvs' h1v).mono ?_
    rintro e w' ⟨rfl, rfl⟩
    have hgc' : 0 + 1 ≤ grownCap w (0 + 1) 0 (lays22_ren.t 9) := by simp [grownCap, Question.cut]
    have hgl : grownCap w (0 + 1) 0 (lays22_ren.t 9) ≤ 9223372036854775807 := grown_le (by omega)
    generalize grownCap w (0 + 1) 0 (lays22_ren.t 9) = C0 at hgc' hgl ⊢
    have hZs : (Builtin.zeroCells (Value.string ⟨#[]⟩).cells (C0 - (0 + 1))).toList.length = C0 - (0 + 1) := by
      have hz : (Value.string ⟨#[]⟩).cells.size = 1 := rfl
      generalize (Value.string ⟨#[]⟩).cells = zc at hz
      simp [Builtin.zeroCells, hz]
    generalize Builtin.zeroCells (Value.string ⟨#[]⟩).cells (C0 - (0 + 1)) = Zc at hZs ⊢
    have hs : (w.drew.alloc (.cells (([] ++ [Value.string ⟨x.toArray⟩]).toArray ++ Zc) (lays22_ren.t 9))).heap.size = w.heap.size + 1 := by
      show (w.heap.push _).size = _
      rw [Array.size_push]
    have hold : ∀ b, b < w.heap.size → (w.drew.alloc (.cells (([] ++ [Value.string ⟨x.toArray⟩]).toArray ++ Zc) (lays22_ren.t 9))).heap[b]? = w.heap[b]? := fun b hb => by
      show (w.heap.push _)[b]? = _
      rw [Array.getElem?_push, if_neg (Nat.ne_of_lt hb)]
    have hnew : (w.drew.alloc (.cells (([] ++ [Value.string ⟨x.toArray⟩]).toArray ++ Zc) (lays22_ren.t 9))).heap[w.heap.size]? = some (.cells (sv [x] ++ Zc.toList).toArray (lays22_ren.t 9) (0, 0)) := by
      show (w.heap.push _)[w.heap.size]? = _
      rw [Array.getElem?_push_size]
      refine congrArg some (congrArg (fun c => Go.Obj.cells c _ (0, 0)) (Array.ext' ?_))
      simp only [Array.toList_append]
      rfl
    obtain ⟨G', T1, R1, V⟩ := row_new (w' := w.drew.alloc (.cells (([] ++ [Value.string ⟨x.toArray⟩]).toArray ++ Zc) (lays22_ren.t 9))) (B := w.heap.size) (C := C0) (xs := strs [x]) (vs := sv [x]) R ho htk (F.1 _ (Nat.le_refl _) (Nat.lt_succ_self _)) (by omega) rfl rfl (fun b hb _ => hold b hb) (by rw [hold _ hB]; exact SameForm.refl _) (.inr (Nat.le_refl _)) ⟨by simpa [strs] using hgc', hgl⟩ rfl (sv_rels _) (fun v hv => sv_one hv) hnew (by simp only [sv_length, List.length_singleton]; omega) (fun j => by simp)
    exact ⟨_, G', rfl, T1, R1, V⟩
  rcases hv1 with ⟨C, c, T, fr, rfl, ⟨hnC, hc63⟩, -, hg, hroom⟩ | ⟨-, ⟨a0, rfl⟩, -⟩
  · by_cases hC : C = 0
    · subst hC; exact grow _
    · rw [hg] at hg'
      obtain ⟨rfl, rfl, rfl⟩ : c = (sv [] ++ rest).toArray ∧ T = T' ∧ fr = fr' := by simpa using hg'
      have hrl : C ≤ rest.length := by simpa [sv] using hroom
      have hfz : ∀ j, w.frozen? ⟨G.ι id, j, none⟩ = false := fun j => by
        unfold World.frozen?; simp only [hg]
        have := hfr j
        simp; omega
      have hsome : ∀ j, j < C → (w.cell? ⟨G.ι id, 0 + j, none⟩).isSome = true := fun j hj => by
        unfold World.cell?; simp only [hg]; simp [sv]; omega
      refine (Any2.slices_Insert_string_end_room lays22 (G.ι id) 0 0 C (G.ι id2) 0 1 C2 [.string ⟨x.toArray⟩] w (by omega) (by omega) hc63 rfl (fun j hj => by have := hsome (0 + j) (by omega); rwa [← Nat.add_assoc] at this) (fun j hj => hfz _) hvs' h1v).mono ?_
      rintro e w' ⟨rfl, rfl⟩
      obtain ⟨a1, a2, a3, a4, a5⟩ := setCells_heap (G.ι id) T fr [.string ⟨x.toArray⟩] (0 + 0) (sv [] ++ rest) w hg (by simp [sv]; omega)
      have e1 : (sv [] ++ rest).take (0 + 0) ++ [Value.string ⟨x.toArray⟩] ++ (sv [] ++ rest).drop (0 + 0 + [Value.string ⟨x.toArray⟩].length) = sv [x] ++ rest.drop 1 := by simp [sv]
      rw [e1] at a1
      obtain ⟨G', T1, R1, V⟩ := row_new (B := G.ι id) (C := C) (xs := strs [x]) (vs := sv [x]) R ho htk (F.1 _ (Nat.le_refl _) (Nat.lt_succ_self _)) (Nat.le_of_eq a3.symm) a4 a5 (fun b _ hb => a2 b hb) (by rw [hg, a1]; exact ⟨_, rfl, by simp [sv]; omega⟩) (.inl rfl) ⟨by simp [strs]; omega, hc63⟩ rfl (sv_rels _) (fun v hv => sv_one hv) a1 (by simp [sv]; omega) hfr
      exact ⟨_, G', rfl, T1, R1, V⟩
  · exact grow _
end Go.Proofs.Ytpehfflehebmbaa.Space
end
section
set_option linter.unusedVariables false
set_option linter.unusedSimpArgs false
namespace Go.Av
section
variable {P : Program} {N : Nat}
theorem Ends.same {l : List Fr} {n m : Nat} {Q : AV → List Fr → Prop} {q r : AV} {h : H} (ok : Ok l n (ks l) m) (hs : VSub q r) (hk : ∀ j, j < n → h.objs j = lay l j) (hn : n ≤ h.n) (hm : m ≤ h.m) (ht : ∀ t ∈ ks l, t ∈ h.toks) (hq : Q r l) : Ends l n m Q q h r l where
  sub := hs
  ole j o hj := by
    refine ⟨o, ?_, OSub.refl _⟩
    rcases Nat.lt_or_ge j n with e | e
    · rw [hk j e]; exact hj
    · rw [ok.lay_bd e] at hj; cases hj
  tk := ht
  ok := ok.grow hn hm
  new j := by
    cases h : lay l j with
    | none => exact .inr (.inr rfl)
    | some o => exact .inr (.inl rfl)
  knew t ht := .inl ht
  q := hq
theorem FnIs.gsame {f : FuncId} {ac : AC} {args : List AV} {ds : List RV} {l : List Fr} {r : AV} (hF : FnIs P f N ac ds) (hl : args.length ≤ N)
    (hw : ∀ n m, Ok l n (ks l) m → Wp P N ac ⟨initT args, ⟨lay l, n, ks l, m⟩⟩ fun e s' => isEnd e ∧ ∃ q, resOf ds s'.t s'.h = some q ∧ VSub q r ∧ (∀ j, j < n → s'.h.objs j = lay l j) ∧ (∀ t ∈ ks l, t ∈ s'.h.toks)) : GCalls P f args l (fun r' l' => r' = r ∧ l' = l) := by
  refine hF.gcalls hl fun n m ok => ?_
  refine (hw n m ok).nm.mono ?_
  rintro e s' ⟨⟨h1, q, h2, h3, h4, h5⟩, h6, h7⟩
  exact ⟨h1, q, h2, r, l, Ends.same ok h3 h4 h6 h7 h5 ⟨rfl, rfl⟩⟩
theorem ne_off {s n : Nat} (h : s < n) : (∀ k, (s = n + k) = False) ∧ (∀ k, (n + k = s) = False) ∧ (s = n) = False ∧ (n = s) = False := by
  refine ⟨fun k => ?_, fun k => ?_, ?_, ?_⟩ <;> simp <;> omega
theorem Ok.lt {F : Fr} {l : List Fr} {n m j : Nat} {T : List Nat} {o : Obj} (ok : Ok l n T m) (hF : F ∈ l) (h : F.o j = some o) : j < n := by
  rcases Nat.lt_or_ge j n with e | e
  · exact e
  · rw [ok.bd F hF j e] at h; cases h
theorem Ok.at {F : Fr} {A B : List Fr} {n m j : Nat} {T : List Nat} {o : Obj} (ok : Ok (A ++ F :: B) n T m) (h : F.o j = some o) : lay (A ++ F :: B) j = some o := by
  rw [lay_append, lay_cons, h]
  have : lay A j = none := lay_none.2 fun F' hF' => by
    rcases (List.pairwise_append.1 ok.dj).2.2 F' hF' F (by simp) j with e | e
    · exact e
    · rw [e] at h; cases h
  rw [this]; rfl
theorem Ok.at0 {F : Fr} {B : List Fr} {n m j : Nat} {T : List Nat} {o : Obj} (ok : Ok (F :: B) n T m) (h : F.o j = some o) : lay (F :: B) j = some o := Ok.at (A := []) ok h
def Fr.Fin (F : Fr) : Prop := ∃ ids : List Nat, ∀ id, (F.o id).isSome = true → id ∈ ids
def Looks (P : Program) (f : FuncId) (args : List AV) (F : Fr) (r : AV) : Prop := F.Fin ∧ RCalls P f args F.o r
theorem FnIs.looks {f : FuncId} {ac : AC} {args : List AV} {ds : List RV} {F : Fr} {r : AV} (hfin : F.Fin) (hF : FnIs P f N ac ds) (hl : args.length ≤ N)
    (hw : ∀ n m, Wp P N ac ⟨initT args, ⟨F.o, n, [], m⟩⟩ fun e s' => isEnd e ∧ ∃ q, resOf ds s'.t s'.h = some q ∧ VSub q r ∧ s'.h = ⟨F.o, n, [], m⟩) : Looks P f args F r := by
  refine ⟨hfin, fun n m => ?_⟩
  obtain ⟨q, h', hc, hs, rfl⟩ := hF.acalls (Q := fun q h' => VSub q r ∧ h' = ⟨F.o, n, [], m⟩) hl ((hw n m).mono fun e s' ⟨h1, q, h2, h3, h4⟩ => ⟨h1, q, h2, h3, h4⟩)
  exact hc.le hs ⟨fun j o h => ⟨o, h, OSub.refl _⟩, fun t h => h⟩ rfl rfl
theorem WpItems.glook {dst : Option Nat} {g : Option (Nat × Bool)} {f : FuncId} {l : List Opd} {its : List AItem} {t : Tm} {log : List Ent} {K : Tm → H → List Ent → Prop} {vals : List AV} {r : AV} {F : Fr} {n' m' : Nat} {T' : List Nat} {objs : Objs}
    (hg : guardOf t g = some true) (hs : VSubs (l.map (ev t)) vals) (hc : Looks P f vals F r) (ho : ∀ j o, F.o j = some o → objs j = some o)
    (rest : ∀ ids, WpItems P N its (putT t dst r) ⟨objs, n', T', m'⟩ (⟨ids, [], []⟩ :: log) K) : WpItems P N (⟨dst, g, .call f l⟩ :: its) t ⟨objs, n', T', m'⟩ log K := by
  obtain ⟨⟨ids, hi⟩, hc⟩ := hc
  exact WpItems.rcall ids hg hs ho hi hc (rest ids)
theorem Ok.sub {l : List Fr} {n m : Nat} {T : List Nat} (ok : Ok l n T m) {F : Fr} (hF : F ∈ l) : ∀ j o, F.o j = some o → lay l j = some o := by
  intro j o h
  obtain ⟨A, B, rfl⟩ := List.append_of_mem hF
  exact ok.at h
end
end Go.Av
end
section
set_option linter.unusedSimpArgs false
set_option linter.unusedVariables false
set_option maxRecDepth 10000
namespace Go.Proofs.Ytpehfflehebmbaa.Space
open Go Go.Av Go.Proofs Go.Proofs.Ytpehfflehebmbaa.C Go.Proofs.Ytpehfflehebmbaa.Batch
abbrev It := Bs × List Ver
def vAV (v : List Ver) : AV := .sl 3 (v.map encV) .any
def encM (M : List It) : List (AV × AV) := M.map fun p => (.str p.1, vAV p.2)
def mres : List It → Bs → Option (Nat × AV)
  | [], _ => none
  | p :: M, q => if p.1 = q then some (0, vAV p.2) else (mres M q).map fun r => (r.1 + 1, r.2)
def mget : List It → Bs → List Ver
  | [], _ => []
  | p :: M, q => if p.1 = q then p.2 else mget M q
def mput : List It → Bs → List Ver → List It
  | [], q, v => [(q, v)]
  | p :: M, q, v => if p.1 = q then (q, v) :: M else p :: mput M q v
def mdel : List It → Bs → List It
  | [], _ => []
  | p :: M, q => if p.1 = q then M else p :: mdel M q
theorem mfind_enc (q : Bs) : ∀ M : List It, mfind q (encM M) = some (mres M q)
  | [] => rfl
  | p :: M => by
    have ih := mfind_enc q M
    simp only [encM, List.map_cons, mfind, mres] at ih ⊢
    by_cases h : p.1 = q
    · simp only [if_pos h]
    · simp only [if_neg h, ih, Option.map_some]
theorem look_sub (M : List It) (q : Bs) : VSub (lookAV (.sl 3 [] (.exact 0)) false (mres M q)) (vAV (mget M q)) := by
  have key : ∀ M : List It, (mres M q = none ∧ mget M q = []) ∨ ∃ i, mres M q = some (i, vAV (mget M q)) := by
    intro M
    induction M with
    | nil => exact .inl ⟨rfl, rfl⟩
    | cons p M ih =>
      simp only [mres, mget]
      by_cases h : p.1 = q
      · simp only [if_pos h]; exact .inr ⟨0, rfl⟩
      · simp only [if_neg h]
        rcases ih with ⟨h1, h2⟩ | ⟨i, h1⟩
        · exact .inl ⟨by rw [h1]; rfl, h2⟩
        · exact .inr ⟨i + 1, by rw [h1]; rfl⟩
  rcases key M with ⟨h1, h2⟩ | ⟨i, h1⟩
  · rw [h1, h2]; exact VSub.cap
  · rw [h1]; exact VSub.refl _
theorem put_enc (q : Bs) (v : List Ver) : ∀ M : List It, putEs (encM M) q (vAV v) (mres M q) = encM (mput M q v)
  | [] => rfl
  | p :: M => by
    have ih := put_enc q v M
    simp only [mres, mput]
    by_cases h : p.1 = q
    · simp only [if_pos h, putEs, encM, List.map_cons, List.set_cons_zero]
    · simp only [if_neg h]
      cases hr : mres M q with
      | none => rw [hr] at ih; simp only [Option.map_none, putEs, encM, List.map_cons, List.cons_append] at ih ⊢; rw [ih]
      | some r => rw [hr] at ih; simp only [Option.map_some, putEs, encM, List.map_cons, List.set_cons_succ] at ih ⊢; rw [ih]
theorem del_enc (q : Bs) : ∀ M : List It, delEs (encM M) (mres M q) = encM (mdel M q)
  | [] => rfl
  | p :: M => by
    have ih := del_enc q M
    simp only [mres, mdel]
    by_cases h : p.1 = q
    · simp only [if_pos h, delEs, encM, List.map_cons, List.eraseIdx_cons_zero]
    · simp only [if_neg h]
      cases hr : mres M q with
      | none => rw [hr] at ih; simp only [Option.map_none, delEs, encM, List.map_cons] at ih ⊢; rw [ih]
      | some r => rw [hr] at ih; simp only [Option.map_some, delEs, encM, List.map_cons, List.eraseIdx_cons_succ] at ih ⊢; rw [ih]
theorem mget_put (q q' : Bs) (v : List Ver) : ∀ M : List It, mget (mput M q v) q' = if q = q' then v else mget M q'
  | [] => by simp [mput, mget]
  | p :: M => by
    simp only [mput]
    by_cases h : p.1 = q
    · simp only [if_pos h, mget]
      by_cases h' : q = q'
      · simp [h']
      · simp only [if_neg h', if_neg (fun e => h' (h ▸ e : q = q'))]
    · simp only [if_neg h, mget, mget_put q q' v M]
      by_cases h' : q = q'
      · subst h'; simp [h]
      · simp [h']
theorem keys_put (q : Bs) (v : List Ver) : ∀ (M : List It) (x : Bs), x ∈ (mput M q v).map (·.1) → x = q ∨ x ∈ M.map (·.1)
  | [], x, h => by simp [mput] at h; exact .inl h
  | p :: M, x, h => by
    simp only [mput] at h
    split at h
    · simp only [List.map_cons, List.mem_cons] at h ⊢
      rcases h with h | h
      · exact .inl h
      · exact .inr (.inr h)
    · simp only [List.map_cons, List.mem_cons] at h ⊢
      rcases h with h | h
      · exact .inr (.inl h)
      · exact (keys_put q v M x h).imp id .inr
theorem nodup_put (q : Bs) (v : List Ver) : ∀ M : List It, (M.map (·.1)).Nodup → ((mput M q v).map (·.1)).Nodup
  | [], _ => by simp [mput]
  | p :: M, h => by
    simp only [List.map_cons, List.nodup_cons] at h
    simp only [mput]
    by_cases hp : p.1 = q
    · simp only [if_pos hp, List.map_cons, List.nodup_cons]; rw [← hp]; exact h
    · simp only [if_neg hp, List.map_cons, List.nodup_cons]
      refine ⟨fun hm => ?_, nodup_put q v M h.2⟩
      rcases keys_put q v M _ hm with e | e
      · exact hp e
      · exact h.1 e
theorem mget_none (q : Bs) : ∀ M : List It, q ∉ M.map (·.1) → mget M q = []
  | [], _ => rfl
  | p :: M, h => by
    simp only [List.map_cons, List.mem_cons, not_or] at h
    have h1 : ¬ p.1 = q := fun e => h.1 e.symm
    simp only [mget, if_neg h1]
    exact mget_none q M h.2
theorem mget_del (q q' : Bs) : ∀ M : List It, (M.map (·.1)).Nodup → mget (mdel M q) q' = if q = q' then [] else mget M q'
  | [], _ => by simp [mdel, mget]
  | p :: M, h => by
    simp only [List.map_cons, List.nodup_cons] at h
    simp only [mdel]
    by_cases hp : p.1 = q
    · simp only [if_pos hp, mget]
      by_cases h' : q = q'
      · subst h'; rw [if_pos rfl]; exact mget_none _ M (by rw [← hp]; exact h.1)
      · simp only [if_neg h', if_neg (fun e => h' (hp ▸ e : q = q'))]
    · simp only [if_neg hp, mget, mget_del q q' M h.2]
      by_cases h' : q = q'
      · subst h'; simp [hp]
      · simp [h']
theorem keys_del (q : Bs) : ∀ (M : List It) (x : Bs), x ∈ (mdel M q).map (·.1) → x ∈ M.map (·.1)
  | [], x, h => by simp [mdel] at h
  | p :: M, x, h => by
    simp only [mdel] at h
    split at h
    · simp only [List.map_cons, List.mem_cons]; exact .inr h
    · simp only [List.map_cons, List.mem_cons] at h ⊢
      exact h.imp id (keys_del q M x)
theorem nodup_del (q : Bs) : ∀ M : List It, (M.map (·.1)).Nodup → ((mdel M q).map (·.1)).Nodup
  | [], _ => by simp [mdel]
  | p :: M, h => by
    simp only [List.map_cons, List.nodup_cons] at h
    simp only [mdel]
    split
    · exact h.2
    · simp only [List.map_cons, List.nodup_cons]
      exact ⟨fun hm => h.1 (keys_del q M _ hm), nodup_del q M h.2⟩
structure Spc where
  L : List It
  last : Int
  mark : Int
structure MapOk (M L : List It) : Prop where
  nd : (M.map (·.1)).Nodup
  eq : ∀ q, mget M q = mget L q
def keysOf (L : List It) : List Bs := L.map (·.1)
def RowIs (K : AV) (keys : List Bs) (o : Objs) (s c : Nat) : Prop :=
  (K = .sl 1 [] (.exact 0) ∧ keys = []) ∨ ∃ k, K = .tsl 1 k 0 keys.length none ∧ o k = some (.cells (strs keys)) ∧ k ≠ s ∧ k ≠ c
structure SpcF (s : Nat) (S : Spc) (F : Fr) : Prop where
  go : ∃ c M K, MapOk M S.L ∧ s ≠ c ∧ F.o s = some (.cells [K, .mp c, .int .i64 S.last, .int .i64 S.mark]) ∧ F.o c = some (.map (encM M)) ∧ RowIs K (keysOf S.L) F.o s c
  k : F.k = []
  fin : F.Fin
def Small (S : Spc) : Prop := S.L.length ≤ 500000 ∧ ∀ q, (mget S.L q).length ≤ 500000
def Wide (S : Spc) : Prop := S.L.length ≤ 500000 ∧ ∀ q, (mget S.L q).length ≤ 4398046511104
theorem Small.wide {S : Spc} (h : Small S) : Wide S := ⟨h.1, fun q => by have := h.2 q; omega⟩
theorem made_r {s : Nat} {S : Spc} {F : Fr} (hF : SpcF s S F) : Looks Try.prog 52 [.ptr s 0] F (.bool true) := by
  obtain ⟨c, M, K, hM, hsc, hs, hc, hK⟩ := hF.go
  refine f52.looks hF.fin (by simp) fun n m => ?_
  unfold c52
  repeat (first
    | ((first | apply Wp.seqItemsR | apply Wp.itemsR); (· simp only [go_sem, reduceIte, Nat.reduceEqDiff, Nat.reduceAdd, bx, ax, if_true, if_false, Nat.reduceMul, Nat.reduceLeDiff, hs]; exact rfl))
    | (refine WpItems.nil ⟨?_, ?_⟩; (· first | trivial | simp [pairsQ, pairsOk, apart, ent0]))
    | (apply Wp.cond_lit; (· simp only [go_sem, reduceIte, Nat.reduceEqDiff, Nat.reduceAdd, bx, ax, if_true, if_false, Nat.reduceMul, Nat.reduceLeDiff, hs]; exact rfl); (· rfl))
    | refine Wp.skip ?_
    | refine Wp.label ?_
    | refine Wp.block ?_
    | refine Wp.exit ?_
    | refine Wp.seq ?_)
  exact Wp.ret ⟨trivial, _, rfl, VSub.refl _, rfl⟩
def keptB (S : Spc) (t : Int) : Int := if t < S.mark then 12 else if S.last < t then 13 else 0
theorem kept_r {s : Nat} {S : Spc} {F : Fr} (hF : SpcF s S F) (t : Int) : Looks Try.prog 58 [.ptr s 0, .int .i64 t] F (.int .i64 (keptB S t)) := by
  obtain ⟨c, M, K, hM, hsc, hs, hc, hK⟩ := hF.go
  refine f58.looks hF.fin (by simp) fun n m => ?_
  unfold c58
  by_cases h1 : t < S.mark
  · have d1 := decide_eq_true h1
    repeat (first
      | ((first | apply Wp.seqItemsR | apply Wp.itemsR | ((first
          | (refine WpItems.glook ?_ ?_ (made_r hF) (by first | exact fun j o h => h | exact ok.sub (by simp) | assumption) (fun ids => ?_); (· simp only [go_sem, reduceIte, Nat.reduceEqDiff, Nat.reduceAdd, bx]); (· simp only [go_sem, reduceIte, Nat.reduceEqDiff, Nat.reduceAdd, bx, List.map]; first | exact VSubs.refl _ | (repeat (first | exact VSubs.nil | refine VSubs.cons (by first | exact VSub.refl _ | assumption | exact VSub.cap | exact VSub.any _) ?_))))); apply WpItems.evR)); (· simp only [go_sem, reduceIte, Nat.reduceEqDiff, Nat.reduceAdd, bx, ax, if_true, if_false, Nat.reduceMul, Nat.reduceLeDiff, hs, d1]; exact rfl))
      | (refine WpItems.nil ⟨?_, ?_⟩; (· first | trivial | simp [pairsQ, pairsOk, apart, ent0]))
      | (apply Wp.cond_lit; (· simp only [go_sem, reduceIte, Nat.reduceEqDiff, Nat.reduceAdd, bx, ax, if_true, if_false, Nat.reduceMul, Nat.reduceLeDiff, hs, d1]; exact rfl); (· rfl))
      | refine Wp.skip ?_
      | refine Wp.label ?_
      | refine Wp.block ?_
      | refine Wp.exit ?_
      | refine Wp.seq ?_)
    refine Wp.ret ⟨trivial, _, rfl, ?_, rfl⟩
    rw [keptB, if_pos h1]; exact VSub.refl _
  · have d1 := decide_eq_false h1
    by_cases h2 : S.last < t
    · have d2 := decide_eq_true h2
      repeat (first
        | ((first | apply Wp.seqItemsR | apply Wp.itemsR | ((first
            | (refine WpItems.glook ?_ ?_ (made_r hF) (by first | exact fun j o h => h | exact ok.sub (by simp) | assumption) (fun ids => ?_); (· simp only [go_sem, reduceIte, Nat.reduceEqDiff, Nat.reduceAdd, bx]); (· simp only [go_sem, reduceIte, Nat.reduceEqDiff, Nat.reduceAdd, bx, List.map]; first | exact VSubs.refl _ | (repeat (first | exact VSubs.nil | refine VSubs.cons (by first | exact VSub.refl _ | assumption | exact VSub.cap | exact VSub.any _) ?_))))); apply WpItems.evR)); (· simp only [go_sem, reduceIte, Nat.reduceEqDiff, Nat.reduceAdd, bx, ax, if_true, if_false, Nat.reduceMul, Nat.reduceLeDiff, hs, d1, d2]; exact rfl))
        | (refine WpItems.nil ⟨?_, ?_⟩; (· first | trivial | simp [pairsQ, pairsOk, apart, ent0]))
        | (apply Wp.cond_lit; (· simp only [go_sem, reduceIte, Nat.reduceEqDiff, Nat.reduceAdd, bx, ax, if_true, if_false, Nat.reduceMul, Nat.reduceLeDiff, hs, d1, d2]; exact rfl); (· rfl))
        | refine Wp.skip ?_
        | refine Wp.label ?_
        | refine Wp.block ?_
        | refine Wp.exit ?_
        | refine Wp.seq ?_)
      refine Wp.ret ⟨trivial, _, rfl, ?_, rfl⟩
      rw [keptB, if_neg h1, if_pos h2]; exact VSub.refl _
    · have d2 := decide_eq_false h2
      repeat (first
        | ((first | apply Wp.seqItemsR | apply Wp.itemsR | ((first
            | (refine WpItems.glook ?_ ?_ (made_r hF) (by first | exact fun j o h => h | exact ok.sub (by simp) | assumption) (fun ids => ?_); (· simp only [go_sem, reduceIte, Nat.reduceEqDiff, Nat.reduceAdd, bx]); (· simp only [go_sem, reduceIte, Nat.reduceEqDiff, Nat.reduceAdd, bx, List.map]; first | exact VSubs.refl _ | (repeat (first | exact VSubs.nil | refine VSubs.cons (by first | exact VSub.refl _ | assumption | exact VSub.cap | exact VSub.any _) ?_))))); apply WpItems.evR)); (· simp only [go_sem, reduceIte, Nat.reduceEqDiff, Nat.reduceAdd, bx, ax, if_true, if_false, Nat.reduceMul, Nat.reduceLeDiff, hs, d1, d2]; exact rfl))
        | (refine WpItems.nil ⟨?_, ?_⟩; (· first | trivial | simp [pairsQ, pairsOk, apart, ent0]))
        | (apply Wp.cond_lit; (· simp only [go_sem, reduceIte, Nat.reduceEqDiff, Nat.reduceAdd, bx, ax, if_true, if_false, Nat.reduceMul, Nat.reduceLeDiff, hs, d1, d2]; exact rfl); (· rfl))
        | refine Wp.skip ?_
        | refine Wp.label ?_
        | refine Wp.block ?_
        | refine Wp.exit ?_
        | refine Wp.seq ?_)
      refine Wp.ret ⟨trivial, _, rfl, ?_, rfl⟩
      rw [keptB, if_neg h1, if_neg h2]; exact VSub.refl _
def getB (S : Spc) (q : Bs) (t : Int) : Bs × Int := if keptB S t = 0 then (if (atB (mget S.L q) t).2 = true then ((atB (mget S.L q) t).1, 0) else ([], 7)) else ([], keptB S t)
theorem get_w {s : Nat} {S : Spc} {F : Fr} (hF : SpcF s S F) (hS : Wide S) (q : Bs) (t : Int) : Looks Try.prog 20 [.ptr s 0, .str q, .int .i64 t] F (.tup [.str (getB S q t).1, .int .i64 (getB S q t).2]) := by
  obtain ⟨c, M, K, hM, hsc, hs, hc, hK⟩ := hF.go
  refine f20.looks hF.fin (by simp) fun n m => ?_
  unfold c20
  by_cases h1 : keptB S t = 0
  · have d1 := decide_eq_true h1
    have hat := at_p (mget S.L q) (by have := hS.2 q; omega) t
    have hl := look_sub M q
    rw [hM.eq q] at hl
    unfold vAV at hl
    have fit : VSubs [lookAV (.sl 3 [] (.exact 0)) false (mres M q), .int .i64 t] [.sl 3 ((mget S.L q).map encV) .any, .int .i64 t] := VSubs.cons hl (VSubs.refl _)
    cases ha : (atB (mget S.L q) t).2 with
    | true =>
      rw [ha] at hat
      repeat (first
        | ((first | apply Wp.seqItemsR | apply Wp.itemsR | ((first
            | (refine WpItems.glook ?_ ?_ (kept_r hF t) (by first | exact fun j o h => h | exact ok.sub (by simp) | assumption) (fun ids => ?_); (· simp only [go_sem, reduceIte, Nat.reduceEqDiff, Nat.reduceAdd, bx]); (· simp only [go_sem, reduceIte, Nat.reduceEqDiff, Nat.reduceAdd, bx, List.map]; first | exact VSubs.refl _ | (repeat (first | exact VSubs.nil | refine VSubs.cons (by first | exact VSub.refl _ | assumption | exact VSub.cap | exact VSub.any _) ?_))))
            | (refine WpItems.pcall ?_ ?_ (hat) ?_; (· simp only [go_sem, reduceIte, Nat.reduceEqDiff, Nat.reduceAdd, bx]); (· simp only [go_sem, reduceIte, Nat.reduceEqDiff, Nat.reduceAdd, bx, List.map]; exact fit))); apply WpItems.evR)); (· simp only [go_sem, reduceIte, Nat.reduceEqDiff, Nat.reduceAdd, bx, ax, if_true, if_false, Nat.reduceMul, Nat.reduceLeDiff, hs, hc, d1, mfind_enc]; exact rfl))
        | (refine WpItems.nil ⟨?_, ?_⟩; (· first | trivial | simp [pairsQ, pairsOk, apart, ent0]))
        | (apply Wp.cond_lit; (· simp only [go_sem, reduceIte, Nat.reduceEqDiff, Nat.reduceAdd, bx, ax, if_true, if_false, Nat.reduceMul, Nat.reduceLeDiff, hs, hc, d1, mfind_enc]; exact rfl); (· rfl))
        | refine Wp.skip ?_
        | refine Wp.label ?_
        | refine Wp.block ?_
        | refine Wp.exit ?_
        | refine Wp.seq ?_)
      refine Wp.ret ⟨trivial, _, rfl, ?_, rfl⟩
      rw [getB, if_pos h1, if_pos ha]; exact VSub.refl _
    | false =>
      rw [ha] at hat
      repeat (first
        | ((first | apply Wp.seqItemsR | apply Wp.itemsR | ((first
            | (refine WpItems.glook ?_ ?_ (kept_r hF t) (by first | exact fun j o h => h | exact ok.sub (by simp) | assumption) (fun ids => ?_); (· simp only [go_sem, reduceIte, Nat.reduceEqDiff, Nat.reduceAdd, bx]); (· simp only [go_sem, reduceIte, Nat.reduceEqDiff, Nat.reduceAdd, bx, List.map]; first | exact VSubs.refl _ | (repeat (first | exact VSubs.nil | refine VSubs.cons (by first | exact VSub.refl _ | assumption | exact VSub.cap | exact VSub.any _) ?_))))
            | (refine WpItems.pcall ?_ ?_ (hat) ?_; (· simp only [go_sem, reduceIte, Nat.reduceEqDiff, Nat.reduceAdd, bx]); (· simp only [go_sem, reduceIte, Nat.reduceEqDiff, Nat.reduceAdd, bx, List.map]; exact fit))); apply WpItems.evR)); (· simp only [go_sem, reduceIte, Nat.reduceEqDiff, Nat.reduceAdd, bx, ax, if_true, if_false, Nat.reduceMul, Nat.reduceLeDiff, hs, hc, d1, mfind_enc]; exact rfl))
        | (refine WpItems.nil ⟨?_, ?_⟩; (· first | trivial | simp [pairsQ, pairsOk, apart, ent0]))
        | (apply Wp.cond_lit; (· simp only [go_sem, reduceIte, Nat.reduceEqDiff, Nat.reduceAdd, bx, ax, if_true, if_false, Nat.reduceMul, Nat.reduceLeDiff, hs, hc, d1, mfind_enc]; exact rfl); (· rfl))
        | refine Wp.skip ?_
        | refine Wp.label ?_
        | refine Wp.block ?_
        | refine Wp.exit ?_
        | refine Wp.seq ?_)
      refine Wp.ret ⟨trivial, _, rfl, ?_, rfl⟩
      rw [getB, if_pos h1, if_neg (by simp [ha])]; exact VSub.refl _
  · have d1 := decide_eq_false h1
    repeat (first
      | ((first | apply Wp.seqItemsR | apply Wp.itemsR | ((first
          | (refine WpItems.glook ?_ ?_ (kept_r hF t) (by first | exact fun j o h => h | exact ok.sub (by simp) | assumption) (fun ids => ?_); (· simp only [go_sem, reduceIte, Nat.reduceEqDiff, Nat.reduceAdd, bx]); (· simp only [go_sem, reduceIte, Nat.reduceEqDiff, Nat.reduceAdd, bx, List.map]; first | exact VSubs.refl _ | (repeat (first | exact VSubs.nil | refine VSubs.cons (by first | exact VSub.refl _ | assumption | exact VSub.cap | exact VSub.any _) ?_))))); apply WpItems.evR)); (· simp only [go_sem, reduceIte, Nat.reduceEqDiff, Nat.reduceAdd, bx, ax, if_true, if_false, Nat.reduceMul, Nat.reduceLeDiff, hs, d1]; exact rfl))
      | (refine WpItems.nil ⟨?_, ?_⟩; (· first | trivial | simp [pairsQ, pairsOk, apart, ent0]))
      | (apply Wp.cond_lit; (· simp only [go_sem, reduceIte, Nat.reduceEqDiff, Nat.reduceAdd, bx, ax, if_true, if_false, Nat.reduceMul, Nat.reduceLeDiff, hs, d1]; exact rfl); (· rfl))
      | refine Wp.skip ?_
      | refine Wp.label ?_
      | refine Wp.block ?_
      | refine Wp.exit ?_
      | refine Wp.seq ?_)
    refine Wp.ret ⟨trivial, _, rfl, ?_, rfl⟩
    rw [getB, if_neg h1]; exact VSub.refl _
end Go.Proofs.Ytpehfflehebmbaa.Space
end
