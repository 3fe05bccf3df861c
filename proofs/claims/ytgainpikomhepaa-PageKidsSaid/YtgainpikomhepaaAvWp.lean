/- Code on abstract values: what is to be shown of a piece of code ('Wp'), its rules, calls. -/
import Derived.Test.YtgainpikomhepaaAvOrder
set_option linter.unusedVariables false
set_option linter.unusedSimpArgs false
namespace Go.Av

structure AItem where
  dst : Option Nat
  guard : Option (Nat × Bool)
  op : AOp

inductive AC where
  | skip
  | reg (items : List AItem) (pairs : Option (List (Nat × Nat)))
  | seq (a b : AC)
  | cond (c : Opd) (a b : AC)
  | block (id : Nat) (a : AC)
  | loop (a : AC)
  | exit (id : Nat)
  | ret

def opdsOf : AOp → List Opd
  | .mov x | .box x | .eqN _ x | .un _ x | .conv _ x | .load _ x | .faddr _ x | .fld _ _ x | .ext x _ | .nilck x | .len _ x => [x]
  | .pick a b c => [a, b, c]
  | .alloc _ => []
  | .build _ parts => parts.map fun p => p.2.2
  | .buildSl _ parts => parts
  | .store _ x y | .bin _ x y | .eqB _ x y | .eqP _ x y | .iaddr _ x y | .idx x y | .mksl _ _ _ x y | .app _ _ _ x y | .appz _ _ _ x y => [x, y]
  | .mkfn _ a b => a ++ b
  | .slc _ _ x a b c => x :: (a.toList ++ b.toList ++ c.toList)
  | .call _ l => l
  | .callv x l => x :: l

def tmpsOf (l : List Opd) : List Nat := l.filterMap fun | .t i => some i | _ => none

def cGuard (ops : Array Oper) : Option (Nat × Bool) → Option (Option (Nat × Bool))
  | none => some none
  | some (j, w) => match (ops[j]?).bind (·.dst) with
    | some d => some (some (d, w))
    | none => none

def cItem (P : Program) (N : Nat) (ops : Array Oper) (o : Oper) : Option AItem :=
  match cOp P o, cGuard ops o.guard with
  | some op, some g => if o.dst.all (fun d => decide (d < N)) && (tmpsOf (opdsOf op)).all (fun i => (names ops o).contains i) then some ⟨o.dst, g, op⟩ else none
  | _, _ => none

def cItems (P : Program) (N : Nat) (ops : Array Oper) : List Oper → Option (List AItem)
  | [] => some []
  | o :: l => match cItem P N ops o, cItems P N ops l with
    | some a, some r => some (a :: r)
    | _, _ => none

def touchy : AOp → Bool
  | .alloc _ | .box _ | .load _ _ | .store _ _ _ | .conv .s2b _ | .mksl _ _ _ _ _ | .app _ _ _ _ _ | .appz _ _ _ _ _ | .call _ _ | .callv _ _ => true
  | _ => false

def tidy (ops : Array Oper) : Bool :=
  let b := Region.before ops
  let l := ops.toList.zipIdx
  (l.all fun (o, i) => o.after.all fun e => !Region.binds .any e || decide (e.on < i)) &&
  l.all fun (o, i) => match o.dst with
    | none => true
    | some d => l.all fun (o', j) => i == j || !(names ops o').contains d || (b.getD j 0).testBit i || (b.getD i 0).testBit j

def pairsOf (ops : Array Oper) (items : List AItem) : List (Nat × Nat) :=
  let b := Region.before ops
  (List.range ops.size).flatMap fun j => (List.range j).filterMap fun i =>
    if (match items[i]?, items[j]? with | some x, some y => touchy x.op && touchy y.op | _, _ => false) && !(b.getD j 0).testBit i then some (i, j) else none

def cCode (P : Program) (N : Nat) : Code → Option AC
  | .skip => some .skip
  | .region _ ops draw => match cItems P N ops ops.toList with
    | some items => if draw then (if P.follows .mixedOrders && tidy ops then some (.reg items (some (pairsOf ops items))) else none) else some (.reg items none)
    | none => none
  | .seq a b => match cCode P N a, cCode P N b with
    | some x, some y => some (.seq x y)
    | _, _ => none
  | .cond c a b => match opd P 0 c, cCode P N a, cCode P N b with
    | some c, some x, some y => some (.cond c x y)
    | _, _, _ => none
  | .block id a => (cCode P N a).map (.block id)
  | .loop a => (cCode P N a).map .loop
  | .exit id => some (.exit id)
  | .ret => some .ret
  | _ => none

/-- one abstract value says less than another -/
def VSub (x y : AV) : Prop := ∀ G w v, VRel G w x v → VRel G w y v
theorem VSub.refl (x : AV) : VSub x x := fun _ _ _ h => h
theorem VSub.trans {x y z : AV} (a : VSub x y) (b : VSub y z) : VSub x z := fun G w v h => b G w v (a G w v h)
theorem VSub.any (x : AV) : VSub x .any := fun _ _ _ _ => by simp [VRel]
def VSubs (l m : List AV) : Prop := ∀ G w vs, VRels G w l vs → VRels G w m vs
theorem VSubs.refl (l : List AV) : VSubs l l := fun _ _ _ h => h
theorem VSubs.nil : VSubs [] [] := VSubs.refl _
theorem VSubs.cons {x y : AV} {l m : List AV} (a : VSub x y) (b : VSubs l m) : VSubs (x :: l) (y :: m) := by
  intro G w vs h
  simp only [VRels] at h ⊢
  obtain ⟨v, us, e, h1, h2⟩ := h
  exact ⟨v, us, e, a G w v h1, b G w us h2⟩
theorem VSub.cap {sz : Nat} {xs : List AV} {c : Cap} : VSub (.sl sz xs c) (.sl sz xs .any) := by
  intro G w v h
  simp only [VRel] at h ⊢
  rcases h with ⟨a, b, _⟩ | ⟨B, off, C, vs, h1, h2, h3, h4, h5, h6⟩
  · exact .inl ⟨a, b, by simp [CapNil]⟩
  · exact .inr ⟨B, off, C, vs, h1, h2, h3, h4, h5, by simp [CapOk]⟩
theorem VSub.nil {sz sz' : Nat} {c : Cap} : VSub (.sl sz [] c) (.sl sz' [] .any) := by
  intro G w v h
  simp only [VRel] at h ⊢
  rcases h with ⟨a, b, _⟩ | ⟨B, off, C, vs, h1, h2, h3, h4, h5, h6⟩
  · exact .inl ⟨a, b, by simp [CapNil]⟩
  · have hv : vs = [] := by simpa using h3
    subst hv
    exact .inr ⟨B, off, C, [], h1, h2, by simp, by simp [VElems], Imm.nil, by simp [CapOk]⟩
theorem VSub.agg {l m : List AV} (a : VSubs l m) : VSub (.agg l) (.agg m) := by
  intro G w v h
  simp only [VRel] at h ⊢
  obtain ⟨vs, e, h⟩ := h
  exact ⟨vs, e, a G w vs h⟩
theorem VSub.tup {l m : List AV} (a : VSubs l m) : VSub (.tup l) (.tup m) := by
  intro G w v h
  simp only [VRel] at h ⊢
  obtain ⟨vs, e, h⟩ := h
  exact ⟨vs, e, a G w vs h⟩

section
variable {P : Program}

/-! ## Calls -/

/-- called with these, over these objects and tokens: it returns that, and leaves those -/
def ACalls (P : Program) (f : FuncId) (args : List AV) (h : H) (r : AV) (h' : H) : Prop :=
  ∀ G w vs, VRels G w args vs → RepH G h w → Fresh G h h' → Calls P f vs.toArray w fun e w' => ∃ v G', e = .returned v ∧ Trans G w h G' w' h' ∧ RepH G' h' w' ∧ VRel G' w' r v

def H0 (n m : Nat) : H := .only none' [] n m

/-- a call that only computes -/
def PCalls (P : Program) (f : FuncId) (args : List AV) (r : AV) : Prop := ∀ n m, ACalls P f args (H0 n m) r (H0 n m)

structure St where
  t : Tm
  h : H

inductive AExit where
  | normal
  | exit (id : Nat)
  | ret

def AExit.says : AExit → Exit → Prop
  | .normal, .normal => True
  | .exit i, .exit j => i = j
  | .ret, .ret => True
  | _, _ => False

structure Rel (N : Nat) (s : St) (G : Ghost) (w : World) (a : Act) : Prop where
  size : a.tmps.size = N
  t : TRel G w s.t a
  h : RepH G s.h w

def Run (P : Program) (N : Nat) (c : Code) (s : St) (e : AExit) (s' : St) : Prop :=
  (s.h.n ≤ s'.h.n ∧ s.h.m ≤ s'.h.m) ∧ ∀ G w a, Rel N s G w a → Fresh G s.h s'.h → c.wp P (fun e' a' w' => e.says e' ∧ a'.defers = a.defers ∧ ∃ G', Trans G w s.h G' w' s'.h ∧ Rel N s' G' w' a') a w

def Wp (P : Program) (N : Nat) (c : AC) (s : St) (Q : AExit → St → Prop) : Prop :=
  ∀ code, cCode P N code = some c → ∃ e s', Run P N code s e s' ∧ Q e s'

variable {N : Nat} {s : St} {Q : AExit → St → Prop}

theorem Wp.mono {c : AC} {Q' : AExit → St → Prop} (h : Wp P N c s Q) (hq : ∀ e s', Q e s' → Q' e s') : Wp P N c s Q' :=
  fun code hc => let ⟨e, s', r, q⟩ := h code hc; ⟨e, s', r, hq e s' q⟩

theorem code_skip {code : Code} (h : cCode P N code = some .skip) : code = .skip := by
  unfold cCode at h
  split at h <;> (try rfl) <;> (try cases h)
  all_goals (repeat' split at h) <;> (try cases h) <;> simp at h

theorem Wp.skip (h : Q .normal s) : Wp P N .skip s Q := by
  intro code hc
  obtain rfl := code_skip hc
  exact ⟨.normal, s, ⟨⟨Nat.le_refl _, Nat.le_refl _⟩, fun G w a r _ => wp_skip ⟨trivial, rfl, G, Trans.refl _ _ _, r⟩⟩, h⟩

theorem code_exit {code : Code} {id : Nat} (h : cCode P N code = some (.exit id)) : code = .exit id := by
  unfold cCode at h
  split at h <;> (try rfl) <;> (try cases h)
  all_goals (repeat' split at h) <;> (try cases h) <;> (try rfl) <;> simp at h

theorem Wp.exit {id : Nat} (h : Q (.exit id) s) : Wp P N (.exit id) s Q := by
  intro code hc
  obtain rfl := code_exit hc
  exact ⟨.exit id, s, ⟨⟨Nat.le_refl _, Nat.le_refl _⟩, fun G w a r _ => wp_exit ⟨rfl, rfl, G, Trans.refl _ _ _, r⟩⟩, h⟩

theorem code_ret {code : Code} (h : cCode P N code = some .ret) : code = .ret := by
  unfold cCode at h
  split at h <;> (try rfl) <;> (try cases h)
  all_goals (repeat' split at h) <;> (try cases h) <;> (try rfl) <;> simp at h

theorem Wp.ret (h : Q .ret s) : Wp P N .ret s Q := by
  intro code hc
  obtain rfl := code_ret hc
  exact ⟨.ret, s, ⟨⟨Nat.le_refl _, Nat.le_refl _⟩, fun G w a r _ => wp_ret ⟨trivial, rfl, G, Trans.refl _ _ _, r⟩⟩, h⟩

theorem code_seq {code : Code} {x y : AC} (h : cCode P N code = some (.seq x y)) : ∃ a b, code = .seq a b ∧ cCode P N a = some x ∧ cCode P N b = some y := by
  cases code <;> simp only [cCode] at h <;> (try cases h)
  · (repeat' split at h) <;> cases h
  · split at h
    · cases h; exact ⟨_, _, rfl, ‹_›, ‹_›⟩
    · cases h
  · (repeat' split at h) <;> cases h
  all_goals simp at h

/-- what follows what has come to its end -/
def AExit.andThen (K : St → Prop) (Q : AExit → St → Prop) : AExit → St → Prop
  | .normal, s => K s
  | e, s => Q e s

theorem Wp.seq {x y : AC} (h : Wp P N x s (AExit.andThen (fun s' => Wp P N y s' Q) Q)) : Wp P N (.seq x y) s Q := by
  intro code hc
  obtain ⟨a, b, rfl, ha, hb⟩ := code_seq hc
  obtain ⟨e, s1, r1, q1⟩ := h a ha
  cases e with
  | normal =>
    obtain ⟨e2, s2, r2, q2⟩ := q1 b hb
    obtain ⟨⟨l1, l2⟩, r1⟩ := r1
    obtain ⟨⟨l3, l4⟩, r2⟩ := r2
    refine ⟨e2, s2, ⟨⟨by omega, by omega⟩, fun G w ac r F => wp_seq (wp_mono (r1 G w ac r (F.sub (Nat.le_refl _) l3 (Nat.le_refl _) l4)) ?_)⟩, q2⟩
    rintro e' a' w' ⟨h1, h2, G', T1, r'⟩
    cases e' <;> simp only [AExit.says] at h1
    refine wp_mono (r2 G' w' a' r' (F.step T1)) ?_
    rintro e'' a'' w'' ⟨k1, k2, G'', T2, r''⟩
    exact ⟨k1, k2.trans h2, G'', T1.trans r.h r'.h T2, r''⟩
  | exit id =>
    refine ⟨.exit id, s1, ⟨r1.1, fun G w ac r F => wp_seq (wp_mono (r1.2 G w ac r F) ?_)⟩, q1⟩
    rintro e' a' w' ⟨h1, h2⟩
    cases e' <;> simp only [AExit.says] at h1
    exact ⟨h1, h2⟩
  | ret =>
    refine ⟨.ret, s1, ⟨r1.1, fun G w ac r F => wp_seq (wp_mono (r1.2 G w ac r F) ?_)⟩, q1⟩
    rintro e' a' w' ⟨h1, h2⟩
    cases e' <;> simp only [AExit.says] at h1
    exact ⟨trivial, h2⟩

theorem code_cond {code : Code} {c : Opd} {x y : AC} (h : cCode P N code = some (.cond c x y)) : ∃ z a b, code = .cond z a b ∧ opd P 0 z = some c ∧ cCode P N a = some x ∧ cCode P N b = some y := by
  cases code <;> simp only [cCode] at h <;> (try cases h)
  · (repeat' split at h) <;> cases h
  · (repeat' split at h) <;> cases h
  · split at h
    · cases h; exact ⟨_, _, _, rfl, ‹_›, ‹_›, ‹_›⟩
    · cases h
  all_goals simp at h

theorem Wp.cond {c : Opd} {x y : AC} {b : Bool} (hb : ev s.t c = .bool b) (h : Wp P N (if b then x else y) s Q) : Wp P N (.cond c x y) s Q := by
  intro code hc
  obtain ⟨z, p, q, rfl, h1, h2, h3⟩ := code_cond hc
  obtain ⟨e, s', r, q⟩ := h (if b then p else q) (by cases b <;> simpa)
  refine ⟨e, s', ⟨r.1, fun G w a rel F => ?_⟩, q⟩
  have hz : a.eval z = .bool b := by
    have := opd_rel h1 rel.t
    rw [hb] at this
    simpa only [VRel] using this
  exact wp_cond hz (r.2 G w a rel F)

theorem Wp.cond_true {c : Opd} {x y : AC} (hb : ev s.t c = .bool true) (h : Wp P N x s Q) : Wp P N (.cond c x y) s Q := Wp.cond hb h
theorem Wp.cond_false {c : Opd} {x y : AC} (hb : ev s.t c = .bool false) (h : Wp P N y s Q) : Wp P N (.cond c x y) s Q := Wp.cond hb h
theorem Wp.cond_split {c : Opd} {x y : AC} {b : Bool} (hb : ev s.t c = .bool b) (ht : b = true → Wp P N x s Q) (hf : b = false → Wp P N y s Q) : Wp P N (.cond c x y) s Q := by
  cases b
  · exact Wp.cond hb (hf rfl)
  · exact Wp.cond hb (ht rfl)

def AExit.inBlock (id : Nat) (Q : AExit → St → Prop) : AExit → St → Prop
  | .exit i, s => if i = id then Q .normal s else Q (.exit i) s
  | e, s => Q e s

theorem code_block {code : Code} {id : Nat} {x : AC} (h : cCode P N code = some (.block id x)) : ∃ a, code = .block id a ∧ cCode P N a = some x := by
  cases code <;> simp only [cCode] at h <;> (try cases h)
  · (repeat' split at h) <;> cases h
  · (repeat' split at h) <;> cases h
  · (repeat' split at h) <;> cases h
  · simp only [Option.map_eq_some_iff] at h
    obtain ⟨a, h1, h2⟩ := h
    cases h2
    exact ⟨_, rfl, h1⟩
  all_goals simp at h

theorem Wp.block {id : Nat} {x : AC} (h : Wp P N x s (AExit.inBlock id Q)) : Wp P N (.block id x) s Q := by
  intro code hc
  obtain ⟨a, rfl, ha⟩ := code_block hc
  obtain ⟨e, s1, r1, q1⟩ := h a ha
  cases e with
  | normal =>
    refine ⟨.normal, s1, ⟨r1.1, fun G w ac r F => wp_block (wp_mono (r1.2 G w ac r F) ?_)⟩, q1⟩
    rintro e' a' w' ⟨h1, h2⟩
    cases e' <;> simp only [AExit.says] at h1
    exact ⟨trivial, h2⟩
  | ret =>
    refine ⟨.ret, s1, ⟨r1.1, fun G w ac r F => wp_block (wp_mono (r1.2 G w ac r F) ?_)⟩, q1⟩
    rintro e' a' w' ⟨h1, h2⟩
    cases e' <;> simp only [AExit.says] at h1
    exact ⟨trivial, h2⟩
  | exit i =>
    simp only [AExit.inBlock] at q1
    by_cases hi : i = id
    · rw [if_pos hi] at q1
      refine ⟨.normal, s1, ⟨r1.1, fun G w ac r F => wp_block (wp_mono (r1.2 G w ac r F) ?_)⟩, q1⟩
      rintro e' a' w' ⟨h1, h2⟩
      cases e' <;> simp only [AExit.says] at h1
      subst h1
      simp only [Exit.inBlock, hi, if_true]
      exact ⟨trivial, h2⟩
    · rw [if_neg hi] at q1
      refine ⟨.exit i, s1, ⟨r1.1, fun G w ac r F => wp_block (wp_mono (r1.2 G w ac r F) ?_)⟩, q1⟩
      rintro e' a' w' ⟨h1, h2⟩
      cases e' <;> simp only [AExit.says] at h1
      subst h1
      simp only [Exit.inBlock, hi, if_false]
      exact ⟨rfl, h2⟩

/-- a state that says less -/
structure StLe (s s' : St) : Prop where
  t : ∀ i, VSub (s.t i) (s'.t i)
  h : s'.h.sub s.h
  n : s.h.n = s'.h.n
  m : s.h.m = s'.h.m

theorem StLe.refl (s : St) : StLe s s := ⟨fun i => VSub.refl _, s.h.sub_refl, rfl, rfl⟩

theorem Rel.le {s' : St} {G : Ghost} {w : World} {a : Act} (r : Rel N s G w a) (h : StLe s s') : Rel N s' G w a :=
  ⟨r.size, fun i => h.t i G w _ (r.t i), r.h.sub h.h⟩

theorem Trans.from_sub {G G' : Ghost} {w w' : World} {h h1 h' : H} (T : Trans G w h1 G' w' h') (hs : h1.sub h) (n : h.n = h1.n) (m : h.m = h1.m) (R : RepH G h w) : Trans G w h G' w' h' := by
  have hO : ∀ B, h1.O G B → h.O G B := fun B ⟨id, o, ho, e⟩ => ⟨id, o, hs.1 id o ho, e⟩
  have hT : ∀ B, h1.T G B → h.T G B := fun B ⟨t, ht, e⟩ => ⟨t, hs.2 t ht, e⟩
  constructor
  · exact T.dom_le
  · rw [n]; exact T.dom_new
  · exact T.ι_eq
  · exact T.tdom_le
  · rw [m]; exact T.tdom_new
  · exact T.τ_eq
  · rw [n]; exact T.n_le
  · rw [m]; exact T.m_le
  · exact T.size_le
  · exact T.os
  · exact T.output
  · exact T.form
  · exact fun B hB a b => T.keep B hB (fun x => a (hO B x)) (fun x => b (hT B x))
  · exact fun B hB a => T.own_keep B hB (fun x => a (hO B x))
  · exact fun B hB a b => T.lim_keep B hB (fun x => a (hO B x)) (fun x => b (hT B x))
  · intro B hB ht ho e he
    by_cases hT1 : h1.T G B
    · exact T.tok_keep B hB hT1 (fun x => ho (hO B x)) e he
    · have hk := T.keep B hB (fun x => ho (hO B x)) hT1
      have hl := T.lim_keep B hB (fun x => ho (hO B x)) hT1
      refine ⟨fun j _ => ?_, fun e' he' => ?_⟩
      · unfold World.cell?; simp only [hk]
      · rw [hl, he] at he'; cases he'; exact Nat.le_refl _
  · exact fun B hB x => hO B (T.O_new B hB x)
  · exact fun B hB x => hT B (T.T_new B hB x)
  · rw [n]; exact fun j o x => (T.objs_new j o x).imp (fun ⟨o', z⟩ => ⟨o', hs.1 j o' z⟩) fun z => z
  · rw [m]; exact fun t x => (T.toks_new t x).imp (fun z => hs.2 t z) fun z => z

theorem Run.le {c : Code} {s' s'' : St} {e : AExit} (h : StLe s s') (r : Run P N c s' e s'') : Run P N c s e s'' := by
  refine ⟨by rw [h.n, h.m]; exact r.1, fun G w a rel F => ?_⟩
  refine wp_mono (r.2 G w a (rel.le h) (F.sub (by rw [h.n]; exact Nat.le_refl _) (Nat.le_refl _) (by rw [h.m]; exact Nat.le_refl _) (Nat.le_refl _))) ?_
  rintro e' a' w' ⟨h1, h2, G', T, r'⟩
  exact ⟨h1, h2, G', T.from_sub h.h h.n h.m rel.h, r'⟩

theorem Wp.le {c : AC} {s' : St} (h : StLe s s') (hw : Wp P N c s' Q) : Wp P N c s Q :=
  fun code hc => let ⟨e, s'', r, q⟩ := hw code hc; ⟨e, s'', r.le h, q⟩

theorem code_loop {code : Code} {x : AC} (h : cCode P N code = some (.loop x)) : ∃ a, code = .loop a ∧ cCode P N a = some x := by
  cases code <;> simp only [cCode] at h <;> (try cases h)
  · (repeat' split at h) <;> cases h
  · (repeat' split at h) <;> cases h
  · (repeat' split at h) <;> cases h
  · simp at h
  · simp only [Option.map_eq_some_iff] at h
    obtain ⟨a, h1, h2⟩ := h
    cases h2
    exact ⟨_, rfl, h1⟩
  all_goals simp at h

theorem wp_loop_ix {β : Type} {c : Code} {Q : Exit → Act → World → Prop} (I : β → Act → World → Prop) (μ : β → Nat)
    (round : ∀ b a w, I b a w → c.wp P (Exit.then (fun a' w' => ∃ b', I b' a' w' ∧ μ b' < μ b) Q) a w) {b : β} {a : Act} {w : World} (h₀ : I b a w) : (Code.loop c).wp P Q a w := by
  intro fr k cs
  have key : ∀ n b a w, μ b = n → I b a w → ∃ e a' w', Q e a' w' ∧ Arrives P (lone (fr.at a (.code c :: .inLoop c :: k)) cs w) fr k cs e a' w' := by
    intro n
    induction n using Nat.strongRecOn with
    | _ n ih =>
      intro b a w hn hI
      obtain ⟨e, a₁, w₁, hq, harr⟩ := round b a w hI fr (.inLoop c :: k) cs
      cases e with
      | normal =>
        obtain ⟨b₁, hI₁, hlt⟩ := hq
        obtain ⟨e₂, a₂, w₂, hq₂, harr₂⟩ := ih (μ b₁) (hn ▸ hlt) b₁ a₁ w₁ rfl hI₁
        exact ⟨e₂, a₂, w₂, hq₂, .of_steps (Steps.trans harr (.one step_inLoop)) harr₂⟩
      | exit id => exact ⟨_, a₁, w₁, hq, .pass (x := .inLoop c) rfl (fun _ _ => .inl (by simp)) harr⟩
      | goto l => exact ⟨_, a₁, w₁, hq, .pass (x := .inLoop c) rfl (fun _ _ => .inl (by simp)) harr⟩
      | ret => exact ⟨_, a₁, w₁, hq, .pass (x := .inLoop c) rfl (fun _ _ => .inl (by simp)) harr⟩
      | panic ch => exact ⟨_, a₁, w₁, hq, .pass (x := .inLoop c) rfl (fun _ _ => .inl (by simp)) harr⟩
      | outgrown => exact ⟨_, a₁, w₁, hq, .pass (x := .inLoop c) rfl (fun _ _ => .inl (by simp)) harr⟩
  obtain ⟨e, a', w', hq, harr⟩ := key _ b a w rfl h₀
  exact ⟨e, a', w', hq, .of_steps (.one step_loop) harr⟩

/-- what a loop comes to -/
inductive Comes' {β : Type} (P : Program) (N : Nat) (c : Code) (S : β → St) (μ : β → Nat) : β → AExit → St → Prop where
  | last {b : β} {e : AExit} {s' : St} (r : Run P N c (S b) e s') (hne : e ≠ .normal) : Comes' P N c S μ b e s'
  | more {b b' : β} {e : AExit} {s1 s' : St} (r : Run P N c (S b) .normal s1) (hle : StLe s1 (S b')) (hlt : μ b' < μ b) (rest : Comes' P N c S μ b' e s') : Comes' P N c S μ b e s'

theorem Comes'.nm {β : Type} {c : Code} {S : β → St} {μ : β → Nat} {b : β} {e : AExit} {s' : St} (h : Comes' P N c S μ b e s') : (S b).h.n ≤ s'.h.n ∧ (S b).h.m ≤ s'.h.m := by
  induction h with
  | last r _ => exact r.1
  | more r hle _ _ ih => have := r.1; rw [hle.n, hle.m] at this; omega

theorem Wp.loop {β : Type} (S : β → St) (I : β → Prop) (μ : β → Nat) {c : AC} (b0 : β) (h0 : I b0) (hs : StLe s (S b0))
    (round : ∀ b, I b → Wp P N c (S b) (AExit.andThen (fun s' => ∃ b', I b' ∧ μ b' < μ b ∧ StLe s' (S b')) Q)) : Wp P N (.loop c) s Q := by
  intro code hc
  obtain ⟨x, rfl, hx⟩ := code_loop hc
  have ex : ∀ n b, μ b = n → I b → ∃ e s', Comes' P N x S μ b e s' ∧ Q e s' := by
    intro n
    induction n using Nat.strongRecOn with
    | _ n ih =>
      intro b hn hb
      obtain ⟨e, s1, r1, q1⟩ := round b hb x hx
      cases e with
      | normal =>
        obtain ⟨b', i1, i2, i3⟩ := q1
        obtain ⟨e, s', r', q'⟩ := ih (μ b') (hn ▸ i2) b' rfl i1
        exact ⟨e, s', .more r1 i3 i2 r', q'⟩
      | exit id => exact ⟨_, s1, .last r1 (by simp), q1⟩
      | ret => exact ⟨_, s1, .last r1 (by simp), q1⟩
  obtain ⟨e, s', hcm, q⟩ := ex _ b0 rfl h0
  refine ⟨e, s', Run.le hs ⟨hcm.nm, fun G0 w0 a0 rel0 F0 => ?_⟩, q⟩
  refine wp_loop_ix (fun b a w => Comes' P N x S μ b e s' ∧ a.defers = a0.defers ∧ ∃ G, Trans G0 w0 (S b0).h G w (S b).h ∧ Rel N (S b) G w a ∧ Fresh G (S b).h s'.h) μ ?_ ⟨hcm, rfl, G0, Trans.refl _ _ _, rel0, F0⟩
  rintro b a w ⟨hcm, hd, G, T, rel, F⟩
  cases hcm with
  | last r hne =>
    refine wp_mono (r.2 G w a rel F) ?_
    rintro e' a' w' ⟨h1, h2, G', T', r'⟩
    have : e' ≠ .normal := by
      rintro rfl
      cases e <;> simp [AExit.says] at h1 hne
    have hgoal : e.says e' ∧ a'.defers = a0.defers ∧ ∃ G', Trans G0 w0 (S b0).h G' w' s'.h ∧ Rel N s' G' w' a' := ⟨h1, h2.trans hd, G', T.trans rel0.h rel.h T', r'⟩
    cases e' <;> first | exact hgoal | exact absurd rfl this
  | more r hle hlt rest =>
    have nm := rest.nm
    rw [← hle.n, ← hle.m] at nm
    refine wp_mono (r.2 G w a rel (F.sub (Nat.le_refl _) nm.1 (Nat.le_refl _) nm.2)) ?_
    rintro e' a' w' ⟨h1, h2, G', T', r'⟩
    cases e' <;> simp only [AExit.says] at h1
    rename_i b' s1
    refine ⟨b', ⟨rest, h2.trans hd, G', ?_, r'.le hle, (F.step T').sub (by rw [hle.n]; exact Nat.le_refl _) (Nat.le_refl _) (by rw [hle.m]; exact Nat.le_refl _) (Nat.le_refl _)⟩, hlt⟩
    have T2 := T.trans rel0.h rel.h T'
    exact T2.trans rel0.h r'.h ((Trans.refl G' w' (S b').h).from_sub hle.h hle.n hle.m r'.h)
end
end Go.Av
