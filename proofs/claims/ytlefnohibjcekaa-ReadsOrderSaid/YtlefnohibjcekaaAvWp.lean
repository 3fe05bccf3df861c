/- Code on abstract values: what is to be shown of a piece of code ('Wp'), its rules, calls. -/
import Derived.Test.YtlefnohibjcekaaAvOrder
import Derived.Scope
set_option linter.unusedVariables false
set_option linter.unusedSimpArgs false
namespace Go.Av

structure AItem where
  dst : Option Nat
  guard : Option (Nat × Bool)
  op : AOp

inductive AC where
  | skip
  | reg (items : List AItem) (pairs : Option (List (Nat × Nat)))
  | seq (a b : AC)
  | cond (c : Opd) (a b : AC)
  | block (id : Nat) (a : AC)
  | loop (a : AC)
  | exit (id : Nat)
  | ret
  | scope (a : AC)
  | label (l : Nat)
  | goto (l : Nat)

def opdsOf : AOp → List Opd
  | .mov x | .box x | .eqN _ x | .un _ x | .conv _ x | .load _ x | .faddr _ x | .fld _ _ x | .ext x _ | .nilck x | .len _ x | .clr _ _ x | .mlen x | .eqM _ x => [x]
  | .pick a b c | .mput a b c => [a, b, c]
  | .alloc _ | .mkmap => []
  | .build _ parts => parts.map fun p => p.2.2
  | .buildSl _ parts => parts
  | .store _ x y | .bin _ x y | .eqB _ x y | .eqA _ _ x y | .mm _ x y | .mlook _ _ x y | .mdel x y | .eqP _ x y | .iaddr _ x y | .idx x y | .mksl _ _ _ x y | .app _ _ _ x y | .appz _ _ _ x y => [x, y]
  | .mkfn _ a b => a ++ b
  | .slc _ _ x a b c => x :: (a.toList ++ b.toList ++ c.toList)
  | .call _ l => l
  | .callv x l => x :: l

def tmpsOf (l : List Opd) : List Nat := l.filterMap fun | .t i => some i | _ => none

def cGuard (ops : Array Oper) : Option (Nat × Bool) → Option (Option (Nat × Bool))
  | none => some none
  | some (j, w) => match (ops[j]?).bind (·.dst) with
    | some d => some (some (d, w))
    | none => none

def cItem (P : Program) (N : Nat) (ops : Array Oper) (o : Oper) : Option AItem :=
  match cOp P o, cGuard ops o.guard with
  | some op, some g => if o.dst.all (fun d => decide (d < N)) && (tmpsOf (opdsOf op)).all (fun i => (names ops o).contains i) then some ⟨o.dst, g, op⟩ else none
  | _, _ => none

def cItems (P : Program) (N : Nat) (ops : Array Oper) : List Oper → Option (List AItem)
  | [] => some []
  | o :: l => match cItem P N ops o, cItems P N ops l with
    | some a, some r => some (a :: r)
    | _, _ => none

def touchy : AOp → Bool
  | .alloc _ | .box _ | .load _ _ | .store _ _ _ | .conv .s2b _ | .mksl _ _ _ _ _ | .app _ _ _ _ _ | .appz _ _ _ _ _ | .clr _ _ _ | .mkmap | .mlook _ _ _ _ | .mput _ _ _ | .mdel _ _ | .mlen _ | .call _ _ | .callv _ _ => true
  | _ => false

def tidy (ops : Array Oper) : Bool :=
  let b := Region.before ops
  let l := ops.toList.zipIdx
  (l.all fun (o, i) => o.after.all fun e => !Region.binds .any e || decide (e.on < i)) &&
  l.all fun (o, i) => match o.dst with
    | none => true
    | some d => l.all fun (o', j) => i == j || !(names ops o').contains d || (b.getD j 0).testBit i || (b.getD i 0).testBit j

def pairsOf (ops : Array Oper) (items : List AItem) : List (Nat × Nat) :=
  let b := Region.before ops
  (List.range ops.size).flatMap fun j => (List.range j).filterMap fun i =>
    if (match items[i]?, items[j]? with | some x, some y => touchy x.op && touchy y.op | _, _ => false) && !(b.getD j 0).testBit i then some (i, j) else none

def cCode (P : Program) (N : Nat) : Code → Option AC
  | .skip => some .skip
  | .region _ ops draw => match cItems P N ops ops.toList with
    | some items => if draw then (if P.follows .mixedOrders && tidy ops then some (.reg items (some (pairsOf ops items))) else none) else some (.reg items none)
    | none => none
  | .seq a b => match cCode P N a, cCode P N b with
    | some x, some y => some (.seq x y)
    | _, _ => none
  | .cond c a b => match opd P 0 c, cCode P N a, cCode P N b with
    | some c, some x, some y => some (.cond c x y)
    | _, _, _ => none
  | .block id a => (cCode P N a).map (.block id)
  | .loop a => (cCode P N a).map .loop
  | .exit id => some (.exit id)
  | .ret => some .ret
  | .scope a => (cCode P N a).map .scope
  | .label l => some (.label l)
  | .goto l => some (.goto l)
  | _ => none

/-- one abstract value says less than another -/
def VSub (x y : AV) : Prop := ∀ G w v, VRel G w x v → VRel G w y v
theorem VSub.refl (x : AV) : VSub x x := fun _ _ _ h => h
theorem VSub.trans {x y z : AV} (a : VSub x y) (b : VSub y z) : VSub x z := fun G w v h => b G w v (a G w v h)
theorem VSub.any (x : AV) : VSub x .any := fun _ _ _ _ => by simp [VRel]
def VSubs (l m : List AV) : Prop := ∀ G w vs, VRels G w l vs → VRels G w m vs
theorem VSubs.refl (l : List AV) : VSubs l l := fun _ _ _ h => h
theorem VSubs.nil : VSubs [] [] := VSubs.refl _
theorem VSubs.cons {x y : AV} {l m : List AV} (a : VSub x y) (b : VSubs l m) : VSubs (x :: l) (y :: m) := by
  intro G w vs h
  simp only [VRels] at h ⊢
  obtain ⟨v, us, e, h1, h2⟩ := h
  exact ⟨v, us, e, a G w v h1, b G w us h2⟩
theorem VSub.cap {sz : Nat} {xs : List AV} {c : Cap} : VSub (.sl sz xs c) (.sl sz xs .any) := by
  intro G w v h
  simp only [VRel] at h ⊢
  rcases h with ⟨a, b, _⟩ | ⟨B, off, C, vs, h1, h2, h3, h4, h5, h6⟩
  · exact .inl ⟨a, b, by simp [CapNil]⟩
  · exact .inr ⟨B, off, C, vs, h1, h2, h3, h4, h5, by simp [CapOk]⟩
theorem VSub.nil {sz sz' : Nat} {c : Cap} : VSub (.sl sz [] c) (.sl sz' [] .any) := by
  intro G w v h
  simp only [VRel] at h ⊢
  rcases h with ⟨a, b, _⟩ | ⟨B, off, C, vs, h1, h2, h3, h4, h5, h6⟩
  · exact .inl ⟨a, b, by simp [CapNil]⟩
  · have hv : vs = [] := by simpa using h3
    subst hv
    exact .inr ⟨B, off, C, [], h1, h2, by simp, by simp [VElems], Imm.nil, by simp [CapOk]⟩
theorem VSub.agg {l m : List AV} (a : VSubs l m) : VSub (.agg l) (.agg m) := by
  intro G w v h
  simp only [VRel] at h ⊢
  obtain ⟨vs, e, h⟩ := h
  exact ⟨vs, e, a G w vs h⟩
theorem VSub.tup {l m : List AV} (a : VSubs l m) : VSub (.tup l) (.tup m) := by
  intro G w v h
  simp only [VRel] at h ⊢
  obtain ⟨vs, e, h⟩ := h
  exact ⟨vs, e, a G w vs h⟩

section
variable {P : Program}

/-! ## Calls -/

/-- called with these, over these objects and tokens: it returns that, and leaves those -/
def ACalls (P : Program) (f : FuncId) (args : List AV) (h : H) (r : AV) (h' : H) : Prop :=
  ∀ G w vs, VRels G w args vs → RepH G h w → Fresh G h h' → Calls P f vs.toArray w fun e w' => ∃ v G', e = .returned v ∧ Trans G w h G' w' h' ∧ RepH G' h' w' ∧ VRel G' w' r v

def H0 (n m : Nat) : H := .only none' [] n m

/-- a call that only computes -/
def PCalls (P : Program) (f : FuncId) (args : List AV) (r : AV) : Prop := ∀ n m, ACalls P f args (H0 n m) r (H0 n m)

structure St where
  t : Tm
  h : H

inductive AExit where
  | normal
  | exit (id : Nat)
  | goto (l : Nat)
  | ret

def AExit.says : AExit → Exit → Prop
  | .normal, .normal => True
  | .exit i, .exit j => i = j
  | .goto i, .goto j => i = j
  | .ret, .ret => True
  | _, _ => False

structure Rel (N : Nat) (s : St) (G : Ghost) (w : World) (a : Act) : Prop where
  size : a.tmps.size = N
  t : TRel G w s.t a
  h : RepH G s.h w

def Run (P : Program) (N : Nat) (c : Code) (s : St) (e : AExit) (s' : St) : Prop :=
  (s.h.n ≤ s'.h.n ∧ s.h.m ≤ s'.h.m) ∧ ∀ G w a, Rel N s G w a → Fresh G s.h s'.h → c.wp P (fun e' a' w' => e.says e' ∧ a'.defers = a.defers ∧ ∃ G', Trans G w s.h G' w' s'.h ∧ Rel N s' G' w' a') a w

def Wp (P : Program) (N : Nat) (c : AC) (s : St) (Q : AExit → St → Prop) : Prop :=
  ∀ code, cCode P N code = some c → ∃ e s', Run P N code s e s' ∧ Q e s'

variable {N : Nat} {s : St} {Q : AExit → St → Prop}

theorem Wp.mono {c : AC} {Q' : AExit → St → Prop} (h : Wp P N c s Q) (hq : ∀ e s', Q e s' → Q' e s') : Wp P N c s Q' :=
  fun code hc => let ⟨e, s', r, q⟩ := h code hc; ⟨e, s', r, hq e s' q⟩

theorem code_skip {code : Code} (h : cCode P N code = some .skip) : code = .skip := by
  unfold cCode at h
  split at h <;> (try rfl) <;> (try cases h)
  all_goals (repeat' split at h) <;> (try cases h) <;> simp at h

theorem Wp.skip (h : Q .normal s) : Wp P N .skip s Q := by
  intro code hc
  obtain rfl := code_skip hc
  exact ⟨.normal, s, ⟨⟨Nat.le_refl _, Nat.le_refl _⟩, fun G w a r _ => wp_skip ⟨trivial, rfl, G, Trans.refl _ _ _, r⟩⟩, h⟩

theorem code_exit {code : Code} {id : Nat} (h : cCode P N code = some (.exit id)) : code = .exit id := by
  unfold cCode at h
  split at h <;> (try rfl) <;> (try cases h)
  all_goals (repeat' split at h) <;> (try cases h) <;> (try rfl) <;> simp at h

theorem Wp.exit {id : Nat} (h : Q (.exit id) s) : Wp P N (.exit id) s Q := by
  intro code hc
  obtain rfl := code_exit hc
  exact ⟨.exit id, s, ⟨⟨Nat.le_refl _, Nat.le_refl _⟩, fun G w a r _ => wp_exit ⟨rfl, rfl, G, Trans.refl _ _ _, r⟩⟩, h⟩

theorem code_ret {code : Code} (h : cCode P N code = some .ret) : code = .ret := by
  unfold cCode at h
  split at h <;> (try rfl) <;> (try cases h)
  all_goals (repeat' split at h) <;> (try cases h) <;> (try rfl) <;> simp at h

theorem Wp.ret (h : Q .ret s) : Wp P N .ret s Q := by
  intro code hc
  obtain rfl := code_ret hc
  exact ⟨.ret, s, ⟨⟨Nat.le_refl _, Nat.le_refl _⟩, fun G w a r _ => wp_ret ⟨trivial, rfl, G, Trans.refl _ _ _, r⟩⟩, h⟩

theorem code_seq {code : Code} {x y : AC} (h : cCode P N code = some (.seq x y)) : ∃ a b, code = .seq a b ∧ cCode P N a = some x ∧ cCode P N b = some y := by
  cases code <;> simp only [cCode] at h <;> (try cases h)
  · (repeat' split at h) <;> cases h
  · split at h
    · cases h; exact ⟨_, _, rfl, ‹_›, ‹_›⟩
    · cases h
  · (repeat' split at h) <;> cases h
  all_goals simp at h

/-- what follows what has come to its end -/
def AExit.andThen (K : St → Prop) (Q : AExit → St → Prop) : AExit → St → Prop
  | .normal, s => K s
  | e, s => Q e s

theorem Wp.seq {x y : AC} (h : Wp P N x s (AExit.andThen (fun s' => Wp P N y s' Q) Q)) : Wp P N (.seq x y) s Q := by
  intro code hc
  obtain ⟨a, b, rfl, ha, hb⟩ := code_seq hc
  obtain ⟨e, s1, r1, q1⟩ := h a ha
  cases e with
  | normal =>
    obtain ⟨e2, s2, r2, q2⟩ := q1 b hb
    obtain ⟨⟨l1, l2⟩, r1⟩ := r1
    obtain ⟨⟨l3, l4⟩, r2⟩ := r2
    refine ⟨e2, s2, ⟨⟨by omega, by omega⟩, fun G w ac r F => wp_seq (wp_mono (r1 G w ac r (F.sub (Nat.le_refl _) l3 (Nat.le_refl _) l4)) ?_)⟩, q2⟩
    rintro e' a' w' ⟨h1, h2, G', T1, r'⟩
    cases e' <;> simp only [AExit.says] at h1
    refine wp_mono (r2 G' w' a' r' (F.step T1)) ?_
    rintro e'' a'' w'' ⟨k1, k2, G'', T2, r''⟩
    exact ⟨k1, k2.trans h2, G'', T1.trans r.h r'.h T2, r''⟩
  | exit id =>
    refine ⟨.exit id, s1, ⟨r1.1, fun G w ac r F => wp_seq (wp_mono (r1.2 G w ac r F) ?_)⟩, q1⟩
    rintro e' a' w' ⟨h1, h2⟩
    cases e' <;> simp only [AExit.says] at h1
    exact ⟨h1, h2⟩
  | goto l =>
    refine ⟨.goto l, s1, ⟨r1.1, fun G w ac r F => wp_seq (wp_mono (r1.2 G w ac r F) ?_)⟩, q1⟩
    rintro e' a' w' ⟨h1, h2⟩
    cases e' <;> simp only [AExit.says] at h1
    exact ⟨h1, h2⟩
  | ret =>
    refine ⟨.ret, s1, ⟨r1.1, fun G w ac r F => wp_seq (wp_mono (r1.2 G w ac r F) ?_)⟩, q1⟩
    rintro e' a' w' ⟨h1, h2⟩
    cases e' <;> simp only [AExit.says] at h1
    exact ⟨trivial, h2⟩

theorem code_cond {code : Code} {c : Opd} {x y : AC} (h : cCode P N code = some (.cond c x y)) : ∃ z a b, code = .cond z a b ∧ opd P 0 z = some c ∧ cCode P N a = some x ∧ cCode P N b = some y := by
  cases code <;> simp only [cCode] at h <;> (try cases h)
  · (repeat' split at h) <;> cases h
  · (repeat' split at h) <;> cases h
  · split at h
    · cases h; exact ⟨_, _, _, rfl, ‹_›, ‹_›, ‹_›⟩
    · cases h
  all_goals simp at h

theorem Wp.cond {c : Opd} {x y : AC} {b : Bool} (hb : ev s.t c = .bool b) (h : Wp P N (if b then x else y) s Q) : Wp P N (.cond c x y) s Q := by
  intro code hc
  obtain ⟨z, p, q, rfl, h1, h2, h3⟩ := code_cond hc
  obtain ⟨e, s', r, q⟩ := h (if b then p else q) (by cases b <;> simpa)
  refine ⟨e, s', ⟨r.1, fun G w a rel F => ?_⟩, q⟩
  have hz : a.eval z = .bool b := by
    have := opd_rel h1 rel.t
    rw [hb] at this
    simpa only [VRel] using this
  exact wp_cond hz (r.2 G w a rel F)

theorem Wp.cond_true {c : Opd} {x y : AC} (hb : ev s.t c = .bool true) (h : Wp P N x s Q) : Wp P N (.cond c x y) s Q := Wp.cond hb h
theorem Wp.cond_false {c : Opd} {x y : AC} (hb : ev s.t c = .bool false) (h : Wp P N y s Q) : Wp P N (.cond c x y) s Q := Wp.cond hb h
theorem Wp.cond_split {c : Opd} {x y : AC} {b : Bool} (hb : ev s.t c = .bool b) (ht : b = true → Wp P N x s Q) (hf : b = false → Wp P N y s Q) : Wp P N (.cond c x y) s Q := by
  cases b
  · exact Wp.cond hb (hf rfl)
  · exact Wp.cond hb (ht rfl)

def AExit.inBlock (id : Nat) (Q : AExit → St → Prop) : AExit → St → Prop
  | .exit i, s => if i = id then Q .normal s else Q (.exit i) s
  | e, s => Q e s

theorem code_block {code : Code} {id : Nat} {x : AC} (h : cCode P N code = some (.block id x)) : ∃ a, code = .block id a ∧ cCode P N a = some x := by
  cases code <;> simp only [cCode] at h <;> (try cases h)
  · (repeat' split at h) <;> cases h
  · (repeat' split at h) <;> cases h
  · (repeat' split at h) <;> cases h
  · simp only [Option.map_eq_some_iff] at h
    obtain ⟨a, h1, h2⟩ := h
    cases h2
    exact ⟨_, rfl, h1⟩
  all_goals simp at h

theorem Wp.block {id : Nat} {x : AC} (h : Wp P N x s (AExit.inBlock id Q)) : Wp P N (.block id x) s Q := by
  intro code hc
  obtain ⟨a, rfl, ha⟩ := code_block hc
  obtain ⟨e, s1, r1, q1⟩ := h a ha
  cases e with
  | normal =>
    refine ⟨.normal, s1, ⟨r1.1, fun G w ac r F => wp_block (wp_mono (r1.2 G w ac r F) ?_)⟩, q1⟩
    rintro e' a' w' ⟨h1, h2⟩
    cases e' <;> simp only [AExit.says] at h1
    exact ⟨trivial, h2⟩
  | goto l =>
    refine ⟨.goto l, s1, ⟨r1.1, fun G w ac r F => wp_block (wp_mono (r1.2 G w ac r F) ?_)⟩, q1⟩
    rintro e' a' w' ⟨h1, h2⟩
    cases e' <;> simp only [AExit.says] at h1
    exact ⟨h1, h2⟩
  | ret =>
    refine ⟨.ret, s1, ⟨r1.1, fun G w ac r F => wp_block (wp_mono (r1.2 G w ac r F) ?_)⟩, q1⟩
    rintro e' a' w' ⟨h1, h2⟩
    cases e' <;> simp only [AExit.says] at h1
    exact ⟨trivial, h2⟩
  | exit i =>
    simp only [AExit.inBlock] at q1
    by_cases hi : i = id
    · rw [if_pos hi] at q1
      refine ⟨.normal, s1, ⟨r1.1, fun G w ac r F => wp_block (wp_mono (r1.2 G w ac r F) ?_)⟩, q1⟩
      rintro e' a' w' ⟨h1, h2⟩
      cases e' <;> simp only [AExit.says] at h1
      subst h1
      simp only [Exit.inBlock, hi, if_true]
      exact ⟨trivial, h2⟩
    · rw [if_neg hi] at q1
      refine ⟨.exit i, s1, ⟨r1.1, fun G w ac r F => wp_block (wp_mono (r1.2 G w ac r F) ?_)⟩, q1⟩
      rintro e' a' w' ⟨h1, h2⟩
      cases e' <;> simp only [AExit.says] at h1
      subst h1
      simp only [Exit.inBlock, hi, if_false]
      exact ⟨rfl, h2⟩

/-- a state that says less, or that a step of names alone leads to -/
structure StLe (s s' : St) : Prop where
  n : s.h.n ≤ s'.h.n
  m : s.h.m ≤ s'.h.m
  go : ∀ N G w a, Rel N s G w a → Fresh G s.h s'.h → ∃ G', Trans G w s.h G' w s'.h ∧ Rel N s' G' w a

theorem StLe.refl (s : St) : StLe s s := ⟨Nat.le_refl _, Nat.le_refl _, fun N G w a r _ => ⟨G, Trans.refl _ _ _, r⟩⟩

theorem StLe.trans {s s' s'' : St} (a : StLe s s') (b : StLe s' s'') : StLe s s'' := by
  refine ⟨Nat.le_trans a.n b.n, Nat.le_trans a.m b.m, fun N G w ac r F => ?_⟩
  obtain ⟨G1, T1, r1⟩ := a.go N G w ac r (F.sub (Nat.le_refl _) b.n (Nat.le_refl _) b.m)
  obtain ⟨G2, T2, r2⟩ := b.go N G1 w ac r1 (F.step T1)
  exact ⟨G2, T1.trans r.h r1.h T2, r2⟩

/-- objects that say less -/
def OSub : Obj → Obj → Prop
  | .cells cs, .cells cs' => VSubs cs cs'
  | .map es, .map es' => es = es'
  | _, _ => False
theorem OSub.refl (o : Obj) : OSub o o := by cases o <;> simp [OSub, VSubs.refl]
def HLe (h h' : H) : Prop := (∀ j o', h'.objs j = some o' → ∃ o, h.objs j = some o ∧ OSub o o') ∧ ∀ t ∈ h'.toks, t ∈ h.toks
theorem H.sub.le {h h' : H} (s : h'.sub h) : HLe h h' := ⟨fun j o x => ⟨o, s.1 j o x, OSub.refl o⟩, s.2⟩

theorem ORel.sub {G : Ghost} {w : World} {o o' : Obj} {x : Option Go.Obj} (h : ORel G w o x) (s : OSub o o') : ORel G w o' x := by
  cases o <;> cases o' <;> simp only [OSub] at s
  · simp only [ORel] at h ⊢
    obtain ⟨vs, rest, T, fr, h1, h2, h3⟩ := h
    exact ⟨vs, rest, T, fr, h1, s G w vs h2, h3⟩
  · subst s; exact h

theorem RepH.le {G : Ghost} {w : World} {h h' : H} (R : RepH G h w) (s : HLe h h') : RepH G h' w where
  obj id o' ho' := by
    obtain ⟨o, ho, hs⟩ := s.1 id o' ho'
    obtain ⟨a, b, c, d⟩ := R.obj id o ho
    exact ⟨a, b, c, d.sub hs⟩
  inj id id' o o' ho ho' := by
    obtain ⟨p, hp, -⟩ := s.1 id o ho
    obtain ⟨p', hp', -⟩ := s.1 id' o' ho'
    exact R.inj id id' p p' hp hp'
  tok t ht := R.tok t (s.2 t ht)
  tinj t ht t' ht' := R.tinj t (s.2 t ht) t' (s.2 t' ht')

theorem Trans.le {G : Ghost} {w : World} {h h' : H} (s : HLe h h') (n : h.n ≤ h'.n) (m : h.m ≤ h'.m) : Trans G w h G w h' where
  dom_le _ x := x
  dom_new _ := .inl
  ι_eq _ _ := rfl
  tdom_le _ x := x
  tdom_new _ := .inl
  τ_eq _ _ := rfl
  n_le := n
  m_le := m
  size_le := Nat.le_refl _
  os := rfl
  output := rfl
  form _ _ := SameForm.refl _
  keep _ _ _ _ := rfl
  own_keep _ _ _ := Iff.rfl
  lim_keep _ _ _ _ := rfl
  tok_keep _ _ _ _ e he := ⟨fun _ _ => rfl, fun e' he' => by rw [he] at he'; cases he'; exact Nat.le_refl _⟩
  O_new _ _ := fun ⟨id, o, ho, e⟩ => let ⟨o', ho', _⟩ := s.1 id o ho; ⟨id, o', ho', e⟩
  T_new _ _ := fun ⟨t, ht, e⟩ => ⟨t, s.2 t ht, e⟩
  objs_new j o x := let ⟨o', ho', _⟩ := s.1 j o x; .inl ⟨o', ho'⟩
  toks_new t x := .inl (s.2 t x)

/-- slots, objects that say less; fewer of them; higher numbers -/
theorem StLe.mk' {t t' : Tm} {h h' : H} (ht : ∀ i, VSub (t i) (t' i)) (hh : HLe h h') (n : h.n ≤ h'.n) (m : h.m ≤ h'.m) : StLe ⟨t, h⟩ ⟨t', h'⟩ :=
  ⟨n, m, fun N G w a r _ => ⟨G, Trans.le hh n m, ⟨r.size, fun i => ht i G w _ (r.t i), r.h.le hh⟩⟩⟩

/-- a right that binds nothing -/
theorem StLe.tok (t : Tm) (h : H) : StLe ⟨t, h⟩ ⟨t, { h with toks := h.m :: h.toks, m := h.m + 1 }⟩ := by
  refine ⟨Nat.le_refl _, Nat.le_succ _, fun N G w a r F => ?_⟩
  have hm : ¬ G.tdom h.m := F.2 h.m (Nat.le_refl _) (Nat.lt_succ_self _)
  let G' : Ghost := { G with tdom := fun x => G.tdom x ∨ x = h.m, τ := upd G.τ h.m none }
  have hτ : G'.τ h.m = none := by simp [G', upd]
  have hne : ∀ x, G.tdom x → G'.τ x = G.τ x := fun x hx => by
    simp only [G', upd]
    rw [if_neg]
    rintro rfl; exact hm hx
  have T : Trans G w h G' w { h with toks := h.m :: h.toks, m := h.m + 1 } := by
    constructor
    · exact fun _ x => x
    · exact fun _ => .inl
    · exact fun _ _ => rfl
    · exact fun _ => .inl
    · rintro x (hx | rfl)
      · exact .inl hx
      · exact .inr ⟨Nat.le_refl _, Nat.lt_succ_self _⟩
    · exact hne
    · exact Nat.le_refl _
    · exact Nat.le_succ _
    · exact Nat.le_refl _
    · rfl
    · rfl
    · exact fun _ _ => SameForm.refl _
    · exact fun _ _ _ _ => rfl
    · exact fun _ _ _ => Iff.rfl
    · exact fun _ _ _ _ => rfl
    · exact fun _ _ _ _ e he => ⟨fun _ _ => rfl, fun e' he' => by
        have : G.lim _ = some e' := he'
        rw [he] at this; cases this; exact Nat.le_refl _⟩
    · exact fun _ _ x => x
    · rintro B _ ⟨x, hx, e, hte⟩
      rcases List.mem_cons.1 hx with rfl | hx
      · rw [hτ] at hte; cases hte
      · exact ⟨x, hx, e, by rw [← hte]; exact (hne x (r.h.tok x hx).1).symm⟩
    · exact fun j o x => .inl ⟨o, x⟩
    · intro x hx
      rcases List.mem_cons.1 hx with rfl | hx
      · exact .inr ⟨Nat.le_refl _, Nat.lt_succ_self _⟩
      · exact .inl hx
  refine ⟨G', T, r.size, fun i => VRel.mono r.h T _ _ (r.t i), ⟨?_, r.h.inj, ?_, ?_⟩⟩
  · intro id o ho
    obtain ⟨q1, q2, q3, q4⟩ := r.h.obj id o ho
    exact ⟨q1, q2, q3, q4.mono r.h T⟩
  · intro x hx
    rcases List.mem_cons.1 hx with rfl | hx
    · exact ⟨.inr rfl, fun B e hte => by rw [hτ] at hte; cases hte⟩
    · obtain ⟨q1, q2⟩ := r.h.tok x hx
      exact ⟨.inl q1, fun B e hte => q2 B e (by rw [← hne x q1]; exact hte)⟩
  · intro x hx x' hx' B e e' h1 h2
    rcases List.mem_cons.1 hx with rfl | hx
    · rw [hτ] at h1; cases h1
    · rcases List.mem_cons.1 hx' with rfl | hx'
      · rw [hτ] at h2; cases h2
      · exact r.h.tinj x hx x' hx' B e e' (by rw [← hne x (r.h.tok x hx).1]; exact h1) (by rw [← hne x' (r.h.tok x' hx').1]; exact h2)

theorem Run.le {c : Code} {s' s'' : St} {e : AExit} (h : StLe s s') (r : Run P N c s' e s'') : Run P N c s e s'' := by
  obtain ⟨⟨rn, rm⟩, rr⟩ := r
  refine ⟨⟨Nat.le_trans h.n rn, Nat.le_trans h.m rm⟩, fun G w a rel F => ?_⟩
  obtain ⟨G1, T1, rel1⟩ := h.go N G w a rel (F.sub (Nat.le_refl _) rn (Nat.le_refl _) rm)
  refine wp_mono (rr G1 w a rel1 (F.step T1)) ?_
  rintro e' a' w' ⟨h1, h2, G', T, r'⟩
  exact ⟨h1, h2, G', T1.trans rel.h rel1.h T, r'⟩

theorem Wp.le {c : AC} {s' : St} (h : StLe s s') (hw : Wp P N c s' Q) : Wp P N c s Q :=
  fun code hc => let ⟨e, s'', r, q⟩ := hw code hc; ⟨e, s'', r.le h, q⟩

theorem code_loop {code : Code} {x : AC} (h : cCode P N code = some (.loop x)) : ∃ a, code = .loop a ∧ cCode P N a = some x := by
  cases code <;> simp only [cCode] at h <;> (try cases h)
  · (repeat' split at h) <;> cases h
  · (repeat' split at h) <;> cases h
  · (repeat' split at h) <;> cases h
  · simp at h
  · simp only [Option.map_eq_some_iff] at h
    obtain ⟨a, h1, h2⟩ := h
    cases h2
    exact ⟨_, rfl, h1⟩
  all_goals simp at h

theorem wp_loop_ix {β : Type} {c : Code} {Q : Exit → Act → World → Prop} (I : β → Act → World → Prop) (μ : β → Nat)
    (round : ∀ b a w, I b a w → c.wp P (Exit.then (fun a' w' => ∃ b', I b' a' w' ∧ μ b' < μ b) Q) a w) {b : β} {a : Act} {w : World} (h₀ : I b a w) : (Code.loop c).wp P Q a w := by
  intro fr k cs
  have key : ∀ n b a w, μ b = n → I b a w → ∃ e a' w', Q e a' w' ∧ Arrives P (lone (fr.at a (.code c :: .inLoop c :: k)) cs w) fr k cs e a' w' := by
    intro n
    induction n using Nat.strongRecOn with
    | _ n ih =>
      intro b a w hn hI
      obtain ⟨e, a₁, w₁, hq, harr⟩ := round b a w hI fr (.inLoop c :: k) cs
      cases e with
      | normal =>
        obtain ⟨b₁, hI₁, hlt⟩ := hq
        obtain ⟨e₂, a₂, w₂, hq₂, harr₂⟩ := ih (μ b₁) (hn ▸ hlt) b₁ a₁ w₁ rfl hI₁
        exact ⟨e₂, a₂, w₂, hq₂, .of_steps (Steps.trans harr (.one step_inLoop)) harr₂⟩
      | exit id => exact ⟨_, a₁, w₁, hq, .pass (x := .inLoop c) rfl (fun _ _ => .inl (by simp)) harr⟩
      | goto l => exact ⟨_, a₁, w₁, hq, .pass (x := .inLoop c) rfl (fun _ _ => .inl (by simp)) harr⟩
      | ret => exact ⟨_, a₁, w₁, hq, .pass (x := .inLoop c) rfl (fun _ _ => .inl (by simp)) harr⟩
      | panic ch => exact ⟨_, a₁, w₁, hq, .pass (x := .inLoop c) rfl (fun _ _ => .inl (by simp)) harr⟩
      | outgrown => exact ⟨_, a₁, w₁, hq, .pass (x := .inLoop c) rfl (fun _ _ => .inl (by simp)) harr⟩
  obtain ⟨e, a', w', hq, harr⟩ := key _ b a w rfl h₀
  exact ⟨e, a', w', hq, .of_steps (.one step_loop) harr⟩

/-- what a loop comes to -/
inductive Comes' {β : Type} (P : Program) (N : Nat) (c : Code) (S : β → St) (μ : β → Nat) : β → AExit → St → Prop where
  | last {b : β} {e : AExit} {s' : St} (r : Run P N c (S b) e s') (hne : e ≠ .normal) : Comes' P N c S μ b e s'
  | more {b b' : β} {e : AExit} {s1 s' : St} (r : Run P N c (S b) .normal s1) (hle : StLe s1 (S b')) (hlt : μ b' < μ b) (rest : Comes' P N c S μ b' e s') : Comes' P N c S μ b e s'

theorem Comes'.nm {β : Type} {c : Code} {S : β → St} {μ : β → Nat} {b : β} {e : AExit} {s' : St} (h : Comes' P N c S μ b e s') : (S b).h.n ≤ s'.h.n ∧ (S b).h.m ≤ s'.h.m := by
  induction h with
  | last r _ => exact r.1
  | more r hle _ _ ih => have := r.1; have := hle.n; have := hle.m; omega

theorem Wp.loop {β : Type} (S : β → St) (I : β → Prop) (μ : β → Nat) {c : AC} (b0 : β) (h0 : I b0) (hs : StLe s (S b0))
    (round : ∀ b, I b → Wp P N c (S b) (AExit.andThen (fun s' => ∃ b', I b' ∧ μ b' < μ b ∧ StLe s' (S b')) Q)) : Wp P N (.loop c) s Q := by
  intro code hc
  obtain ⟨x, rfl, hx⟩ := code_loop hc
  have ex : ∀ n b, μ b = n → I b → ∃ e s', Comes' P N x S μ b e s' ∧ Q e s' := by
    intro n
    induction n using Nat.strongRecOn with
    | _ n ih =>
      intro b hn hb
      obtain ⟨e, s1, r1, q1⟩ := round b hb x hx
      cases e with
      | normal =>
        obtain ⟨b', i1, i2, i3⟩ := q1
        obtain ⟨e, s', r', q'⟩ := ih (μ b') (hn ▸ i2) b' rfl i1
        exact ⟨e, s', .more r1 i3 i2 r', q'⟩
      | exit id => exact ⟨_, s1, .last r1 (by simp), q1⟩
      | goto l => exact ⟨_, s1, .last r1 (by simp), q1⟩
      | ret => exact ⟨_, s1, .last r1 (by simp), q1⟩
  obtain ⟨e, s', hcm, q⟩ := ex _ b0 rfl h0
  refine ⟨e, s', Run.le hs ⟨hcm.nm, fun G0 w0 a0 rel0 F0 => ?_⟩, q⟩
  refine wp_loop_ix (fun b a w => Comes' P N x S μ b e s' ∧ a.defers = a0.defers ∧ ∃ G, Trans G0 w0 (S b0).h G w (S b).h ∧ Rel N (S b) G w a ∧ Fresh G (S b).h s'.h) μ ?_ ⟨hcm, rfl, G0, Trans.refl _ _ _, rel0, F0⟩
  rintro b a w ⟨hcm, hd, G, T, rel, F⟩
  cases hcm with
  | last r hne =>
    refine wp_mono (r.2 G w a rel F) ?_
    rintro e' a' w' ⟨h1, h2, G', T', r'⟩
    have : e' ≠ .normal := by
      rintro rfl
      cases e <;> simp [AExit.says] at h1 hne
    have hgoal : e.says e' ∧ a'.defers = a0.defers ∧ ∃ G', Trans G0 w0 (S b0).h G' w' s'.h ∧ Rel N s' G' w' a' := ⟨h1, h2.trans hd, G', T.trans rel0.h rel.h T', r'⟩
    cases e' <;> first | exact hgoal | exact absurd rfl this
  | more r hle hlt rest =>
    have nm := rest.nm
    refine wp_mono (r.2 G w a rel (F.sub (Nat.le_refl _) (Nat.le_trans hle.n nm.1) (Nat.le_refl _) (Nat.le_trans hle.m nm.2))) ?_
    rintro e' a' w' ⟨h1, h2, G', T', r'⟩
    cases e' <;> simp only [AExit.says] at h1
    rename_i b' s1
    have F1 := F.step T'
    obtain ⟨G2, T2, r2⟩ := hle.go N G' w' a' r' (F1.sub (Nat.le_refl _) nm.1 (Nat.le_refl _) nm.2)
    have T3 := (T.trans rel0.h rel.h T').trans rel0.h r'.h T2
    exact ⟨b', ⟨rest, h2.trans hd, G2, T3, r2, F1.step T2⟩, hlt⟩

/-! ## Labels -/

def findL : AC → Nat → Option AC
  | .seq a b, l => match findL a l with
    | some r => some (.seq r b)
    | none => findL b l
  | .label l', l => if l' = l then some .skip else none
  | _, _ => none

theorem find_label {l : Nat} : ∀ {c : Code} {x : AC}, cCode P N c = some x → match findLabel c l with | some rest => ∃ y, cCode P N rest = some y ∧ findL x l = some y | none => findL x l = none := by
  intro c
  induction c with
  | seq a b iha ihb =>
    intro x h
    obtain ⟨a', b', he, h1, h2⟩ : ∃ a' b', x = .seq a' b' ∧ cCode P N a = some a' ∧ cCode P N b = some b' := by
      simp only [cCode] at h
      split at h
      · cases h; exact ⟨_, _, rfl, ‹_›, ‹_›⟩
      · cases h
    subst he
    have ga := iha h1
    have gb := ihb h2
    simp only [findLabel, findL]
    cases hf : findLabel a l with
    | some rest =>
      rw [hf] at ga
      obtain ⟨y, y1, y2⟩ := ga
      simp only [y2]
      exact ⟨_, by simp only [cCode, y1, h2], rfl⟩
    | none =>
      rw [hf] at ga
      simp only at ga
      simp only [ga]
      exact gb
  | label l' =>
    intro x h
    simp only [cCode, Option.some.injEq] at h
    subst h
    simp only [findLabel, findL]
    by_cases e : l' = l
    · simp only [e, beq_self_eq_true, if_true]
      exact ⟨.skip, rfl, rfl⟩
    · have : (l' == l) = false := by simpa using e
      simp only [this, if_neg e, Bool.false_eq_true, if_false]
  | skip => intro x h; simp only [cCode, Option.some.injEq] at h; subst h; simp [findLabel, findL]
  | region id ops draw =>
    intro x h
    simp only [cCode] at h
    (repeat' split at h) <;> cases h <;> simp [findLabel, findL]
  | cond z a b _ _ =>
    intro x h
    simp only [cCode] at h
    split at h <;> cases h
    simp [findLabel, findL]
  | block id a _ => intro x h; simp only [cCode, Option.map_eq_some_iff] at h; obtain ⟨_, _, rfl⟩ := h; simp [findLabel, findL]
  | loop a _ => intro x h; simp only [cCode, Option.map_eq_some_iff] at h; obtain ⟨_, _, rfl⟩ := h; simp [findLabel, findL]
  | rangeFunc => intro x h; simp [cCode] at h
  | exit id => intro x h; simp only [cCode, Option.some.injEq] at h; subst h; simp [findLabel, findL]
  | scope a _ => intro x h; simp only [cCode, Option.map_eq_some_iff] at h; obtain ⟨_, _, rfl⟩ := h; simp [findLabel, findL]
  | goto l' => intro x h; simp only [cCode, Option.some.injEq] at h; subst h; simp [findLabel, findL]
  | ret => intro x h; simp only [cCode, Option.some.injEq] at h; subst h; simp [findLabel, findL]
  | refuse => intro x h; simp [cCode] at h

/-- a piece of code within a scope -/
def ScopeWp (P : Program) (c cur : Code) (Q : Exit → Act → World → Prop) (a : Act) (w : World) : Prop :=
  ∀ (b : Frame) (k : List Item) (cs : List Frame), ∃ e a' w', Q e a' w' ∧ Arrives P (lone (b.at a (.code cur :: .inScope c :: k)) cs w) b k cs e a' w'

theorem ScopeWp.start {c : Code} {Q : Exit → Act → World → Prop} {a : Act} {w : World} (h : ScopeWp P c c Q a w) : (Code.scope c).wp P Q a w := by
  intro b k cs
  obtain ⟨e, a₁, w₁, hq, harr⟩ := h b k cs
  exact ⟨e, a₁, w₁, hq, .of_steps (.one step_scope) harr⟩

/-- what follows a way out of a scope's code -/
def Exit.within (P : Program) (c : Code) (Q : Exit → Act → World → Prop) : Exit → Act → World → Prop
  | .goto l, a, w => match findLabel c l with
    | some rest => ScopeWp P c rest Q a w
    | none => Q (.goto l) a w
  | e, a, w => Q e a w

theorem ScopeWp.step {c cur : Code} {Q : Exit → Act → World → Prop} {a : Act} {w : World} (h : cur.wp P (Exit.within P c Q) a w) : ScopeWp P c cur Q a w := by
  intro b k cs
  obtain ⟨e, a₁, w₁, hq, harr⟩ := h b (.inScope c :: k) cs
  cases e with
  | normal => exact ⟨.normal, a₁, w₁, hq, Steps.trans harr (.one step_inScope)⟩
  | exit id => exact ⟨.exit id, a₁, w₁, hq, fun k' hk => harr k' (by simp [exitTo, hk])⟩
  | goto l =>
    simp only [Exit.within] at hq
    cases hf : findLabel c l with
    | some rest =>
      rw [hf] at hq
      obtain ⟨e₂, a₂, w₂, hq₂, harr₂⟩ := hq b k cs
      exact ⟨e₂, a₂, w₂, hq₂, .of_steps (harr _ (by simp [gotoIn, hf])) harr₂⟩
    | none =>
      rw [hf] at hq
      exact ⟨.goto l, a₁, w₁, hq, fun k' hk => harr k' (by simp [gotoIn, hf, hk])⟩
  | ret => exact ⟨_, a₁, w₁, hq, harr⟩
  | panic ch => exact ⟨_, a₁, w₁, hq, harr⟩
  | outgrown => exact ⟨_, a₁, w₁, hq, harr⟩

def RunS (P : Program) (N : Nat) (c cur : Code) (s : St) (e : AExit) (s' : St) : Prop :=
  (s.h.n ≤ s'.h.n ∧ s.h.m ≤ s'.h.m) ∧ ∀ G w a, Rel N s G w a → Fresh G s.h s'.h → ScopeWp P c cur (fun e' a' w' => e.says e' ∧ a'.defers = a.defers ∧ ∃ G', Trans G w s.h G' w' s'.h ∧ Rel N s' G' w' a') a w

/-- within a scope -/
def WpS (P : Program) (N : Nat) (c cur : AC) (s : St) (Q : AExit → St → Prop) : Prop :=
  ∀ code ccur, cCode P N code = some c → cCode P N ccur = some cur → ∃ e s', RunS P N code ccur s e s' ∧ Q e s'

theorem code_scope {code : Code} {x : AC} (h : cCode P N code = some (.scope x)) : ∃ a, code = .scope a ∧ cCode P N a = some x := by
  cases code <;> simp only [cCode] at h <;> (try cases h)
  · (repeat' split at h) <;> cases h
  · (repeat' split at h) <;> cases h
  · (repeat' split at h) <;> cases h
  · simp at h
  · simp at h
  · simp only [Option.map_eq_some_iff] at h
    obtain ⟨a, h1, h2⟩ := h
    cases h2
    exact ⟨_, rfl, h1⟩
theorem code_label {code : Code} {l : Nat} (h : cCode P N code = some (.label l)) : code = .label l := by
  cases code <;> simp only [cCode] at h <;> (try cases h) <;> (try rfl)
  all_goals first | ((repeat' split at h) <;> cases h; done) | (simp at h; done)
theorem code_goto {code : Code} {l : Nat} (h : cCode P N code = some (.goto l)) : code = .goto l := by
  cases code <;> simp only [cCode] at h <;> (try cases h) <;> (try rfl)
  all_goals first | ((repeat' split at h) <;> cases h; done) | (simp at h; done)

theorem Wp.label {l : Nat} (h : Q .normal s) : Wp P N (.label l) s Q := by
  intro code hc
  obtain rfl := code_label hc
  exact ⟨.normal, s, ⟨⟨Nat.le_refl _, Nat.le_refl _⟩, fun G w a r _ => wp_label ⟨trivial, rfl, G, Trans.refl _ _ _, r⟩⟩, h⟩
theorem Wp.goto {l : Nat} (h : Q (.goto l) s) : Wp P N (.goto l) s Q := by
  intro code hc
  obtain rfl := code_goto hc
  exact ⟨.goto l, s, ⟨⟨Nat.le_refl _, Nat.le_refl _⟩, fun G w a r _ => wp_goto ⟨rfl, rfl, G, Trans.refl _ _ _, r⟩⟩, h⟩
theorem Wp.scope {c : AC} (h : WpS P N c c s Q) : Wp P N (.scope c) s Q := by
  intro code hc
  obtain ⟨x, rfl, hx⟩ := code_scope hc
  obtain ⟨e, s', r, q⟩ := h x x hx hx
  exact ⟨e, s', ⟨r.1, fun G w a rel F => (r.2 G w a rel F).start⟩, q⟩

theorem RunS.le {c cur : Code} {s' s'' : St} {e : AExit} (h : StLe s s') (r : RunS P N c cur s' e s'') : RunS P N c cur s e s'' := by
  obtain ⟨⟨rn, rm⟩, rr⟩ := r
  refine ⟨⟨Nat.le_trans h.n rn, Nat.le_trans h.m rm⟩, fun G w a rel F => ?_⟩
  obtain ⟨G1, T1, rel1⟩ := h.go N G w a rel (F.sub (Nat.le_refl _) rn (Nat.le_refl _) rm)
  intro b k cs
  obtain ⟨e', a', w', ⟨h1, h2, G', T, r'⟩, harr⟩ := rr G1 w a rel1 (F.step T1) b k cs
  exact ⟨e', a', w', ⟨h1, h2, G', T1.trans rel.h rel1.h T, r'⟩, harr⟩

theorem WpS.le {c cur : AC} {s' : St} (h : StLe s s') (hw : WpS P N c cur s' Q) : WpS P N c cur s Q :=
  fun code ccur h1 h2 => let ⟨e, s'', r, q⟩ := hw code ccur h1 h2; ⟨e, s'', r.le h, q⟩

/-- what follows a way out of a scope's code -/
def AExit.within (P : Program) (N : Nat) (c : AC) (Q : AExit → St → Prop) : AExit → St → Prop
  | .goto l, s => match findL c l with
    | some rest => WpS P N c rest s Q
    | none => Q (.goto l) s
  | e, s => Q e s

theorem WpS.step {c cur : AC} (h : Wp P N cur s (AExit.within P N c Q)) : WpS P N c cur s Q := by
  intro code ccur hc hcur
  obtain ⟨e, s1, r1, q1⟩ := h ccur hcur
  cases e with
  | normal =>
    refine ⟨.normal, s1, ⟨r1.1, fun G w ac r F => .step (wp_mono (r1.2 G w ac r F) ?_)⟩, q1⟩
    rintro e' a' w' ⟨h1, h2⟩
    cases e' <;> simp only [AExit.says] at h1
    exact ⟨trivial, h2⟩
  | ret =>
    refine ⟨.ret, s1, ⟨r1.1, fun G w ac r F => .step (wp_mono (r1.2 G w ac r F) ?_)⟩, q1⟩
    rintro e' a' w' ⟨h1, h2⟩
    cases e' <;> simp only [AExit.says] at h1
    exact ⟨trivial, h2⟩
  | exit i =>
    refine ⟨.exit i, s1, ⟨r1.1, fun G w ac r F => .step (wp_mono (r1.2 G w ac r F) ?_)⟩, q1⟩
    rintro e' a' w' ⟨h1, h2⟩
    cases e' <;> simp only [AExit.says] at h1
    exact ⟨h1, h2⟩
  | goto l =>
    simp only [AExit.within] at q1
    have hfl := find_label (l := l) hc
    cases hf : findLabel code l with
    | none =>
      rw [hf] at hfl
      simp only at hfl
      rw [hfl] at q1
      refine ⟨.goto l, s1, ⟨r1.1, fun G w ac r F => .step (wp_mono (r1.2 G w ac r F) ?_)⟩, q1⟩
      rintro e' a' w' ⟨h1, h2⟩
      cases e' <;> simp only [AExit.says] at h1
      subst h1
      simp only [Exit.within, hf]
      exact ⟨rfl, h2⟩
    | some rest =>
      rw [hf] at hfl
      obtain ⟨y, y1, y2⟩ := hfl
      rw [y2] at q1
      obtain ⟨e2, s2, r2, q2⟩ := q1 code rest hc y1
      obtain ⟨⟨l1, l2⟩, r1⟩ := r1
      obtain ⟨⟨l3, l4⟩, r2⟩ := r2
      refine ⟨e2, s2, ⟨⟨by omega, by omega⟩, fun G w ac r F => .step (wp_mono (r1 G w ac r (F.sub (Nat.le_refl _) l3 (Nat.le_refl _) l4)) ?_)⟩, q2⟩
      rintro e' a' w' ⟨h1, h2, G', T1, r'⟩
      cases e' <;> simp only [AExit.says] at h1
      subst h1
      simp only [Exit.within, hf]
      intro b k cs
      obtain ⟨e'', a'', w'', ⟨k1, k2, G'', T2, r''⟩, harr⟩ := r2 G' w' a' r' (F.step T1) b k cs
      exact ⟨e'', a'', w'', ⟨k1, k2.trans h2, G'', T1.trans r.h r'.h T2, r''⟩, harr⟩
end
end Go.Av
