/- Abstract values for Go programs: an immutable slice carries its elements; what is written through an address is a tracked object. This text: the values, how they stand in a world, and what keeps them standing. -/
import Derived.Orders
import Derived.KernelRfl
namespace Go.Av

inductive Cap where
  | any
  | exact (c : Nat)
  | own (t : Nat)

inductive AV where
  | any
  | int (k : IntKind) (n : Int)
  | bool (b : Bool)
  | str (l : List UInt8)
  | sc (v : Value)
  | sl (sz : Nat) (xs : List AV) (c : Cap)
  | ref (cs : List AV)
  | agg (cs : List AV)
  | tup (xs : List AV)
  | ptr (id off : Nat)
  | tsl (sz id off len : Nat) (cap : Option Nat)
  | clo (fn : Fn) (first captured : List AV)
  | ifc (t : TypeId) (x : AV)
  | mp (id : Nat)

instance : Inhabited AV := ⟨.any⟩

structure Ghost where
  dom : Nat → Prop
  ι : Nat → Nat
  tdom : Nat → Prop
  τ : Nat → Option (Nat × Nat)
  own : Nat → Prop
  lim : Nat → Option Nat

/-- the value of one cell -/
def One (v : Value) : Prop := (∀ a, v ≠ .agg a) ∧ (∀ a, v ≠ .tuple a)

/-- cells that nothing writes any more -/
def Imm (G : Ghost) (w : World) (B off : Nat) (vs : List Value) : Prop :=
  ∀ i v, vs[i]? = some v → w.cell? ⟨B, off + i, none⟩ = some v ∧ One v ∧ ¬ G.own B ∧ (∀ e, G.lim B = some e → off + i < e)

/-- a row of cells, as a whole block has it, that may be written -/
def Room (w : World) (B upto : Nat) : Prop :=
  ∃ cs T fr, w.heap[B]? = some (.cells cs T fr) ∧ upto ≤ cs.size ∧ (∀ j, j < cs.size → ¬ (fr.1 ≤ j ∧ j < fr.2))

def CapOk (G : Ghost) (w : World) (c : Cap) (B off len C sz : Nat) : Prop :=
  match c with
  | .any => True
  | .exact c => C = c
  | .own t => C = len ∨ (G.tdom t ∧ G.τ t = some (B, off + len * sz) ∧ Room w B (off + C * sz))

def CapNil (c : Cap) : Prop :=
  match c with
  | .exact c => c = 0
  | _ => True

mutual
def VRel (G : Ghost) (w : World) : AV → Value → Prop
  | .any, _ => True
  | .int k n, v => v = .int k n
  | .bool b, v => v = .bool b
  | .str l, v => v = .string ⟨l.toArray⟩
  | .sc x, v => v = x
  | .sl sz xs c, v => (xs = [] ∧ (∃ a, v = .slice a 0 0) ∧ CapNil c) ∨
      ∃ B off C vs, v = .slice (some ⟨B, off, none⟩) xs.length C ∧ xs.length ≤ C ∧ vs.length = xs.length * sz ∧ VElems G w sz xs vs ∧ Imm G w B off vs ∧ CapOk G w c B off xs.length C sz
  | .ref cs, v => ∃ B off vs, v = .pointer (some ⟨B, off, none⟩) ∧ VRels G w cs vs ∧ Imm G w B off vs
  | .agg cs, v => ∃ vs, v = .agg vs.toArray ∧ VRels G w cs vs
  | .tup xs, v => ∃ vs, v = .tuple vs.toArray ∧ VRels G w xs vs
  | .ptr id off, v => G.dom id ∧ v = .pointer (some ⟨G.ι id, off, none⟩)
  | .tsl sz id off len cap, v => G.dom id ∧ ((∃ C c T fr, v = .slice (some ⟨G.ι id, off, none⟩) len C ∧ (len ≤ C ∧ C ≤ 9223372036854775807) ∧ (∀ k, cap = some k → C = k) ∧ w.heap[G.ι id]? = some (.cells c T fr) ∧ off + C * sz ≤ c.size) ∨
      (len = 0 ∧ (∃ a, v = .slice (some a) 0 0) ∧ ∀ k, cap = some k → k = 0))
  | .clo fn a b, v => ∃ vs us, v = .func fn vs.toArray us.toArray ∧ VRels G w a vs ∧ VRels G w b us
  | .ifc t x, v => ∃ u, v = .iface t u ∧ VRel G w x u
  | .mp id, v => G.dom id ∧ v = .map (some (G.ι id))
def VRels (G : Ghost) (w : World) : List AV → List Value → Prop
  | [], vs => vs = []
  | x :: xs, vs => ∃ v us, vs = v :: us ∧ VRel G w x v ∧ VRels G w xs us
def VElems (G : Ghost) (w : World) (sz : Nat) : List AV → List Value → Prop
  | [], vs => vs = []
  | x :: xs, vs => ∃ v us, vs = v.cells.toList ++ us ∧ v.cells.size = sz ∧ VRel G w x v ∧ VElems G w sz xs us
end

inductive Obj where
  | cells (cs : List AV)
  | map (es : List (AV × AV))

def Entries (G : Ghost) (w : World) : List (AV × AV) → List MapEntry → Prop
  | [], es => es = []
  | (k, v) :: l, es => ∃ e r, es = e :: r ∧ VRel G w k e.key ∧ VRel G w v e.val ∧ Entries G w l r

def ORel (G : Ghost) (w : World) (o : Obj) (x : Option Go.Obj) : Prop :=
  match o with
  | .cells cs => ∃ vs rest T fr, x = some (.cells (vs ++ rest).toArray T fr) ∧ VRels G w cs vs ∧ (∀ j, ¬ (fr.1 ≤ j ∧ j < fr.2)) ∧ (∀ v ∈ vs, One v)
  | .map es => ∃ en clock, x = some (.map en clock) ∧ Entries G w es en.toList

structure H where
  objs : Nat → Option Obj
  n : Nat
  toks : List Nat
  m : Nat

def H.O (h : H) (G : Ghost) (B : Nat) : Prop := ∃ id o, h.objs id = some o ∧ G.ι id = B
def H.T (h : H) (G : Ghost) (B : Nat) : Prop := ∃ t ∈ h.toks, ∃ e, G.τ t = some (B, e)

structure RepH (G : Ghost) (h : H) (w : World) : Prop where
  obj : ∀ id o, h.objs id = some o → G.dom id ∧ G.own (G.ι id) ∧ G.ι id < w.heap.size ∧ ORel G w o w.heap[G.ι id]?
  inj : ∀ id id' o o', h.objs id = some o → h.objs id' = some o' → G.ι id = G.ι id' → id = id'
  tok : ∀ t ∈ h.toks, G.tdom t ∧ ∀ B e, G.τ t = some (B, e) → G.lim B = some e ∧ ¬ G.own B ∧ B < w.heap.size
  tinj : ∀ t ∈ h.toks, ∀ t' ∈ h.toks, ∀ B e e', G.τ t = some (B, e) → G.τ t' = some (B, e') → t = t'

/-- a block keeps its form -/
def SameForm : Option Go.Obj → Option Go.Obj → Prop
  | some (.cells c T fr), x => ∃ c', x = some (.cells c' T fr) ∧ c'.size = c.size
  | some (.map _ _), x => ∃ e k, x = some (.map e k)
  | o, x => x = o

structure Trans (G : Ghost) (w : World) (h : H) (G' : Ghost) (w' : World) (h' : H) : Prop where
  dom_le : ∀ id, G.dom id → G'.dom id
  dom_new : ∀ id, G'.dom id → G.dom id ∨ (h.n ≤ id ∧ id < h'.n)
  ι_eq : ∀ id, G.dom id → G'.ι id = G.ι id
  tdom_le : ∀ t, G.tdom t → G'.tdom t
  tdom_new : ∀ t, G'.tdom t → G.tdom t ∨ (h.m ≤ t ∧ t < h'.m)
  τ_eq : ∀ t, G.tdom t → G'.τ t = G.τ t
  n_le : h.n ≤ h'.n
  m_le : h.m ≤ h'.m
  size_le : w.heap.size ≤ w'.heap.size
  os : w'.os = w.os
  output : w'.output = w.output
  form : ∀ B, B < w.heap.size → SameForm w.heap[B]? w'.heap[B]?
  keep : ∀ B, B < w.heap.size → ¬ h.O G B → ¬ h.T G B → w'.heap[B]? = w.heap[B]?
  own_keep : ∀ B, B < w.heap.size → ¬ h.O G B → (G'.own B ↔ G.own B)
  lim_keep : ∀ B, B < w.heap.size → ¬ h.O G B → ¬ h.T G B → G'.lim B = G.lim B
  tok_keep : ∀ B, B < w.heap.size → h.T G B → ¬ h.O G B → (∀ e, G.lim B = some e → (∀ j, j < e → w'.cell? ⟨B, j, none⟩ = w.cell? ⟨B, j, none⟩) ∧ (∀ e', G'.lim B = some e' → e ≤ e'))
  O_new : ∀ B, B < w.heap.size → h'.O G' B → h.O G B
  T_new : ∀ B, B < w.heap.size → h'.T G' B → h.T G B
  objs_new : ∀ j o, h'.objs j = some o → (∃ o', h.objs j = some o') ∨ (h.n ≤ j ∧ j < h'.n)
  toks_new : ∀ t, t ∈ h'.toks → t ∈ h.toks ∨ (h.m ≤ t ∧ t < h'.m)

/-- what is new has names that nothing bears -/
def Fresh (G : Ghost) (h h' : H) : Prop := (∀ id, h.n ≤ id → id < h'.n → ¬ G.dom id) ∧ (∀ t, h.m ≤ t → t < h'.m → ¬ G.tdom t)

def H.sub (h1 h : H) : Prop := (∀ j o, h1.objs j = some o → h.objs j = some o) ∧ (∀ t ∈ h1.toks, t ∈ h.toks)

/-- a heap of which a part has turned into another -/
def H.patch (h h1 h1' : H) : H where
  objs j := if (h1.objs j).isSome ∨ (h1.n ≤ j ∧ j < h1'.n) then h1'.objs j else h.objs j
  n := h1'.n
  toks := h1'.toks ++ h.toks.filter (fun t => !h1.toks.contains t)
  m := h1'.m
end Go.Av
