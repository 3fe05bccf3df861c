/- The operations on abstract values: a compact form of the program's operations ('cOp' makes it), and what each does ('aop'). -/
import Derived.Test.YtlefnohibjcekaaAvMono
namespace Go.Av

inductive Opd where
  | t (i : Nat)
  | c (a : AV)

inductive CK where
  | toInt (k : IntKind)
  | b2s
  | s2b
  | idem

/-- kinds of cells that can be held against each other -/
inductive EK where
  | int
  | bool
  | str
  deriving DecidableEq

inductive AOp where
  | mov (x : Opd)
  | pick (c a b : Opd)
  | alloc (zero : List AV)
  | box (x : Opd)
  | build (zero : List AV) (parts : List (Nat × Nat × Opd))
  | buildSl (sz : Nat) (parts : List Opd)
  | load (n : Option Nat) (x : Opd)
  | store (n : Nat) (x v : Opd)
  | bin (op : BinOp) (x y : Opd)
  | eqB (neg : Bool) (x y : Opd)
  | eqP (neg : Bool) (x y : Opd)
  | eqN (neg : Bool) (x : Opd)
  | eqA (neg : Bool) (ks : List EK) (x y : Opd)
  | un (op : UnOp) (x : Opd)
  | conv (k : CK) (x : Opd)
  | mkfn (fn : Fn) (first captured : List Opd)
  | mksl (sz bytes : Nat) (zero : AV) (len cap : Opd)
  | slc (str : Bool) (sz : Nat) (x : Opd) (lo hi mx : Option Opd)
  | faddr (off : Nat) (x : Opd)
  | fld (off : Nat) (n : Option Nat) (x : Opd)
  | iaddr (sz : Nat) (x i : Opd)
  | idx (x i : Opd)
  | ext (x : Opd) (i : Nat)
  | nilck (x : Opd)
  | len (str : Bool) (x : Opd)
  | app (str : Bool) (sz bytes : Nat) (s x : Opd)
  | appz (bytes : Nat) (zero : AV) (sz : Nat) (s x : Opd)
  | mm (mx : Bool) (x y : Opd)
  | clr (sz : Nat) (zero : List AV) (x : Opd)
  | mkmap
  | mlook (zero : AV) (ok : Bool) (x key : Opd)
  | mput (x key v : Opd)
  | mdel (x key : Opd)
  | mlen (x : Opd)
  | eqM (neg : Bool) (x : Opd)
  | call (f : FuncId) (args : List Opd)
  | callv (x : Opd) (args : List Opd)

structure Ent where
  rd : List Nat
  wr : List Nat
  tk : List Nat

def ent0 : Ent := ⟨[], [], []⟩

def upd {α : Type} (f : Nat → α) (i : Nat) (v : α) : Nat → α := fun j => if j = i then v else f j

abbrev Tm := Nat → AV

def ev (t : Tm) : Opd → AV
  | .t i => t i
  | .c a => a

def isCell : AV → Bool
  | .any | .agg _ | .tup _ => false
  | .sc (.agg _) | .sc (.tuple _) => false
  | _ => true

def shaped (x : AV) : Bool := isCell x || (match x with | .agg cs => cs.all isCell | _ => false)

def cellsOf : AV → List AV
  | .agg cs => cs
  | x => [x]

def byte (b : UInt8) : AV := .int .u8 b.toNat
def bytesAV (l : List UInt8) : List AV := l.map byte
def unByte : AV → Option UInt8
  | .int .u8 n => some (UInt8.ofNat n.toNat)
  | _ => none
def unBytes : List AV → Option (List UInt8)
  | [] => some []
  | x :: l => match unByte x, unBytes l with
    | some b, some r => some (b :: r)
    | _, _ => none

def setAt (cs : List AV) (off : Nat) (vs : List AV) : List AV := cs.take off ++ vs ++ cs.drop (off + vs.length)

def binInt (op : BinOp) (k : IntKind) (a b : Int) : Option AV :=
  match op with
  | .add => some (.int k (k.wrap (a + b)))
  | .sub => some (.int k (k.wrap (a - b)))
  | .mul => some (.int k (k.wrap (a * b)))
  | .quo => if b = 0 then none else some (.int k (k.wrap (a.tdiv b)))
  | .rem => if b = 0 then none else some (.int k (a.tmod b))
  | .eql => some (.bool (decide (a = b)))
  | .neq => some (.bool (!decide (a = b)))
  | .lss => some (.bool (decide (a < b)))
  | .leq => some (.bool (decide (a ≤ b)))
  | .gtr => some (.bool (decide (b < a)))
  | .geq => some (.bool (decide (b ≤ a)))
  | .and => some (.int k (k.wrap (BitVec.ofInt k.bits a &&& BitVec.ofInt k.bits b).toNat))
  | .or => some (.int k (k.wrap (BitVec.ofInt k.bits a ||| BitVec.ofInt k.bits b).toNat))
  | .xor => some (.int k (k.wrap (BitVec.ofInt k.bits a ^^^ BitVec.ofInt k.bits b).toNat))
  | .andNot => some (.int k (k.wrap (BitVec.ofInt k.bits a &&& ~~~(BitVec.ofInt k.bits b)).toNat))
  | _ => none

def binShift (op : BinOp) (k : IntKind) (a b : Int) : Option AV :=
  if b < 0 then none else
  match op with
  | .shl => some (.int k (k.wrap (a * 2 ^ (min b.toNat k.bits))))
  | .shr => some (.int k (a.fdiv (2 ^ (min b.toNat k.bits))))
  | _ => none

def isShift : BinOp → Bool
  | .shl | .shr => true
  | _ => false

def binStr (op : BinOp) (a b : List UInt8) : Option AV :=
  match op with
  | .add => if a.length + b.length < 9223372036854775808 then some (.str (a ++ b)) else none
  | .eql => some (.bool (decide (a = b)))
  | .neq => some (.bool (!decide (a = b)))
  | .lss => some (.bool (Op.bytesLess a b))
  | .leq => some (.bool (Op.bytesLess a b || decide (a = b)))
  | .gtr => some (.bool (!(Op.bytesLess a b || decide (a = b))))
  | .geq => some (.bool (!Op.bytesLess a b))
  | _ => none

def bin (op : BinOp) (x y : AV) : Option AV :=
  match x, y with
  | .int k a, .int k' b => if isShift op then binShift op k a b else if k = k' then binInt op k a b else none
  | .str a, .str b => binStr op a b
  | _, _ => none

def eqB (neg : Bool) (x y : AV) : Option AV :=
  match x, y with
  | .bool a, .bool b => some (.bool (if neg then !(a == b) else (a == b)))
  | _, _ => none

def eqP (neg : Bool) (x y : AV) : Option AV :=
  match x, y with
  | .ptr _ _, .sc (.pointer none) => some (.bool neg)
  | .ref _, .sc (.pointer none) => some (.bool neg)
  | .sc (.pointer none), .sc (.pointer none) => some (.bool (!neg))
  | _, _ => none

/-- structs of numbers, texts and booleans -/
def eqCell (k : EK) (x y : AV) : Option Bool :=
  match k, x, y with
  | .int, .int k a, .int k' b => if k = k' then some (decide (a = b)) else none
  | .str, .str a, .str b => some (decide (a = b))
  | .bool, .bool a, .bool b => some (a == b)
  | _, _, _ => none
def eqCells : List EK → List AV → List AV → Option Bool
  | [], [], [] => some true
  | k :: ks, x :: xs, y :: ys => match eqCell k x y, eqCells ks xs ys with
    | some a, some b => some (a && b)
    | _, _ => none
  | _, _, _ => none
def eqA (neg : Bool) (ks : List EK) (x y : AV) : Option AV :=
  match x, y with
  | .agg xs, .agg ys => (eqCells ks xs ys).map fun b => .bool (if neg then !b else b)
  | _, _ => none

/-- the lesser, or the greater, of two texts or numbers -/
def mm (mx : Bool) (x y : AV) : Option AV :=
  match x, y with
  | .int k a, .int _ b => some (.int k (if mx then (if a < b then b else a) else (if b < a then b else a)))
  | .str a, .str b => some (.str (if (if mx then !Op.bytesLess a b else (Op.bytesLess a b || decide (a = b))) then a else b))
  | _, _ => none

/-- a text among a map's keys -/
def mfind (key : List UInt8) : List (AV × AV) → Option (Option (Nat × AV))
  | [] => some none
  | (a, v) :: es => match a with
    | .str a => if a = key then some (some (0, v)) else (mfind key es).map (Option.map fun p => (p.1 + 1, p.2))
    | _ => none
def putEs (es : List (AV × AV)) (k : List UInt8) (v : AV) (r : Option (Nat × AV)) : List (AV × AV) :=
  match r with
  | some p => es.set p.1 (.str k, v)
  | none => es ++ [(.str k, v)]

def delEs (es : List (AV × AV)) (r : Option (Nat × AV)) : List (AV × AV) :=
  match r with
  | some p => es.eraseIdx p.1
  | none => es

def lookAV (zero : AV) (ok : Bool) : Option (Nat × AV) → AV
  | some p => if ok then .tup [p.2, .bool true] else p.2
  | none => if ok then .tup [zero, .bool false] else zero
def eqM (neg : Bool) (x : AV) : Option AV :=
  match x with
  | .mp _ => some (.bool neg)
  | .sc (.map none) => some (.bool (!neg))
  | _ => none

/-- a slice held against nil -/
def eqN (neg : Bool) (x : AV) : Option AV :=
  match x with
  | .sl _ (_ :: _) _ => some (.bool neg)
  | .tsl _ _ _ _ _ => some (.bool neg)
  | .sc (.slice a _ _) => some (.bool (if neg then !a.isNone else a.isNone))
  | _ => none

def unop (op : UnOp) (x : AV) : Option AV :=
  match op, x with
  | .not, .bool b => some (.bool (!b))
  | .neg, .int k n => some (.int k (k.wrap (0 - n)))
  | _, _ => none

/-- a bound of a slice expression, as a number -/
def bound (x : Option AV) (d : Nat) (upto : Nat) : Option Nat :=
  match x with
  | none => some d
  | some (.int _ i) => if 0 ≤ i ∧ i ≤ upto then some i.toNat else none
  | _ => none

def capCut (c : Cap) (lo hi len : Nat) : Cap :=
  if hi = len then (match c with | .exact k => .exact (k - lo) | .own t => .own t | .any => .any) else .any

def slice (str : Bool) (sz : Nat) (x : AV) (lo hi : Option AV) (mx : Option (Option AV)) : Option AV :=
  match x with
  | .str l => if str then (match mx with
    | none => (bound hi l.length l.length).bind fun h => (bound lo 0 h).map fun lw => .str ((l.take h).drop lw)
    | some _ => none) else none
  | .sl s xs c => if str = false ∧ (s = sz ∨ xs = []) then (match mx with
    | none => (bound hi xs.length xs.length).bind fun h => (bound lo 0 h).map fun lw => .sl s ((xs.take h).drop lw) (capCut c lw h xs.length)
    | some m => (bound m xs.length xs.length).bind fun m => (bound hi xs.length m).bind fun h => (bound lo 0 h).map fun lw => .sl s ((xs.take h).drop lw) (.exact (m - lw))) else none
  | .tsl s id off len c => if str = false ∧ s = sz then (match mx with
    | none => (bound hi len len).bind fun h => (bound lo 0 h).map fun lw => .tsl s id (off + lw * s) (h - lw) (c.map fun k => k - lw)
    | some _ => none) else none
  | _ => none

def part (off : Nat) (n : Option Nat) (cs : List AV) : Option AV :=
  match n with
  | none => cs[off]?
  | some n => if off + n ≤ cs.length then some (.agg ((cs.drop off).take n)) else none

def putParts (ρ : Opd → AV) : List (Nat × Nat × Opd) → List AV → Option (List AV)
  | [], cs => some cs
  | (off, n, x) :: l, cs =>
    if (cellsOf (ρ x)).length = n ∧ off + n ≤ cs.length ∧ shaped (ρ x) then putParts ρ l (setAt cs off (cellsOf (ρ x))) else none

/-- what an operation does: the value, the objects and tokens behind it, and what it touched -/
def aop (ρ : Opd → AV) (h : H) : AOp → Option (AV × H × Ent)
  | .mov x => some (ρ x, h, ent0)
  | .pick c a b => match ρ c with
    | .bool c => some (if c then ρ a else ρ b, h, ent0)
    | _ => none
  | .alloc zero => if zero.all isCell then some (.ptr h.n 0, { h with objs := upd h.objs h.n (some (.cells zero)), n := h.n + 1 }, ⟨[], [h.n], []⟩) else none
  | .box x => match ρ x with
    | .agg cs => if cs.all isCell then some (.ptr h.n 0, { h with objs := upd h.objs h.n (some (.cells cs)), n := h.n + 1 }, ⟨[], [h.n], []⟩) else none
    | v => if isCell v then some (.ptr h.n 0, { h with objs := upd h.objs h.n (some (.cells [v])), n := h.n + 1 }, ⟨[], [h.n], []⟩) else none
  | .build zero parts => (putParts ρ parts zero).map fun cs => (.agg cs, h, ent0)
  | .buildSl sz parts => if parts.all (fun x => (cellsOf (ρ x)).length = sz ∧ shaped (ρ x)) ∧ parts.length * sz ≤ 16777216 then some (.sl sz (parts.map ρ) (.exact parts.length), h, ent0) else none
  | .load n x => match ρ x with
    | .ref cs => (part 0 n cs).map fun v => (v, h, ent0)
    | .ptr id off => match h.objs id with
      | some (.cells cs) => (part off n cs).map fun v => (v, h, ⟨[id], [], []⟩)
      | _ => none
    | _ => none
  | .store n x v => match ρ x with
    | .ptr id off => match h.objs id with
      | some (.cells cs) => if (cellsOf (ρ v)).length = n ∧ off + n ≤ cs.length ∧ (cellsOf (ρ v)).all isCell then
          some (.any, { h with objs := upd h.objs id (some (.cells (setAt cs off (cellsOf (ρ v))))) }, ⟨[], [id], []⟩) else none
      | _ => none
    | _ => none
  | .bin op x y => (bin op (ρ x) (ρ y)).map fun v => (v, h, ent0)
  | .eqB neg x y => (eqB neg (ρ x) (ρ y)).map fun v => (v, h, ent0)
  | .eqP neg x y => (eqP neg (ρ x) (ρ y)).map fun v => (v, h, ent0)
  | .eqN neg x => (eqN neg (ρ x)).map fun v => (v, h, ent0)
  | .eqA neg ks x y => (eqA neg ks (ρ x) (ρ y)).map fun v => (v, h, ent0)
  | .un op x => (unop op (ρ x)).map fun v => (v, h, ent0)
  | .conv k x => match k, ρ x with
    | .toInt k, .int _ n => some (.int k (k.wrap n), h, ent0)
    | .b2s, .sl sz xs _ => if sz = 1 ∨ xs = [] then (unBytes xs).map fun l => (.str l, h, ent0) else none
    | .s2b, .str l => some (.sl 1 (bytesAV l) (.own h.m), { h with toks := h.m :: h.toks, m := h.m + 1 }, ⟨[], [], [h.m]⟩)
    | .idem, .str l => some (.str l, h, ent0)
    | _, _ => none
  | .mkfn fn first captured => some (.clo fn (first.map ρ) (captured.map ρ), h, ent0)
  | .mksl sz bytes zero len cap => match ρ len, ρ cap with
    | .int _ l, .int _ c => if 0 ≤ l ∧ l ≤ c ∧ c * bytes ≤ 140737488355328 ∧ c < 9223372036854775808 ∧ shaped zero then
        some (.sl sz (List.replicate l.toNat zero) (.own h.m), { h with toks := h.m :: h.toks, m := h.m + 1 }, ⟨[], [], [h.m]⟩) else none
    | _, _ => none
  | .slc str sz x lo hi mx => (slice str sz (ρ x) (lo.map ρ) (hi.map ρ) (mx.map fun m => some (ρ m))).map fun v => (v, h, ent0)
  | .faddr off x => match ρ x with
    | .ref cs => some (.ref (cs.drop off), h, ent0)
    | .ptr id o => some (.ptr id (o + off), h, ent0)
    | _ => none
  | .fld off n x => match ρ x with
    | .agg cs => (part off n cs).map fun v => (v, h, ent0)
    | _ => none
  | .iaddr sz x i => match ρ x, ρ i with
    | .sl s xs _, .int _ k => if s = sz ∧ 0 ≤ k ∧ k < xs.length then (let x := xs.getD k.toNat .any; if shaped x then some (.ref (cellsOf x), h, ent0) else none) else none
    | .tsl s id off len _, .int _ k => if s = sz ∧ 0 ≤ k ∧ k < len then some (.ptr id (off + k.toNat * sz), h, ent0) else none
    | _, _ => none
  | .idx x i => match ρ x, ρ i with
    | .str l, .int _ k => if 0 ≤ k ∧ k < l.length then some (byte (l.getD k.toNat 0), h, ent0) else none
    | _, _ => none
  | .ext x i => match ρ x with
    | .tup xs => (xs[i]?).map fun v => (v, h, ent0)
    | _ => none
  | .nilck x => match ρ x with
    | .ptr id o => some (.ptr id o, h, ent0)
    | .ref cs => some (.ref cs, h, ent0)
    | _ => none
  | .len str x => match str, ρ x with
    | true, .str l => some (.int .i64 l.length, h, ent0)
    | false, .sl _ xs _ => some (.int .i64 xs.length, h, ent0)
    | false, .tsl _ _ _ n _ => some (.int .i64 n, h, ent0)
    | _, _ => none
  | .app str sz bytes s x => match str, ρ s, ρ x with
    | false, .sl s xs c, .sl s' ys _ =>
      if (s = sz ∨ xs = []) ∧ (s' = sz ∨ ys = []) ∧ (xs.length + ys.length) * bytes ≤ 140737488355328 ∧ xs.length + ys.length < 4611686018427387904 then
        (match c with
        | .own t => if s = sz ∧ t ∈ h.toks then some (.sl sz (xs ++ ys) (.own h.m), { h with toks := h.m :: h.toks.filter (· ≠ t), m := h.m + 1 }, ⟨[], [], [t, h.m]⟩) else none
        | .exact k => if k = xs.length then some (.sl sz (xs ++ ys) (.own h.m), { h with toks := h.m :: h.toks, m := h.m + 1 }, ⟨[], [], [h.m]⟩) else none
        | .any => none)
      else none
    | true, .sl s xs c, .str l =>
      if (s = sz ∨ xs = []) ∧ sz = 1 ∧ (xs.length + l.length) * bytes ≤ 140737488355328 ∧ xs.length + l.length < 4611686018427387904 then
        (match c with
        | .own t => if s = sz ∧ t ∈ h.toks then some (.sl sz (xs ++ bytesAV l) (.own h.m), { h with toks := h.m :: h.toks.filter (· ≠ t), m := h.m + 1 }, ⟨[], [], [t, h.m]⟩) else none
        | .exact k => if k = xs.length then some (.sl sz (xs ++ bytesAV l) (.own h.m), { h with toks := h.m :: h.toks, m := h.m + 1 }, ⟨[], [], [h.m]⟩) else none
        | .any => none)
      else none
    | _, _, _ => none
  | .appz bytes zero sz s x => match ρ s, ρ x with
    | .sl s xs c, .int .i64 n =>
      if (s = sz ∨ xs = []) ∧ 0 ≤ n ∧ (xs.length + n.toNat) * bytes ≤ 140737488355328 ∧ xs.length + n.toNat < 4611686018427387904 ∧ shaped zero ∧ 0 < bytes then
        (match c with
        | .own t => if s = sz ∧ t ∈ h.toks then some (.sl sz (xs ++ List.replicate n.toNat zero) (.own h.m), { h with toks := h.m :: h.toks.filter (· ≠ t), m := h.m + 1 }, ⟨[], [], [t, h.m]⟩) else none
        | .exact k => if k = xs.length then some (.sl sz (xs ++ List.replicate n.toNat zero) (.own h.m), { h with toks := h.m :: h.toks, m := h.m + 1 }, ⟨[], [], [h.m]⟩) else none
        | .any => none)
      else none
    | _, _ => none
  | .mm mx x y => (mm mx (ρ x) (ρ y)).map fun v => (v, h, ent0)
  | .clr sz zero x => match ρ x with
    | .tsl s id off len _ => if len = 0 then some (.any, h, ent0) else (match h.objs id with
      | some (.cells cs) => if s = sz ∧ zero.length = sz ∧ off + len * sz ≤ cs.length ∧ zero.all isCell then
          some (.any, { h with objs := upd h.objs id (some (.cells (setAt cs off (List.replicate len zero).flatten))) }, ⟨[], [id], []⟩) else none
      | _ => none)
    | _ => none
  | .mkmap => some (.mp h.n, { h with objs := upd h.objs h.n (some (.map [])), n := h.n + 1 }, ⟨[], [h.n], []⟩)
  | .mlook zero ok x key => match ρ x, ρ key with
    | .mp id, .str k => match h.objs id with
      | some (.map es) => (mfind k es).map fun r => (lookAV zero ok r, h, ⟨[id], [], []⟩)
      | _ => none
    | .sc (.map none), .str _ => some (lookAV zero ok none, h, ent0)
    | _, _ => none
  | .mput x key v => match ρ x, ρ key with
    | .mp id, .str k => match h.objs id with
      | some (.map es) => (mfind k es).map fun r => (.any, { h with objs := upd h.objs id (some (.map (putEs es k (ρ v) r))) }, ⟨[], [id], []⟩)
      | _ => none
    | _, _ => none
  | .mdel x key => match ρ x, ρ key with
    | .mp id, .str k => match h.objs id with
      | some (.map es) => (mfind k es).map fun r => (.any, { h with objs := upd h.objs id (some (.map (delEs es r))) }, ⟨[], [id], []⟩)
      | _ => none
    | _, _ => none
  | .mlen x => match ρ x with
    | .mp id => match h.objs id with
      | some (.map es) => some (.int .i64 es.length, h, ⟨[id], [], []⟩)
      | _ => none
    | .sc (.map none) => some (.int .i64 0, h, ent0)
    | _ => none
  | .eqM neg x => (eqM neg (ρ x)).map fun v => (v, h, ent0)
  | .call _ _ => none
  | .callv _ _ => none

/-! ## Out of the program's operations -/

def isAggT (P : Program) (t : TypeId) : Bool :=
  match P.underlying t with
  | some (.struct _) | some (.array _ _) => true
  | _ => false

def isU8 (P : Program) (t : TypeId) : Bool :=
  match P.underlying t with
  | some (.int .u8) => true
  | _ => false

def eltSize (P : Program) (t : TypeId) : Nat :=
  match P.underlying t with
  | some (.slice e) => P.cellsOf e
  | _ => 0

def cellAV (P : Program) (t : TypeId) : Value → Option AV
  | .int k n => some (.int k n)
  | .bool b => some (.bool b)
  | .string s => some (.str s.data.toList)
  | .slice none 0 0 => some (.sl (eltSize P t) [] (.exact 0))
  | .pointer none => some (.sc (.pointer none))
  | .map none => some (.sc (.map none))
  | .nilFunc => some (.sc .nilFunc)
  | .nilIface => some (.sc .nilIface)
  | .float k b => some (.sc (.float k b))
  | _ => none

def flatT (P : Program) : Nat → TypeId → List TypeId
  | 0, t => [t]
  | d + 1, t => match P.underlying t with
    | some (.struct fs) => fs.toList.flatMap fun f => flatT P d f.type
    | some (.array n e) => (List.replicate n (flatT P d e)).flatten
    | _ => [t]

def cellsAV (P : Program) : List TypeId → List Value → Option (List AV)
  | t :: ts, v :: vs => match cellAV P t v, cellsAV P ts vs with
    | some a, some l => some (a :: l)
    | _, _ => none
  | [], [] => some []
  | _, _ => none

def constAV (P : Program) (t : TypeId) : Value → Option AV
  | .agg cs => (cellsAV P (flatT P 8 t) cs.toList).map .agg
  | v => cellAV P t v

def opd (P : Program) (ty : TypeId) : Operand → Option Opd
  | .tmp t => some (.t t)
  | .const v => (constAV P ty v).map .c
  | .func f => some (.c (.clo (.func f) [] []))
  | .global _ => none

def opds (P : Program) : List TypeId → List Operand → Option (List Opd)
  | t :: ts, x :: xs => match opd P t x, opds P ts xs with
    | some a, some l => some (a :: l)
    | _, _ => none
  | [], x :: xs => match opd P 0 x, opds P [] xs with
    | some a, some l => some (a :: l)
    | _, _ => none
  | _, [] => some []

def opdO (P : Program) : Option Operand → Option (Option Opd)
  | none => some none
  | some x => (opd P 0 x).map some

def partsOf (P : Program) (fs : Array Field) : List (Nat × Operand) → Option (List (Nat × Nat × Opd))
  | [] => some []
  | (i, x) :: l => match fs[i]? with
    | none => none
    | some f => match opd P f.type x, partsOf P fs l with
      | some a, some r => if (P.info? f.type).isSome then some ((f.offset, P.cellsOf f.type, a) :: r) else none
      | _, _ => none

def elemsOf (P : Program) (e : TypeId) : Nat → List (Nat × Operand) → Option (List Opd)
  | _, [] => some []
  | k, (i, x) :: l => if i = k then (match opd P e x, elemsOf P e (k + 1) l with
    | some a, some r => some (a :: r)
    | _, _ => none) else none

/-- fields of one cell each, one behind the other -/
def eqKind (P : Program) (t : TypeId) : Option EK :=
  match P.underlying t with
  | some (.int _) => some .int
  | some .bool => some .bool
  | some .string => some .str
  | _ => none
def eqFlat (P : Program) : Nat → List Field → Option (List EK)
  | _, [] => some []
  | i, f :: fs => match eqKind P f.type, eqFlat P (i + 1) fs with
    | some k, some ks => if f.name ≠ "_" ∧ f.offset = i then some (k :: ks) else none
    | _, _ => none

def cOp (P : Program) (o : Oper) : Option AOp :=
  match o.op with
  | .move x | .assign x => (opd P o.type x).map .mov
  | .pick c a b => match opd P 0 c, opd P o.type a, opd P o.type b with
    | some c, some a, some b => some (.pick c a b)
    | _, _, _ => none
  | .alloc e => match (P.info? e).bind (·.zero) with
    | some z => (constAV P e z).map fun a => .alloc (cellsOf a)
    | none => none
  | .box e x => (opd P e x).map .box
  | .build t parts => match P.underlying t, (P.info? t).bind (·.zero) with
    | some (.struct fs), some z => match constAV P t z, partsOf P fs parts.toList with
      | some (.agg cs), some l => if fs.all fun f => (P.info? f.type).isSome then some (.build cs l) else none
      | _, _ => none
    | _, _ => none
  | .buildSlice t len parts => match P.underlying t with
    | some (.slice e) => if parts.size = len ∧ (P.info? e).isSome ∧ 0 < P.cellsOf e ∧ (((P.info? e).bind (·.zero)).any fun z => z.cells.size == P.cellsOf e) then (elemsOf P e 0 parts.toList).map (.buildSl (P.cellsOf e)) else none
    | _ => none
  | .load t a => if (P.info? t).isSome ∧ (P.underlying t).isSome then (opd P 0 a).map (.load (if isAggT P t then some (P.cellsOf t) else none)) else none
  | .store t a x => if (P.info? t).isSome ∧ 0 < P.cellsOf t then (match opd P 0 a, opd P t x with
    | some a, some x => some (.store (P.cellsOf t) a x)
    | _, _ => none) else none
  | .binOp op xT x y yT => match opd P xT x, opd P yT y with
    | some a, some b => (match P.underlying xT with
      | some .bool => (match op with | .eql => some (.eqB false a b) | .neq => some (.eqB true a b) | _ => none)
      | some (.pointer _) => (match op with | .eql => some (.eqP false a b) | .neq => some (.eqP true a b) | _ => none)
      | some (.struct fs) => (match eqFlat P 0 fs.toList with
        | some ks => if P.stoodInHeld xT = false ∧ P.eqGuardType P.depth xT = false then (match op with | .eql => some (.eqA false ks a b) | .neq => some (.eqA true ks a b) | _ => none) else none
        | none => none)
      | some (.map _ _) => (match op, y with | .eql, .const (.map none) => some (.eqM false a) | .neq, .const (.map none) => some (.eqM true a) | _, _ => none)
      | some (.slice _) => (match op, y with | .eql, .const (.slice none 0 0) => some (.eqN false a) | .neq, .const (.slice none 0 0) => some (.eqN true a) | _, _ => none)
      | _ => some (.bin op a b))
    | _, _ => none
  | .unOp op xT x => (opd P xT x).map (.un op)
  | .convert src dst x => match opd P src x, P.underlying src, P.underlying dst with
    | some a, some (.int _), some (.int k) => some (.conv (.toInt k) a)
    | some a, some (.slice e), some .string => if isU8 P e ∧ P.cellsOf e = 1 then some (.conv .b2s a) else none
    | some a, some .string, some (.slice e) => if isU8 P e ∧ P.cellsOf e = 1 then some (.conv .s2b a) else none
    | some a, some .string, some .string => some (.conv .idem a)
    | _, _, _ => none
  | .makeFunc fn first captured => match opds P [] first.toList, opds P [] captured.toList with
    | some a, some b => some (.mkfn fn a b)
    | _, _ => none
  | .makeSlice t l c => match P.underlying t with
    | some (.slice e) => match P.info? e with
      | some i => match i.zero with
        | some z => match constAV P e z, opd P 0 l, opd P 0 c with
          | some a, some l, some c => if z.cells.size = i.size ∧ 0 < i.size then some (.mksl i.size i.bytes a l c) else none
          | _, _, _ => none
        | none => none
      | none => none
    | _ => none
  | .slice t x lo hi mx => match opd P t x, opdO P lo, opdO P hi, opdO P mx, P.underlying t with
    | some a, some l, some h, some m, some .string => if m.isNone then some (.slc true 0 a l h none) else none
    | some a, some l, some h, some m, some (.slice e) => if (P.info? e).isSome ∧ (m.isNone ∨ h.isSome) then some (.slc false (P.cellsOf e) a l h m) else none
    | _, _, _, _, _ => none
  | .fieldAddr s x f => match opd P 0 x, P.underlying s with
    | some a, some (.struct fs) => match fs[f]? with
      | some fd => if (P.info? fd.type).isSome ∧ 0 < P.cellsOf fd.type then some (.faddr fd.offset a) else none
      | none => none
    | _, _ => none
  | .field s x f => match opd P s x, P.underlying s with
    | some a, some (.struct fs) => match fs[f]? with
      | some fd => if (P.info? fd.type).isSome ∧ (P.underlying fd.type).isSome then some (.fld fd.offset (if isAggT P fd.type then some (P.cellsOf fd.type) else none) a) else none
      | none => none
    | _, _ => none
  | .indexAddr t x i => match opd P t x, opd P 0 i, P.underlying t with
    | some a, some b, some (.slice e) => if (P.info? e).isSome then some (.iaddr (P.cellsOf e) a b) else none
    | _, _, _ => none
  | .index t x i => match opd P t x, opd P 0 i, P.underlying t with
    | some a, some b, some .string => some (.idx a b)
    | _, _, _ => none
  | .makeMap t r => match r, P.underlying t with
    | none, some (.map _ _) => some .mkmap
    | some (.const (.int _ _)), some (.map _ _) => some .mkmap
    | _, _ => none
  | .lookup t x i ok => match opd P t x, P.underlying t with
    | some a, some (.map kt et) => match opd P kt i, P.underlying kt, (P.info? et).bind (·.zero) with
      | some b, some .string, some z => (constAV P et z).map fun zz => .mlook zz ok a b
      | _, _, _ => none
    | _, _ => none
  | .mapUpdate t x i v | .insert t x i v => match opd P t x, P.underlying t with
    | some a, some (.map kt et) => match opd P kt i, opd P et v, P.underlying kt with
      | some b, some c, some .string => some (.mput a b c)
      | _, _, _ => none
    | _, _ => none
  | .extract x i => (opd P 0 x).map fun a => .ext a i
  | .nilCheck x => (opd P 0 x).map .nilck
  | .call c => match c.callee with
    | .builtin .len => match c.args.toList, c.argTypes.toList with
      | [x], [t] => match opd P t x, P.underlying t with
        | some a, some .string => some (.len true a)
        | some a, some (.slice _) => some (.len false a)
        | some a, some (.map _ _) => some (.mlen a)
        | _, _ => none
      | _, _ => none
    | .builtin .delete => match c.args.toList, c.argTypes.toList with
      | [x, k], t :: _ => match opd P t x, P.underlying t with
        | some a, some (.map kt _) => match opd P kt k, P.underlying kt with
          | some b, some .string => some (.mdel a b)
          | _, _ => none
        | _, _ => none
      | _, _ => none
    | .builtin .min => match c.args.toList with
      | [x, y] => match opd P 0 x, opd P 0 y with
        | some a, some b => some (.mm false a b)
        | _, _ => none
      | _ => none
    | .builtin .max => match c.args.toList with
      | [x, y] => match opd P 0 x, opd P 0 y with
        | some a, some b => some (.mm true a b)
        | _, _ => none
      | _ => none
    | .builtin .clear => match c.args.toList, c.argTypes.toList with
      | [x], [t] => match opd P t x, P.underlying t with
        | some a, some (.slice e) => (match P.info? e with
          | some i => (match i.zero with
            | some z => (match constAV P e z with
              | some b => if z.cells.size = i.size ∧ 0 < i.size then some (.clr i.size (cellsOf b) a) else none
              | none => none)
            | none => none)
          | none => none)
        | _, _ => none
      | _, _ => none
    | .builtin .append => match c.args.toList, c.argTypes.toList with
      | [s, x], [t, u] => match opd P t s, opd P u x, P.underlying t, P.underlying u with
        | some a, some b, some (.slice e), some (.slice _) => (match P.info? e with
          | some i => if 0 < i.size ∧ (i.zero.any fun z => z.cells.size == i.size) then some (.app false i.size i.bytes a b) else none
          | none => none)
        | some a, some b, some (.slice e), some .string => (match P.info? e with
          | some i => if i.size = 1 ∧ (i.zero.any fun z => z.cells.size == i.size) then some (.app true i.size i.bytes a b) else none
          | none => none)
        | some a, some b, some (.slice e), some (.int .i64) => (match P.info? e with
          | some i => (match i.zero.bind (constAV P e) with
            | some z => if 0 < i.size ∧ (i.zero.any fun z => z.cells.size == i.size) then some (.appz i.bytes z i.size a b) else none
            | none => none)
          | none => none)
        | _, _, _, _ => none
      | _, _ => none
    | .value (.func f) => match P.funcs[f]? with
      | some fn => if fn.body.isSome ∧ fn.name ≠ "runtime.NumGoroutine" then (opds P c.argTypes.toList c.args.toList).map (.call f) else none
      | none => none
    | .value x => match opd P 0 x, opds P c.argTypes.toList c.args.toList with
      | some a, some l => some (.callv a l)
      | _, _ => none
    | _ => none
  | _ => none
end Go.Av
