/- The operations that only compute: what they do on abstract values they do in the program. -/
import Derived.Test.YtlefnohibjcekaaAvOps
import Derived.Laws.IdiomCopy
import Derived.Laws.Entries
import Derived.Laws.Pointers
import Derived.Laws.Small
import Derived.Laws.StructEq
import Derived.Laws.Strings
import Derived.Laws.BytesArg
set_option linter.unusedVariables false
set_option linter.unusedSimpArgs false
namespace Go.Av

def TRel (G : Ghost) (w : World) (t : Tm) (a : Act) : Prop := ∀ i, VRel G w (t i) (a.tmps.getD i undef)

section
variable {P : Program} {G : Ghost} {w : World}

theorem VRels.nil : VRels G w [] [] := by simp [VRels]
theorem VRels.cons {x : AV} {v : Value} {xs : List AV} {vs : List Value} (h : VRel G w x v) (t : VRels G w xs vs) : VRels G w (x :: xs) (v :: vs) := by
  simp only [VRels]; exact ⟨v, vs, rfl, h, t⟩
theorem VRels.length : ∀ {xs : List AV} {vs : List Value}, VRels G w xs vs → vs.length = xs.length
  | [], vs, h => by simp only [VRels] at h; simp [h]
  | x :: xs, vs, h => by
    simp only [VRels] at h
    obtain ⟨v, us, rfl, _, h2⟩ := h
    simp [VRels.length h2]
theorem VRels.get : ∀ {xs : List AV} {vs : List Value}, VRels G w xs vs → ∀ {i : Nat} {x : AV}, xs[i]? = some x → ∃ v, vs[i]? = some v ∧ VRel G w x v
  | [], vs, h, i, x, hx => by simp at hx
  | y :: xs, vs, h, i, x, hx => by
    simp only [VRels] at h
    obtain ⟨v, us, rfl, h1, h2⟩ := h
    cases i with
    | zero => simp at hx; subst hx; exact ⟨v, by simp, h1⟩
    | succ i => simp at hx; obtain ⟨u, hu, hr⟩ := VRels.get h2 hx; exact ⟨u, by simpa using hu, hr⟩
theorem VRels.drop : ∀ {xs : List AV} {vs : List Value} (n : Nat), VRels G w xs vs → VRels G w (xs.drop n) (vs.drop n)
  | xs, vs, 0, h => by simpa using h
  | [], vs, n + 1, h => by simp only [VRels] at h; simp [h, VRels]
  | x :: xs, vs, n + 1, h => by
    simp only [VRels] at h
    obtain ⟨v, us, rfl, _, h2⟩ := h
    simpa using VRels.drop n h2
theorem VRels.take : ∀ {xs : List AV} {vs : List Value} (n : Nat), VRels G w xs vs → VRels G w (xs.take n) (vs.take n)
  | xs, vs, 0, h => by simp [VRels]
  | [], vs, n + 1, h => by simp only [VRels] at h; simp [h, VRels]
  | x :: xs, vs, n + 1, h => by
    simp only [VRels] at h
    obtain ⟨v, us, rfl, h1, h2⟩ := h
    simpa using VRels.cons h1 (VRels.take n h2)
theorem VRels.append : ∀ {xs ys : List AV} {vs us : List Value}, VRels G w xs vs → VRels G w ys us → VRels G w (xs ++ ys) (vs ++ us)
  | [], ys, vs, us, h, h' => by simp only [VRels] at h; subst h; simpa using h'
  | x :: xs, ys, vs, us, h, h' => by
    simp only [VRels] at h
    obtain ⟨v, vs', rfl, h1, h2⟩ := h
    simpa using VRels.cons h1 (VRels.append h2 h')

theorem cell_rel {P : Program} {t : TypeId} {v : Value} {a : AV} (h : cellAV P t v = some a) : VRel G w a v := by
  unfold cellAV at h
  split at h <;> cases h <;> simp [VRel, CapNil]

theorem cells_rel {P : Program} : ∀ {ts : List TypeId} {vs : List Value} {l : List AV}, cellsAV P ts vs = some l → VRels G w l vs
  | [], [], l, h => by simp [cellsAV] at h; subst h; exact .nil
  | [], _ :: _, l, h => by simp [cellsAV] at h
  | _ :: _, [], l, h => by simp [cellsAV] at h
  | t :: ts, v :: vs, l, h => by
    simp only [cellsAV] at h
    split at h
    · rename_i a r h1 h2
      cases h
      exact .cons (cell_rel h1) (cells_rel h2)
    · cases h

theorem const_rel {t : TypeId} {v : Value} {a : AV} (h : constAV P t v = some a) : VRel G w a v := by
  unfold constAV at h
  split at h
  · rename_i cs
    simp only [Option.map_eq_some_iff] at h
    obtain ⟨l, h1, rfl⟩ := h
    simp only [VRel]
    exact ⟨cs.toList, by simp, cells_rel h1⟩
  · exact cell_rel h

theorem opd_rel {ty : TypeId} {x : Operand} {y : Opd} {t : Tm} {a : Act} (h : opd P ty x = some y) (ht : TRel G w t a) : VRel G w (ev t y) (a.eval x) := by
  unfold opd at h
  split at h
  · cases h; exact ht _
  · simp only [Option.map_eq_some_iff] at h
    obtain ⟨b, h1, rfl⟩ := h
    exact const_rel h1
  · cases h
    simp only [ev, VRel, Act.eval]
    exact ⟨[], [], rfl, .nil, .nil⟩
  · cases h

theorem opds_rel {t : Tm} {a : Act} (ht : TRel G w t a) : ∀ {ts : List TypeId} {xs : List Operand} {l : List Opd}, opds P ts xs = some l → VRels G w (l.map (ev t)) (xs.map a.eval)
  | [], [], l, h => by simp [opds] at h; subst h; exact .nil
  | _ :: _, [], l, h => by simp [opds] at h; subst h; exact .nil
  | [], x :: xs, l, h => by
    simp only [opds] at h
    split at h
    · rename_i a' r h1 h2
      cases h
      exact .cons (opd_rel h1 ht) (opds_rel ht h2)
    · cases h
  | t :: ts, x :: xs, l, h => by
    simp only [opds] at h
    split at h
    · rename_i a' r h1 h2
      cases h
      exact .cons (opd_rel h1 ht) (opds_rel ht h2)
    · cases h

/-- the operation gives this value, and changes nothing -/
def Plain (P : Program) (G : Ghost) (w : World) (a : Act) (o : Oper) (x : AV) : Prop := ∃ v, (execOp a.eval o).run P w = .ok (.value v) w ∧ VRel G w x v

variable {t : Tm} {a : Act} {o : Oper} {h h' : H} {x : AV} {en : Ent}


theorem Plain.mk {v : Value} (h1 : (execOp a.eval o).run P w = .ok (.value v) w) (h2 : VRel G w x v) : Plain P G w a o x := ⟨v, h1, h2⟩

theorem bin_plain {op : BinOp} {xT yT : TypeId} {x y : Operand} {b c : Opd} {z : AV} (hop : o.op = .binOp op xT x y yT) (h1 : opd P xT x = some b) (h2 : opd P yT y = some c)
    (ht : TRel G w t a) (hz : bin op (ev t b) (ev t c) = some z) : Plain P G w a o z := by
  have r1 := opd_rel h1 ht
  have r2 := opd_rel h2 ht
  generalize ev t b = X at *
  generalize ev t c = Y at *
  unfold Plain
  simp only [execOp, hop]
  generalize hx : a.eval x = vx at *
  generalize hy : a.eval y = vy at *
  unfold bin at hz
  split at hz
  · rename_i k n k' m
    simp only [VRel] at r1 r2
    subst r1 r2
    split at hz
    · rename_i hs
      unfold binShift at hz
      split at hz
      · cases hz
      · rename_i hb
        cases op <;> simp [isShift] at hs <;> simp only [Option.some.injEq] at hz <;> subst hz <;> simp [eqGuard, binOp, Op.shift, hb, VRel]
    · rename_i hs
      split at hz
      · rename_i hk
        subst hk
        cases op <;> simp [isShift] at hs <;> simp only [binInt] at hz <;> (try split at hz) <;>
          first
          | (cases hz; done)
          | (simp only [Option.some.injEq] at hz; subst hz; simp [eqGuard, binOp, Op.intArith, Op.intCmp, Op.intBits, Op.intDiv, VRel, *]; done)
          | (simp only [Option.some.injEq] at hz; subst hz; simp [eqGuard, binOp, Op.intArith, Op.intCmp, Op.intBits, Op.intDiv, VRel, *]; (first | rfl | (congr; funext; simp)))
      · cases hz
  · rename_i p q
    simp only [VRel] at r1 r2
    subst r1 r2
    have hb : ∀ (u v : List UInt8), (u == v) = decide (u = v) := fun u v => by
      rw [Bool.eq_iff_iff]; simp
    cases op <;> simp only [binStr] at hz <;> (try split at hz) <;>
      first
      | (cases hz; done)
      | (simp only [Option.some.injEq] at hz; subst hz; simp [eqGuard, binOp, Op.stringOp, VRel, hb]; done)
      | skip
    rename_i hlt
    simp only [Option.some.injEq] at hz
    subst hz
    have h1 : (ByteArray.mk p.toArray).size = p.length := by simp [ByteArray.size]
    have h2 : (ByteArray.mk q.toArray).size = q.length := by simp [ByteArray.size]
    have h3 : ¬ ((((ByteArray.mk p.toArray).size + (ByteArray.mk q.toArray).size : Nat) : Int) > IntKind.i64.max) := by
      rw [h1, h2]; simp [IntKind.max, IntKind.signed, IntKind.bits]; omega
    simp only [eqGuard, binOp, Op.stringOp, VRel]
    rw [if_neg h3]
    refine ⟨_, by simp; rfl, ?_⟩
    all_goals first | rfl | (congr 1; done) | (congr 1; apply ByteArray.ext; simp)
  · cases hz

theorem eqB_plain {op : BinOp} {neg : Bool} {xT yT : TypeId} {x y : Operand} {b c : Opd} {z : AV} (hop : o.op = .binOp op xT x y yT) (hT : P.underlying xT = some .bool)
    (hn : op = .eql ∧ neg = false ∨ op = .neq ∧ neg = true) (h1 : opd P xT x = some b) (h2 : opd P yT y = some c)
    (ht : TRel G w t a) (hz : eqB neg (ev t b) (ev t c) = some z) : Plain P G w a o z := by
  have r1 := opd_rel h1 ht
  have r2 := opd_rel h2 ht
  generalize ev t b = X at *
  generalize ev t c = Y at *
  unfold Plain
  simp only [execOp, hop]
  generalize hx : a.eval x = vx at *
  generalize hy : a.eval y = vy at *
  unfold eqB at hz
  split at hz
  · rename_i p q
    cases hz
    simp only [VRel] at r1 r2
    subst r1 r2
    rcases hn with ⟨rfl, rfl⟩ | ⟨rfl, rfl⟩
    · simp [eqGuard, run_eql_bool _ _ _ _ hT, VRel]
    · simp [eqGuard, run_neq_bool _ _ _ _ hT, VRel]
  · cases hz

theorem eqP_plain {op : BinOp} {neg : Bool} {xT yT e : TypeId} {x y : Operand} {b c : Opd} {z : AV} (hop : o.op = .binOp op xT x y yT) (hT : P.underlying xT = some (.pointer e))
    (hn : op = .eql ∧ neg = false ∨ op = .neq ∧ neg = true) (h1 : opd P xT x = some b) (h2 : opd P yT y = some c)
    (ht : TRel G w t a) (hz : eqP neg (ev t b) (ev t c) = some z) : Plain P G w a o z := by
  have r1 := opd_rel h1 ht
  have r2 := opd_rel h2 ht
  generalize ev t b = X at *
  generalize ev t c = Y at *
  unfold Plain
  simp only [execOp, hop]
  generalize hx : a.eval x = vx at *
  generalize hy : a.eval y = vy at *
  have hT' : P.underlying xT = some (.pointer (P.pointee xT)) := by
    rw [hT]; simp [Program.pointee, hT]
  unfold eqP at hz
  split at hz
  · cases hz
    simp only [VRel] at r1 r2
    obtain ⟨-, rfl⟩ := r1
    subst r2
    rcases hn with ⟨rfl, rfl⟩ | ⟨rfl, rfl⟩
    · simp [eqGuard, run_eql_pointer_nil _ _ _ hT', VRel]
    · simp [eqGuard, run_neq_pointer_nil _ _ _ hT', VRel]
  · cases hz
    simp only [VRel] at r1 r2
    obtain ⟨B, off, vs, rfl, -⟩ := r1
    subst r2
    rcases hn with ⟨rfl, rfl⟩ | ⟨rfl, rfl⟩
    · simp [eqGuard, run_eql_pointer_nil _ _ _ hT', VRel]
    · simp [eqGuard, run_neq_pointer_nil _ _ _ hT', VRel]
  · cases hz
    simp only [VRel] at r1 r2
    subst r1 r2
    rcases hn with ⟨rfl, rfl⟩ | ⟨rfl, rfl⟩
    · simp [eqGuard, run_eql_pointer_nil _ _ _ hT', VRel]
    · simp [eqGuard, run_neq_pointer_nil _ _ _ hT', VRel]
  · cases hz

theorem eqCell_run {k : EK} {x y : AV} {v u : Value} {b : Bool} {t : TypeId} {d : Nat} (hu : eqKind P t = some k) (r1 : VRel G w x v) (r2 : VRel G w y u) (h : eqCell k x y = some b) : (Op.equalIn (d + 1) t v u).run P w = .ok b w := by
  unfold eqKind at hu
  unfold eqCell at h
  split at h
  · split at h
    · rename_i k a k' c hk
      subst hk
      cases h
      simp only [VRel] at r1 r2
      subst r1 r2
      split at hu <;> first | (cases hu; done) | skip
      rename_i hu'
      rw [run_equalIn_int w d t _ _ _ _ hu']
      rfl
    · cases h
  · cases h
    simp only [VRel] at r1 r2
    subst r1 r2
    split at hu <;> first | (cases hu; done) | skip
    rename_i hu'
    rw [run_equalIn_string w d t _ _ hu']
    congr 1
    rw [ByteArray.toList_eq, ByteArray.toList_eq, Bool.eq_iff_iff]
    simp
  · cases h
    simp only [VRel] at r1 r2
    subst r1 r2
    split at hu <;> first | (cases hu; done) | skip
    rename_i hu'
    rw [run_equalIn_bool w d t _ _ hu']
  · cases h

theorem part_cell_run {k : EK} {t : TypeId} {xs : Array Value} {i : Nat} {v : Value} (hu : eqKind P t = some k) (hx : xs[i]? = some v) : (Go.part t xs i).run P w = .ok v w := by
  unfold eqKind at hu
  split at hu <;> first | (cases hu; done) | skip
  all_goals
    rename_i hu'
    simp [Go.part, isAgg, run_underlying hu', hx]

theorem eqCells_run {d : Nat} {X Y : Array Value} : ∀ {i : Nat} {fs : List Field} {ks : List EK} {xs ys : List AV} {b : Bool}, eqFlat P i fs = some ks → VRels G w xs (X.toList.drop i) → VRels G w ys (Y.toList.drop i) → eqCells ks xs ys = some b →
    (Op.eqFields (d + 1) X Y fs).run P w = .ok b w
  | i, [], ks, xs, ys, b, hf, r1, r2, h => by
    simp only [eqFlat, Option.some.injEq] at hf
    subst hf
    cases xs <;> cases ys <;> simp only [eqCells] at h <;> first | (cases h; done) | skip
    cases h
    simp [Op.eqFields]
  | i, f :: fs, ks, xs, ys, b, hf, r1, r2, h => by
    simp only [eqFlat] at hf
    split at hf
    · rename_i k ks' hk hks
      split at hf
      · rename_i hn
        obtain ⟨hn, ho⟩ := hn
        cases hf
        cases xs with
        | nil => simp [eqCells] at h
        | cons x xs =>
          cases ys with
          | nil => simp [eqCells] at h
          | cons y ys =>
            simp only [VRels] at r1 r2
            obtain ⟨v, vs, e1, r1, q1⟩ := r1
            obtain ⟨u, us, e2, r2, q2⟩ := r2
            have g1 : X[i]? = some v := by
              have := congrArg (fun l => l[0]?) e1
              simpa using this
            have g2 : Y[i]? = some u := by
              have := congrArg (fun l => l[0]?) e2
              simpa using this
            have t1 : X.toList.drop (i + 1) = vs := by
              have := congrArg (List.drop 1) e1
              simpa [List.drop_drop] using this
            have t2 : Y.toList.drop (i + 1) = us := by
              have := congrArg (List.drop 1) e2
              simpa [List.drop_drop] using this
            simp only [eqCells] at h
            split at h
            · rename_i p q hp hq
              cases h
              have rec' := eqCells_run (d := d) (i := i + 1) hks (t1 ▸ q1) (t2 ▸ q2) hq
              simp only [Op.eqFields, hn, ne_eq, not_false_eq_true, if_true, Sem.run_bind, ho, part_cell_run hk g1, part_cell_run hk g2, Result.andThen_ok, eqCell_run hk r1 r2 hp]
              cases p
              · simp
              · simpa using rec'
            · cases h
      · cases hf
    · cases hf

theorem eqA_plain {op : BinOp} {neg : Bool} {ks : List EK} {fs : Array Field} {xT yT : TypeId} {x y : Operand} {b c : Opd} {z : AV} (hop : o.op = .binOp op xT x y yT) (hT : P.underlying xT = some (.struct fs)) (hf : eqFlat P 0 fs.toList = some ks)
    (hh : P.stoodInHeld xT = false) (hg : P.eqGuardType P.depth xT = false)
    (hn : op = .eql ∧ neg = false ∨ op = .neq ∧ neg = true) (h1 : opd P xT x = some b) (h2 : opd P yT y = some c)
    (ht : TRel G w t a) (hz : eqA neg ks (ev t b) (ev t c) = some z) : Plain P G w a o z := by
  have r1 := opd_rel h1 ht
  have r2 := opd_rel h2 ht
  generalize ev t b = X at *
  generalize ev t c = Y at *
  unfold Plain
  simp only [execOp, hop]
  generalize hx : a.eval x = vx at *
  generalize hy : a.eval y = vy at *
  unfold eqA at hz
  split at hz
  · rename_i p q
    simp only [Option.map_eq_some_iff] at hz
    obtain ⟨r, hr, rfl⟩ := hz
    simp only [VRel] at r1 r2
    obtain ⟨vs, rfl, r1⟩ := r1
    obtain ⟨us, rfl, r2⟩ := r2
    have hfs : P.fieldsOf xT = fs := by simp [Program.fieldsOf, hT]
    have key : (Op.equalIn 10000 xT (.agg vs.toArray) (.agg us.toArray)).run P w = .ok r w := by
      rw [run_equalIn_struct w 9999 xT _ _ (by rw [hfs]; exact hT) hh, hfs]
      exact eqCells_run (d := 9998) hf (by simpa using r1) (by simpa using r2) hr
    rcases hn with ⟨rfl, rfl⟩ | ⟨rfl, rfl⟩
    · exact ⟨.bool r, by simp [run_eqGuard_agg w _ _ _ _ _ _ hg, run_eql_struct, key], by simp [VRel]⟩
    · exact ⟨.bool (!r), by simp [run_eqGuard_agg w _ _ _ _ _ _ hg, run_neq_struct, key], by simp [VRel]⟩
  · cases hz

theorem run_sl_nil (w : World) (t e : TypeId) (a : Option Addr) (n c : Nat) (h : P.underlying t = some (.slice e)) :
    (binOp .eql t (.slice a n c) (.slice none 0 0)).run P w = .ok (.bool a.isNone) w ∧ (binOp .neq t (.slice a n c) (.slice none 0 0)).run P w = .ok (.bool (!a.isNone)) w := by
  have hq : ∀ d : Nat, (Op.equalIn (d + 1) t (.slice a n c) (.slice none 0 0)).run P w = .ok a.isNone w := fun d => by
    cases a <;> simp [Op.equalIn, run_underlying h]
  constructor
  · simp only [binOp]; simp [Op.equal, Op.maxDepth, hq 9999]
  · simp only [binOp]; simp [Op.equal, Op.maxDepth, hq 9999]

theorem eqN_plain {op : BinOp} {neg : Bool} {xT yT e : TypeId} {x y : Operand} {b : Opd} {z : AV} (hop : o.op = .binOp op xT x y yT) (hT : P.underlying xT = some (.slice e)) (hy : y = .const (.slice none 0 0))
    (hn : op = .eql ∧ neg = false ∨ op = .neq ∧ neg = true) (h1 : opd P xT x = some b)
    (ht : TRel G w t a) (hz : eqN neg (ev t b) = some z) : Plain P G w a o z := by
  have r1 := opd_rel h1 ht
  generalize ev t b = X at *
  unfold Plain
  subst hy
  simp only [execOp, hop]
  have he : a.eval (.const (.slice none 0 0)) = .slice none 0 0 := rfl
  rw [he]
  generalize hx : a.eval x = vx at *
  unfold eqN at hz
  split at hz
  · cases hz
    simp only [VRel] at r1
    rcases r1 with ⟨h, -⟩ | ⟨B, off, C, vs, h1, -⟩
    · cases h
    · subst h1
      rcases hn with ⟨rfl, rfl⟩ | ⟨rfl, rfl⟩ <;> simp [eqGuard, (run_sl_nil w xT e _ _ _ hT).1, (run_sl_nil w xT e _ _ _ hT).2, VRel]
  · cases hz
    simp only [VRel] at r1
    obtain ⟨-, ⟨C, c, T, fr, rfl, -⟩ | ⟨-, ⟨a0, rfl⟩, -⟩⟩ := r1 <;>
    rcases hn with ⟨rfl, rfl⟩ | ⟨rfl, rfl⟩ <;> simp [eqGuard, (run_sl_nil w xT e _ _ _ hT).1, (run_sl_nil w xT e _ _ _ hT).2, VRel]
  · cases hz
    simp only [VRel] at r1
    subst r1
    rcases hn with ⟨rfl, rfl⟩ | ⟨rfl, rfl⟩ <;> simp [eqGuard, (run_sl_nil w xT e _ _ _ hT).1, (run_sl_nil w xT e _ _ _ hT).2, VRel]
  · cases hz

theorem un_plain {op : UnOp} {xT : TypeId} {x : Operand} {b : Opd} {z : AV} (hop : o.op = .unOp op xT x) (h1 : opd P xT x = some b)
    (ht : TRel G w t a) (hz : unop op (ev t b) = some z) : Plain P G w a o z := by
  have r1 := opd_rel h1 ht
  generalize ev t b = X at *
  unfold Plain
  simp only [execOp, hop]
  generalize hx : a.eval x = vx at *
  unfold unop at hz
  split at hz
  · cases hz
    simp only [VRel] at r1
    subst r1
    simp [Op.unary, VRel]
  · cases hz
    simp only [VRel] at r1
    subst r1
    simp [Op.unary, Op.intArith, VRel]
  · cases hz

theorem mov_plain {y : Opd} {z : Operand} {ty : TypeId} (hop : o.op = .move z ∨ o.op = .assign z) (h1 : opd P ty z = some y) (ht : TRel G w t a) : Plain P G w a o (ev t y) := by
  have r1 := opd_rel h1 ht
  unfold Plain
  rcases hop with hop | hop <;> exact ⟨a.eval z, by simp [execOp, hop], r1⟩

theorem pick_plain {y1 y2 y3 : Opd} {z1 z2 z3 : Operand} {t1 t2 t3 : TypeId} {c : Bool} (hop : o.op = .pick z1 z2 z3) (h1 : opd P t1 z1 = some y1) (h2 : opd P t2 z2 = some y2) (h3 : opd P t3 z3 = some y3)
    (ht : TRel G w t a) (hc : ev t y1 = .bool c) : Plain P G w a o (if c then ev t y2 else ev t y3) := by
  have r1 := opd_rel h1 ht
  have r2 := opd_rel h2 ht
  have r3 := opd_rel h3 ht
  rw [hc] at r1
  simp only [VRel] at r1
  refine ⟨if c then a.eval z2 else a.eval z3, ?_, ?_⟩
  · simp [execOp, hop, r1, asBool]
  · cases c <;> simpa

theorem ext_plain {y : Opd} {z : Operand} {ty : TypeId} {i : Nat} {xs : List AV} (hop : o.op = .extract z i) (h1 : opd P ty z = some y) (ht : TRel G w t a) (hx : ev t y = .tup xs) (hi : xs[i]? = some x) : Plain P G w a o x := by
  have r1 := opd_rel h1 ht
  rw [hx] at r1
  simp only [VRel] at r1
  obtain ⟨vs, hv, hr⟩ := r1
  obtain ⟨v, hv', hr'⟩ := hr.get hi
  exact ⟨v, by simp [execOp, hop, hv, Instr.extract, hv'], hr'⟩

theorem mkfn_plain {fn : Fn} {f1 f2 : Array Operand} {y1 y2 : List Opd} (hop : o.op = .makeFunc fn f1 f2) (h1 : opds P [] f1.toList = some y1) (h2 : opds P [] f2.toList = some y2) (ht : TRel G w t a) :
    Plain P G w a o (.clo fn (y1.map (ev t)) (y2.map (ev t))) := by
  have r1 := opds_rel ht h1
  have r2 := opds_rel ht h2
  refine ⟨.func fn (f1.map a.eval) (f2.map a.eval), by simp [execOp, hop, Instr.makeFunc], ?_⟩
  simp only [VRel]
  have e : ∀ f : Array Operand, f.map a.eval = (f.toList.map a.eval).toArray := fun f => by cases f; simp
  exact ⟨f1.toList.map a.eval, f2.toList.map a.eval, by rw [e f1, e f2], r1, r2⟩

theorem nilck_plain {y : Opd} {z : Operand} {ty : TypeId} (hop : o.op = .nilCheck z) (h1 : opd P ty z = some y) (ht : TRel G w t a) (hx : (∃ id off, ev t y = .ptr id off) ∨ ∃ cs, ev t y = .ref cs) : Plain P G w a o (ev t y) := by
  have r1 := opd_rel h1 ht
  rcases hx with ⟨id, off, hx⟩ | ⟨cs, hx⟩ <;> rw [hx] at r1 ⊢ <;> simp only [VRel] at r1
  · exact ⟨a.eval z, by simp [execOp, hop, r1.2], by simp only [VRel]; exact r1⟩
  · obtain ⟨B, off, vs, e1, e2⟩ := id r1
    exact ⟨a.eval z, by simp [execOp, hop, e1], by simp only [VRel]; exact r1⟩

theorem idx_plain {y1 y2 : Opd} {z1 z2 : Operand} {ty : TypeId} {k : IntKind} {i : Int} {l : List UInt8} (hT : P.underlying ty = some .string) (hop : o.op = .index ty z1 z2) (h1 : opd P ty z1 = some y1) (h2 : opd P 0 z2 = some y2) (ht : TRel G w t a)
    (hx : ev t y1 = .str l) (hi : ev t y2 = .int k i) (hb : 0 ≤ i ∧ i < l.length) : Plain P G w a o (byte (l.getD i.toNat 0)) := by
  have r1 := opd_rel h1 ht
  have r2 := opd_rel h2 ht
  rw [hx] at r1
  rw [hi] at r2
  simp only [VRel] at r1 r2
  have hlt : i.toNat < l.length := by omega
  have hb' : 0 ≤ i := hb.1
  refine ⟨.int .u8 (l.getD i.toNat 0).toNat, ?_, by simp [byte, VRel]⟩
  have e1 : (ByteArray.mk l.toArray)[i.toNat]? = some (l.getD i.toNat 0) := by
    have hs : (ByteArray.mk l.toArray).size = l.length := by simp [ByteArray.size]
    rw [getElem?_pos _ _ (by rw [hs]; exact hlt)]
    simp [List.getD, List.getElem?_eq_getElem hlt]
    rfl
  simp [execOp, hop, Instr.index, r1, r2, run_underlying hT, asIntOf, hb', e1]

theorem len_plain {y : Opd} {z : Operand} {ty : TypeId} {c : Call} {n : Nat} (hop : o.op = .call c) (hc : c.callee = .builtin .len) (ha : c.args.toList = [z]) (hta : c.argTypes.toList = [ty])
    (h1 : opd P ty z = some y) (ht : TRel G w t a)
    (hx : (P.underlying ty = some .string ∧ ∃ l, ev t y = .str l ∧ n = l.length) ∨ (∃ e, P.underlying ty = some (.slice e)) ∧ ((∃ s xs c, ev t y = .sl s xs c ∧ n = xs.length) ∨ ∃ sz id off cap, ev t y = .tsl sz id off n cap)) : Plain P G w a o (.int .i64 n) := by
  have r1 := opd_rel h1 ht
  have ha' : c.args = #[z] := by rw [← Array.toArray_toList (xs := c.args), ha]
  have hta' : c.argTypes = #[ty] := by rw [← Array.toArray_toList (xs := c.argTypes), hta]
  refine ⟨.int .i64 n, ?_, by simp [VRel]⟩
  rcases hx with ⟨hT, l, e1, e2⟩ | ⟨⟨e, hT⟩, ⟨s, xs, c', e1, e2⟩ | ⟨sz, id, off, cap, e1⟩⟩
  · rw [e1] at r1
    simp only [VRel] at r1
    have hs : (ByteArray.mk l.toArray).size = n := by simp [ByteArray.size, e2]
    simp [execOp, hop, resolve, hc, ha', hta', invoke, builtin, Builtin.len_, run_underlying hT, r1, goInt, hs]
  · rw [e1] at r1
    simp only [VRel] at r1
    rcases r1 with ⟨rfl, ⟨a0, r1⟩, -⟩ | ⟨B, off, C, vs, r1, -⟩ <;>
      simp [execOp, hop, resolve, hc, ha', hta', invoke, builtin, Builtin.len_, run_underlying hT, r1, goInt, e2]
  · rw [e1] at r1
    simp only [VRel] at r1
    obtain ⟨-, ⟨C, c0, T0, fr, r1, -⟩ | ⟨h0, ⟨a0, r1⟩, -⟩⟩ := r1
    · simp [execOp, hop, resolve, hc, ha', hta', invoke, builtin, Builtin.len_, run_underlying hT, r1, goInt]
    · simp [execOp, hop, resolve, hc, ha', hta', invoke, builtin, Builtin.len_, run_underlying hT, r1, goInt, h0]

theorem mm_plain {mx : Bool} {y1 y2 : Opd} {z1 z2 : Operand} {c : Call} {z : AV} (hop : o.op = .call c) (hc : c.callee = .builtin (if mx then .max else .min)) (ha : c.args.toList = [z1, z2])
    (h1 : opd P 0 z1 = some y1) (h2 : opd P 0 z2 = some y2) (ht : TRel G w t a) (hz : mm mx (ev t y1) (ev t y2) = some z) : Plain P G w a o z := by
  have r1 := opd_rel h1 ht
  have r2 := opd_rel h2 ht
  have ha' : c.args = #[z1, z2] := by rw [← Array.toArray_toList (xs := c.args), ha]
  generalize ev t y1 = X at *
  generalize ev t y2 = Y at *
  unfold mm at hz
  split at hz
  · rename_i k p k' q
    cases hz
    simp only [VRel] at r1 r2
    cases mx
    · simp only [Bool.false_eq_true, if_false] at hc ⊢
      exact ⟨_, by simp [execOp, hop, resolve, hc, ha', invoke, builtin, Builtin.min_, Builtin.min2, r1, r2]; rfl, by simp [VRel]⟩
    · simp only [if_true] at hc ⊢
      exact ⟨_, by simp [execOp, hop, resolve, hc, ha', invoke, builtin, Builtin.max_, Builtin.max2, r1, r2]; rfl, by simp [VRel]⟩
  · rename_i p q
    cases hz
    simp only [VRel] at r1 r2
    have hb : ∀ (u v : List UInt8), (u == v) = decide (u = v) := fun u v => by
      rw [Bool.eq_iff_iff]; simp
    cases mx
    · simp only [Bool.false_eq_true, if_false] at hc ⊢
      refine ⟨.string (if (Op.bytesLess p q || decide (p = q)) = true then ⟨p.toArray⟩ else ⟨q.toArray⟩), ?_, ?_⟩
      · simp [execOp, hop, resolve, hc, ha', invoke, builtin, Builtin.min_, Builtin.min2, r1, r2, Op.stringOp, asBool, ByteArray.toList_eq, hb]
      · simp only [VRel]; split <;> rfl
    · simp only [if_true] at hc ⊢
      refine ⟨.string (if (!Op.bytesLess p q) = true then ⟨p.toArray⟩ else ⟨q.toArray⟩), ?_, ?_⟩
      · simp [execOp, hop, resolve, hc, ha', invoke, builtin, Builtin.max_, Builtin.max2, r1, r2, Op.stringOp, asBool, ByteArray.toList_eq, hb]
      · simp only [VRel]; split <;> rfl
  · cases hz

theorem clr0_plain {c : Call} {z : Operand} {y : Opd} {T : TypeId} {sz id off : Nat} {cap : Option Nat} (hop : o.op = .call c) (hc : c.callee = .builtin .clear) (ha : c.args.toList = [z]) (hta : c.argTypes.toList = [T])
    (hy : opd P T z = some y) (ht : TRel G w t a) (hx : ev t y = .tsl sz id off 0 cap) (hT : ∃ d, P.underlying T = some d) : Plain P G w a o .any := by
  have r1 := opd_rel hy ht
  have ha' : c.args = #[z] := by rw [← Array.toArray_toList (xs := c.args), ha]
  have hta' : c.argTypes = #[T] := by rw [← Array.toArray_toList (xs := c.argTypes), hta]
  obtain ⟨d, hT⟩ := hT
  rw [hx] at r1
  simp only [VRel] at r1
  refine ⟨.tuple #[], ?_, by simp [VRel]⟩
  obtain ⟨-, ⟨C, c0, T0, fr, r1, -⟩ | ⟨-, ⟨a0, r1⟩, -⟩⟩ := r1 <;>
    cases d <;> simp [execOp, hop, resolve, hc, ha', hta', invoke, builtin, Builtin.clear_, run_underlying hT, r1]
end
end Go.Av
