/- The operations that read what stands still: loads, parts, addresses, slices, conversions. -/
import Derived.Test.YtlefnohibjcekaaAvSoundA
set_option linter.unusedVariables false
set_option linter.unusedSimpArgs false
namespace Go.Av
section
variable {P : Program} {G : Ghost} {w : World}

theorem add_plain (B off k : Nat) : (⟨B, off, none⟩ : Addr).add k = ⟨B, off + k, none⟩ := by
  unfold Addr.add; split <;> simp_all

theorem VElems.length {sz : Nat} : ∀ {xs : List AV} {vs : List Value}, VElems G w sz xs vs → vs.length = xs.length * sz
  | [], vs, h => by simp only [VElems] at h; simp [h]
  | x :: xs, vs, h => by
    simp only [VElems] at h
    obtain ⟨v, us, rfl, h1, _, h2⟩ := h
    simp [VElems.length h2, h1, Nat.add_mul]; omega

theorem VElems.drop {sz : Nat} : ∀ {xs : List AV} {vs : List Value} (n : Nat), VElems G w sz xs vs → VElems G w sz (xs.drop n) (vs.drop (n * sz))
  | xs, vs, 0, h => by simpa using h
  | [], vs, n + 1, h => by simp only [VElems] at h; simp [h, VElems]
  | x :: xs, vs, n + 1, h => by
    simp only [VElems] at h
    obtain ⟨v, us, rfl, h1, _, h2⟩ := h
    have e : (n + 1) * sz = v.cells.toList.length + n * sz := by simp [h1, Nat.add_mul]; omega
    have e2 : (v.cells.toList ++ us).drop (v.cells.toList.length + n * sz) = us.drop (n * sz) := by
      rw [← List.drop_drop, List.drop_left]
    rw [e, e2]
    simpa using VElems.drop n h2

theorem VElems.take {sz : Nat} : ∀ {xs : List AV} {vs : List Value} (n : Nat), VElems G w sz xs vs → VElems G w sz (xs.take n) (vs.take (n * sz))
  | xs, vs, 0, h => by simp [VElems]
  | [], vs, n + 1, h => by simp only [VElems] at h; simp [h, VElems]
  | x :: xs, vs, n + 1, h => by
    simp only [VElems] at h
    obtain ⟨v, us, rfl, h1, h1', h2⟩ := h
    have e : (n + 1) * sz = v.cells.toList.length + n * sz := by simp [h1, Nat.add_mul]; omega
    rw [e, List.take_length_add_append]
    simp only [List.take_succ_cons, VElems]
    exact ⟨v, _, rfl, h1, h1', VElems.take n h2⟩

theorem VElems.append {sz : Nat} : ∀ {xs ys : List AV} {vs us : List Value}, VElems G w sz xs vs → VElems G w sz ys us → VElems G w sz (xs ++ ys) (vs ++ us)
  | [], ys, vs, us, h, h' => by simp only [VElems] at h; subst h; simpa using h'
  | x :: xs, ys, vs, us, h, h' => by
    simp only [VElems] at h
    obtain ⟨v, vs', rfl, h1, h2, h3⟩ := h
    simp only [List.cons_append, VElems, List.append_assoc]
    exact ⟨v, _, rfl, h1, h2, VElems.append h3 h'⟩

theorem VElems.get {sz : Nat} : ∀ {xs : List AV} {vs : List Value} (i : Nat), VElems G w sz xs vs → i < xs.length →
    ∃ v : Value, v.cells.size = sz ∧ VRel G w (xs.getD i .any) v ∧ ∀ j u, v.cells.toList[j]? = some u → vs[i * sz + j]? = some u
  | [], vs, i, h, hi => by simp at hi
  | x :: xs, vs, 0, h, hi => by
    simp only [VElems] at h
    obtain ⟨v, us, rfl, h1, h2, h3⟩ := h
    refine ⟨v, h1, by simpa using h2, fun j u hu => ?_⟩
    have : j < v.cells.toList.length := by
      rcases Nat.lt_or_ge j v.cells.toList.length with h | h
      · exact h
      · rw [List.getElem?_eq_none h] at hu; cases hu
    rw [List.getElem?_append_left (by simpa using this)]
    simpa using hu
  | x :: xs, vs, i + 1, h, hi => by
    simp only [VElems] at h
    obtain ⟨v, us, rfl, h1, h2, h3⟩ := h
    obtain ⟨v', e1, e2, e3⟩ := VElems.get i h3 (by simpa using hi)
    refine ⟨v', e1, by simpa using e2, fun j u hu => ?_⟩
    have e : (i + 1) * sz + j = v.cells.toList.length + (i * sz + j) := by simp [h1, Nat.add_mul]; omega
    rw [e, List.getElem?_append_right (by omega)]
    simpa using e3 j u hu

/-- the cells of a value stand as the abstract value's cells, where that is known to be one cell or some -/
theorem cells_of {x : AV} {v : Value} (h : VRel G w x v) (hx : isCell x = true ∨ ∃ cs, x = .agg cs) : VRels G w (cellsOf x) v.cells.toList := by
  rcases hx with hx | ⟨cs, rfl⟩
  · have hv : v.cells = #[v] := by
      cases x <;> simp only [VRel] at h <;> simp [isCell] at hx <;> first
        | (subst h; rfl)
        | (obtain ⟨-, rfl⟩ := h; rfl)
        | skip
      · rename_i u; cases u <;> simp_all <;> rfl
      · rcases h with ⟨-, ⟨_, rfl⟩, -⟩ | ⟨_, _, _, _, rfl, -⟩ <;> rfl
      · obtain ⟨_, _, _, rfl, -⟩ := h; rfl
      · obtain ⟨-, ⟨_, _, _, _, rfl, -⟩ | ⟨-, ⟨_, rfl⟩, -⟩⟩ := h <;> rfl
      · obtain ⟨_, _, rfl, -⟩ := h; rfl
      · obtain ⟨_, rfl, -⟩ := h; rfl
    rw [hv]
    have : cellsOf x = [x] := by cases x <;> simp [isCell] at hx <;> rfl
    rw [this]
    exact .cons h .nil
  · simp only [VRel] at h
    obtain ⟨vs, rfl, hr⟩ := h
    simpa [cellsOf, Value.cells] using hr

theorem isCell_one {x : AV} {v : Value} (h : VRel G w x v) (hx : isCell x = true) : One v := by
  unfold One
  cases x
  case sc u => simp only [VRel] at h; subst h; cases v <;> simp_all [isCell]
  case sl => simp only [VRel] at h; rcases h with ⟨-, ⟨_, rfl⟩, -⟩ | ⟨_, _, _, _, rfl, -⟩ <;> simp
  case ref => simp only [VRel] at h; obtain ⟨_, _, _, rfl, -⟩ := h; simp
  case tsl => simp only [VRel] at h; obtain ⟨-, ⟨_, _, _, _, rfl, -⟩ | ⟨-, ⟨_, rfl⟩, -⟩⟩ := h <;> simp
  case clo => simp only [VRel] at h; obtain ⟨_, _, rfl, -⟩ := h; simp
  case ifc => simp only [VRel] at h; obtain ⟨_, rfl, -⟩ := h; simp
  all_goals first
    | (simp [isCell] at hx; done)
    | (simp only [VRel] at h; subst h; simp; done)
    | (simp only [VRel] at h; obtain ⟨-, rfl⟩ := h; simp; done)

theorem Imm.drop {B off : Nat} {vs : List Value} (n : Nat) (h : Imm G w B off vs) : Imm G w B (off + n) (vs.drop n) := by
  intro i v hv
  rw [List.getElem?_drop] at hv
  have := h (n + i) v hv
  rwa [← Nat.add_assoc] at this
theorem Imm.take {B off : Nat} {vs : List Value} (n : Nat) (h : Imm G w B off vs) : Imm G w B off (vs.take n) := by
  intro i v hv
  rw [List.getElem?_take] at hv
  split at hv
  · exact h i v hv
  · cases hv
theorem Imm.nil {B off : Nat} : Imm G w B off [] := fun i v hv => by simp at hv

variable {t : Tm} {a : Act} {o : Oper} {h h' : H} {x : AV} {en : Ent}

theorem run_isAgg (P : Program) (w : World) (ty : TypeId) (hs : (P.underlying ty).isSome = true) : (isAgg ty).run P w = .ok (isAggT P ty) w := by
  obtain ⟨d, hd⟩ := Option.isSome_iff_exists.1 hs
  simp only [isAgg, Sem.run_bind, run_underlying hd, Result.andThen_ok, isAggT, hd]
  cases d <;> rfl

/-- a slice's bounds, as the program reads them -/
theorem run_bound (P : Program) (w : World) {k : IntKind} {i : Int} {y : Nat} {code : BoundsCode} (h0 : 0 ≤ i) (h1 : i ≤ y) : (Instr.sliceBound (.int k i) y code).run P w = .ok i.toNat w := by
  simp [Instr.sliceBound, asIntOf, h0, h1]

theorem run_size (P : Program) (w : World) (ty : TypeId) (hs : (P.info? ty).isSome = true) : (sizeOf ty).run P w = .ok (P.cellsOf ty) w := by
  obtain ⟨d, hd⟩ := Option.isSome_iff_exists.1 hs
  simp [sizeOf, typeInfo, hd, Program.cellsOf]

theorem run_loadVar_cells (P : Program) (w : World) (ty : TypeId) (B off : Nat) (cs : List Value) (h1 : (P.info? ty).isSome = true) (h2 : (P.underlying ty).isSome = true) (hagg : isAggT P ty = true)
    (hn : cs.length = P.cellsOf ty) (hc : ∀ j v, cs[j]? = some v → w.cell? ⟨B, off + j, none⟩ = some v) : (loadVar ty ⟨B, off, none⟩).run P w = .ok (.agg cs.toArray) w := by
  have hl := run_loadCells_list (P := P) w ⟨B, off, none⟩ cs (fun j v hv => by rw [add_plain]; exact hc j v hv)
  simp only [loadVar, Sem.run_bind, run_isAgg P w ty h2, hagg, Result.andThen_ok, run_size P w ty h1, ← hn, if_true, Sem.run_map]
  simp [hl]

theorem run_loadVar_cell (P : Program) (w : World) (ty : TypeId) (ad : Addr) (v : Value) (h2 : (P.underlying ty).isSome = true) (hagg : isAggT P ty = false)
    (hc : w.cell? ad = some v) : (loadVar ty ad).run P w = .ok v w := by
  simp [loadVar, run_isAgg P w ty h2, hagg, hc]

theorem part_sound {off : Nat} {n : Option Nat} {cs : List AV} {vs : List Value} (hr : VRels G w cs vs) (hp : part off n cs = some x) :
    (n = none ∧ ∃ v, vs[off]? = some v ∧ VRel G w x v) ∨ ∃ m, n = some m ∧ off + m ≤ vs.length ∧ VRel G w x (.agg ((vs.drop off).take m).toArray) := by
  unfold part at hp
  split at hp
  · obtain ⟨v, h1, h2⟩ := hr.get hp
    exact .inl ⟨rfl, v, h1, h2⟩
  · rename_i m
    split at hp
    · cases hp
      refine .inr ⟨m, rfl, by rw [hr.length]; assumption, ?_⟩
      simp only [VRel]
      exact ⟨_, rfl, (hr.drop off).take m⟩
    · cases hp

theorem load_plain {ty : TypeId} {z : Operand} {y : Opd} (hop : o.op = .load ty z) (h1 : (P.info? ty).isSome = true) (h2 : (P.underlying ty).isSome = true) (hy : opd P 0 z = some y) (ht : TRel G w t a)
    {B off : Nat} {vs : List Value} {cs : List AV} (hv : a.eval z = .pointer (some ⟨B, off, none⟩)) (hr : VRels G w cs vs) (hc : ∀ j v, vs[j]? = some v → w.cell? ⟨B, off + j, none⟩ = some v)
    (hp : part 0 (if isAggT P ty then some (P.cellsOf ty) else none) cs = some x) : Plain P G w a o x := by
  rcases part_sound hr hp with ⟨e, v, e1, e2⟩ | ⟨m, e, e1, e2⟩
  · have hagg : isAggT P ty = false := by
      cases hh : isAggT P ty <;> simp [hh] at e ⊢
    refine ⟨v, ?_, e2⟩
    have := run_loadVar_cell P w ty ⟨B, off, none⟩ v h2 hagg (by simpa using hc 0 v e1)
    simp [execOp, hop, Instr.loadAt, hv, Instr.sureAddr, this]
  · have hagg : isAggT P ty = true := by
      cases hh : isAggT P ty <;> simp [hh] at e ⊢
    have hm : m = P.cellsOf ty := by simpa [hagg] using e.symm
    refine ⟨_, ?_, e2⟩
    have := run_loadVar_cells P w ty B off ((vs.drop 0).take m) h1 h2 hagg (by simp [hm] at e1 ⊢; omega) (fun j v hj => hc j v (by
      rw [List.getElem?_take] at hj
      split at hj
      · simpa using hj
      · cases hj))
    rw [List.drop_zero] at this
    simp [execOp, hop, Instr.loadAt, hv, Instr.sureAddr, this]

theorem run_part (P : Program) (w : World) (ty : TypeId) (off : Nat) (cs : List AV) (vs : List Value) (h1 : (P.info? ty).isSome = true) (h2 : (P.underlying ty).isSome = true) (hr : VRels G w cs vs)
    (hp : part off (if isAggT P ty then some (P.cellsOf ty) else none) cs = some x) : ∃ v, (Go.part ty vs.toArray off).run P w = .ok v w ∧ VRel G w x v := by
  rcases part_sound hr hp with ⟨e, v, e1, e2⟩ | ⟨m, e, e1, e2⟩
  · have hagg : isAggT P ty = false := by
      cases hh : isAggT P ty <;> simp [hh] at e ⊢
    refine ⟨v, ?_, e2⟩
    simp [Go.part, run_isAgg P w ty h2, hagg, e1]
  · have hagg : isAggT P ty = true := by
      cases hh : isAggT P ty <;> simp [hh] at e ⊢
    have hm : m = P.cellsOf ty := by simpa [hagg] using e.symm
    refine ⟨_, ?_, e2⟩
    simp [Go.part, run_isAgg P w ty h2, hagg, run_size P w ty h1, hm]

theorem fld_plain {ty : TypeId} {z : Operand} {y : Opd} {f : Nat} {fs : Array Field} {fd : Field} {cs : List AV} (hop : o.op = .field ty z f) (hu : P.underlying ty = some (.struct fs)) (hf : fs[f]? = some fd)
    (h1 : (P.info? fd.type).isSome = true) (h2 : (P.underlying fd.type).isSome = true) (hy : opd P ty z = some y) (ht : TRel G w t a) (hx : ev t y = .agg cs)
    (hp : part fd.offset (if isAggT P fd.type then some (P.cellsOf fd.type) else none) cs = some x) : Plain P G w a o x := by
  have r := opd_rel hy ht
  rw [hx] at r
  simp only [VRel] at r
  obtain ⟨vs, hv, hr⟩ := r
  obtain ⟨v, e1, e2⟩ := run_part P w fd.type fd.offset cs vs h1 h2 hr hp
  exact ⟨v, by simp [execOp, hop, Instr.field, run_underlying hu, hf, hv, asAgg, e1], e2⟩

theorem faddr_plain {ty : TypeId} {z : Operand} {y : Opd} {f : Nat} {fs : Array Field} {fd : Field} (hop : o.op = .fieldAddr ty z f) (hu : P.underlying ty = some (.struct fs)) (hf : fs[f]? = some fd)
    (h1 : (P.info? fd.type).isSome = true) (h2 : 0 < P.cellsOf fd.type) (hy : opd P 0 z = some y) (ht : TRel G w t a)
    (hx : (∃ cs, ev t y = .ref cs ∧ x = .ref (cs.drop fd.offset)) ∨ ∃ id off, ev t y = .ptr id off ∧ x = .ptr id (off + fd.offset)) : Plain P G w a o x := by
  have r := opd_rel hy ht
  have hz : P.cellsOf fd.type ≠ 0 := by omega
  rcases hx with ⟨cs, hx, rfl⟩ | ⟨id, off, hx, rfl⟩
  · rw [hx] at r
    simp only [VRel] at r
    obtain ⟨B, off, vs, hv, hr, hi⟩ := r
    refine ⟨.pointer (some ⟨B, off + fd.offset, none⟩), ?_, ?_⟩
    · simp [execOp, hop, Instr.fieldAt, run_underlying hu, hf, hv, Instr.sureAddr, fieldPlace, run_size P w _ h1, hz, add_plain]
    · simp only [VRel]
      exact ⟨B, _, _, rfl, hr.drop _, hi.drop _⟩
  · rw [hx] at r
    simp only [VRel] at r
    obtain ⟨hd, hv⟩ := r
    refine ⟨.pointer (some ⟨G.ι id, off + fd.offset, none⟩), ?_, ?_⟩
    · simp [execOp, hop, Instr.fieldAt, run_underlying hu, hf, hv, Instr.sureAddr, fieldPlace, run_size P w _ h1, hz, add_plain]
    · simp only [VRel]
      exact ⟨hd, trivial⟩

theorem iaddr_plain {ty e : TypeId} {z1 z2 : Operand} {y1 y2 : Opd} {k : IntKind} {i : Int} (hop : o.op = .indexAddr ty z1 z2) (hu : P.underlying ty = some (.slice e)) (h1 : (P.info? e).isSome = true)
    (hy1 : opd P ty z1 = some y1) (hy2 : opd P 0 z2 = some y2) (ht : TRel G w t a) (hi : ev t y2 = .int k i) (h0 : 0 ≤ i)
    (hx : (∃ xs c, ev t y1 = .sl (P.cellsOf e) xs c ∧ i < xs.length ∧ x = .ref (cellsOf (xs.getD i.toNat .any)) ∧ (isCell (xs.getD i.toNat .any) = true ∨ ∃ cs, xs.getD i.toNat .any = .agg cs)) ∨
      ∃ id off len cap, ev t y1 = .tsl (P.cellsOf e) id off len cap ∧ i < len ∧ x = .ptr id (off + i.toNat * P.cellsOf e)) : Plain P G w a o x := by
  have r1 := opd_rel hy1 ht
  have r2 := opd_rel hy2 ht
  rw [hi] at r2
  simp only [VRel] at r2
  rcases hx with ⟨xs, c, hx, hlt, rfl, hcell⟩ | ⟨id, off, len, cap, hx, hlt, rfl⟩
  · rw [hx] at r1
    simp only [VRel] at r1
    rcases r1 with ⟨rfl, -⟩ | ⟨B, off, C, vs, hv, hC, hl, he, him, -⟩
    · simp at hlt; omega
    · have hlt' : i.toNat < xs.length := by omega
      obtain ⟨v, e1, e2, e3⟩ := he.get i.toNat hlt'
      refine ⟨.pointer (some ⟨B, off + i.toNat * P.cellsOf e, none⟩), ?_, ?_⟩
      · have hlt2 : i < (xs.length : Int) := hlt
        simp [execOp, hop, Instr.indexAt, run_underlying hu, hv, r2, asIntOf, h0, hlt2, run_size P w _ h1, add_plain]
      · simp only [VRel]
        refine ⟨B, _, v.cells.toList, rfl, cells_of e2 hcell, fun j u hu' => ?_⟩
        have := him _ u (e3 j u hu')
        simpa [Nat.add_assoc] using this
  · rw [hx] at r1
    simp only [VRel] at r1
    obtain ⟨hd, ⟨C, c0, T0, fr, hv, -⟩ | ⟨h0, -⟩⟩ := r1
    rotate_left
    · omega
    refine ⟨.pointer (some ⟨G.ι id, off + i.toNat * P.cellsOf e, none⟩), ?_, ?_⟩
    · simp [execOp, hop, Instr.indexAt, run_underlying hu, hv, r2, asIntOf, h0, hlt, run_size P w _ h1, add_plain]
    · simp only [VRel]
      exact ⟨hd, trivial⟩

def BVal (lo : Option AV) (vl : Option Value) : Prop :=
  match lo, vl with
  | none, none => True
  | some x, some v => ∃ k i, x = .int k i ∧ v = .int k i
  | _, _ => False

theorem bound_some {lo : Option AV} {vl : Option Value} {d u r : Nat} (hb : BVal lo vl) (hr : bound lo d u = some r) :
    (lo = none ∧ vl = none ∧ r = d) ∨ ∃ k i, lo = some (.int k i) ∧ vl = some (.int k i) ∧ 0 ≤ i ∧ i ≤ u ∧ r = i.toNat := by
  cases lo with
  | none =>
    cases vl with
    | none => simp [bound] at hr; exact .inl ⟨rfl, rfl, hr.symm⟩
    | some v => cases hb
  | some x =>
    cases vl with
    | none => cases hb
    | some v =>
      obtain ⟨k, i, rfl, rfl⟩ := hb
      simp only [bound] at hr
      split at hr
      · rename_i hh; cases hr; exact .inr ⟨k, i, rfl, rfl, hh.1, hh.2, rfl⟩
      · cases hr

/-- the bounds of a slice expression without a third index -/
theorem bounds2 {P : Program} {w : World} {isSl : Bool} {lo hi : Option AV} {vl vh : Option Value} {len cap h l : Nat} (bl : BVal lo vl) (bh : BVal hi vh) (hh : bound hi len len = some h) (hl : bound lo 0 h = some l) (hc : len ≤ cap) :
    (Instr.sliceBounds isSl len cap vl vh none).run P w = .ok (l, h, cap) w ∧ l ≤ h ∧ h ≤ len := by
  have hhl : h ≤ len := by
    rcases bound_some bh hh with ⟨_, _, rfl⟩ | ⟨k, i, _, _, h0, h1, rfl⟩ <;> omega
  have hlh : l ≤ h := by
    rcases bound_some bl hl with ⟨_, _, rfl⟩ | ⟨k, i, _, _, h0, h1, rfl⟩ <;> omega
  refine ⟨?_, hlh, hhl⟩
  unfold Instr.sliceBounds
  rcases bound_some bh hh with ⟨_, rfl, rfl⟩ | ⟨k, i, _, rfl, h0, h1, rfl⟩ <;>
    rcases bound_some bl hl with ⟨_, rfl, rfl⟩ | ⟨k', i', _, rfl, h0', h1', rfl⟩
  · simp
  · simp [run_bound P w h0' h1']
  · have h1c : i ≤ (cap : Int) := by omega
    simp [run_bound P w h0 h1c]
  · have h1c : i ≤ (cap : Int) := by omega
    simp [run_bound P w h0 h1c, run_bound P w h0' h1']

theorem bounds3 {P : Program} {w : World} {lo hi : Option AV} {vl vh : Option Value} {vm : Value} {k : IntKind} {j : Int} {len cap h l : Nat} (bl : BVal lo vl) (bh : BVal hi vh) (hvm : vm = .int k j) (hj : 0 ≤ j ∧ j ≤ len) (hsome : hi ≠ none)
    (hh : bound hi len j.toNat = some h) (hl : bound lo 0 h = some l) (hc : len ≤ cap) :
    (Instr.sliceBounds true len cap vl vh (some vm)).run P w = .ok (l, h, j.toNat) w ∧ l ≤ h ∧ h ≤ j.toNat := by
  have hhl : h ≤ j.toNat := by
    rcases bound_some bh hh with ⟨e, _⟩ | ⟨k, i, _, _, h0, h1, rfl⟩
    · exact absurd e hsome
    · omega
  have hlh : l ≤ h := by
    rcases bound_some bl hl with ⟨_, _, rfl⟩ | ⟨k, i, _, _, h0, h1, rfl⟩ <;> omega
  refine ⟨?_, hlh, hhl⟩
  subst hvm
  have hjc : j ≤ (cap : Int) := by omega
  unfold Instr.sliceBounds
  rcases bound_some bh hh with ⟨e, _⟩ | ⟨k, i, _, rfl, h0, h1, rfl⟩
  · exact absurd e hsome
  · rcases bound_some bl hl with ⟨_, rfl, rfl⟩ | ⟨k', i', _, rfl, h0', h1', rfl⟩
    · simp [run_bound P w hj.1 hjc, run_bound P w h0 h1]
    · simp [run_bound P w hj.1 hjc, run_bound P w h0 h1, run_bound P w h0' h1']

theorem slice_str {ty : TypeId} {vl vh : Option Value} {lo hi : Option AV} {l : List UInt8} {hh ll : Nat} (hu : P.underlying ty = some .string) (bl : BVal lo vl) (bh : BVal hi vh)
    (h1 : bound hi l.length l.length = some hh) (h2 : bound lo 0 hh = some ll) :
    (Instr.sliceAt ty (.string ⟨l.toArray⟩) vl vh none).run P w = .ok (.string ⟨((l.take hh).drop ll).toArray⟩) w := by
  have hs : (ByteArray.mk l.toArray).size = l.length := by simp [ByteArray.size]
  obtain ⟨hb, hlh, hhl⟩ := bounds2 (P := P) (w := w) (isSl := false) bl bh h1 h2 (Nat.le_refl _)
  have e : (ByteArray.mk l.toArray).extract ll hh = ⟨((l.take hh).drop ll).toArray⟩ := by
    apply ByteArray.ext
    simp [ByteArray.data_extract]
    rw [List.drop_take]
  simp [Instr.sliceAt, run_underlying hu, Instr.slice, hs, hb, e]

/-- a slice of a slice: what stands there of the elements -/
theorem slice_rel {s sz : Nat} {xs : List AV} {c' : Cap} {B off C ll hh m : Nat} {vs : List Value} (hs : s = sz ∨ xs = []) (hC : xs.length ≤ C) (hl : vs.length = xs.length * s) (he : VElems G w s xs vs) (hi : Imm G w B off vs)
    (hlh : ll ≤ hh) (hhx : hh ≤ xs.length) (hhm : hh ≤ m)
    (hcap : CapOk G w c' B (off + ll * s) (hh - ll) (m - ll) s) :
    VRel G w (.sl s ((xs.take hh).drop ll) c') (.slice (some ⟨B, off + ll * s, none⟩) (hh - ll) (m - ll)) := by
  simp only [VRel]
  have hlen : ((xs.take hh).drop ll).length = hh - ll := by simp [Nat.min_eq_left hhx]
  refine .inr ⟨B, off + ll * s, m - ll, (vs.take (hh * s)).drop (ll * s), by rw [hlen], by rw [hlen]; omega, ?_, ?_, (hi.take _).drop _, by rw [hlen]; exact hcap⟩
  · rw [hlen, List.length_drop, List.length_take, hl, Nat.min_eq_left (Nat.mul_le_mul_right s hhx), Nat.sub_mul]
  · exact (he.take hh).drop ll

theorem slc_plain {ty e : TypeId} {z : Operand} {y : Opd} {lo hi mx : Option Operand} {ylo yhi ymx : Option Opd} {str : Bool} {sz : Nat}
    (hop : o.op = .slice ty z lo hi mx) (hT : (str = true ∧ P.underlying ty = some .string ∧ mx = none ∧ ymx = none) ∨ (str = false ∧ P.underlying ty = some (.slice e) ∧ (P.info? e).isSome = true ∧ sz = P.cellsOf e))
    (hy : opd P ty z = some y) (hlo : opdO P lo = some ylo) (hhi : opdO P hi = some yhi) (hmx : opdO P mx = some ymx) (ht : TRel G w t a)
    (hmh : ymx ≠ none → yhi ≠ none)
    (hx : slice str sz (ev t y) (ylo.map (ev t)) (yhi.map (ev t)) (ymx.map fun m => some (ev t m)) = some x) : Plain P G w a o x := by
  have r := opd_rel hy ht
  have hB : ∀ {l : Option Operand} {yl : Option Opd} (h : opdO P l = some yl) {d u r : Nat}, bound (yl.map (ev t)) d u = some r → BVal (yl.map (ev t)) (l.map a.eval) := by
    intro l yl h d u r hr
    cases l with
    | none => simp [opdO] at h; subst h; trivial
    | some q =>
      simp only [opdO, Option.map_eq_some_iff] at h
      obtain ⟨b, hb, rfl⟩ := h
      have rr := opd_rel hb ht
      simp only [Option.map_some] at hr ⊢
      unfold bound at hr
      split at hr
      · rename_i e; cases e
      · rename_i k i e
        simp only [Option.some.injEq] at e
        rw [e] at rr
        simp only [VRel] at rr
        exact ⟨k, i, e, rr⟩
      · cases hr
  unfold slice at hx
  split at hx
  · -- a string
    rename_i l hl
    rw [hl] at r
    simp only [VRel] at r
    split at hx
    · rename_i hs
      rcases hT with ⟨-, hu, hm1, hm2⟩ | ⟨h, _⟩
      · subst hm1 hm2
        simp only [Option.map_none, Option.bind_eq_some_iff, Option.map_eq_some_iff] at hx
        obtain ⟨hh, e1, ll, e2, rfl⟩ := hx
        refine ⟨.string ⟨((l.take hh).drop ll).toArray⟩, ?_, by simp only [VRel]⟩
        simp [execOp, hop, r, slice_str hu (hB hlo e2) (hB hhi e1) e1 e2]
      · simp [hs] at h
    · cases hx
  · rename_i s xs c hl
    rw [hl] at r
    split at hx
    · rename_i hs
      obtain ⟨hs1, hs⟩ := hs
      rcases hT with ⟨h, _⟩ | ⟨-, hu, hinf, rfl⟩
      · simp [hs1] at h
      · simp only [VRel] at r
        have hrun : ∀ (vmx : Option Value) (l h m n C : Nat) (ad : Option Addr), (Instr.sliceBounds true n C (lo.map a.eval) (hi.map a.eval) vmx).run P w = .ok (l, h, m) w →
            (Instr.sliceAt ty (.slice ad n C) (lo.map a.eval) (hi.map a.eval) vmx).run P w = .ok (.slice (if m = l then ad else ad.map (·.add (l * P.cellsOf e))) (h - l) (m - l)) w := by
          intro vmx l h m n C ad hb
          simp [Instr.sliceAt, run_underlying hu, Instr.slice, hb, run_size P w e hinf]
        have hmul : ∀ ll, ll ≤ xs.length → ll * P.cellsOf e = ll * s := by
          intro ll hle
          rcases hs with rfl | rfl
          · rfl
          · simp at hle; subst hle; simp
        split at hx
        · -- without a third index
          rename_i hmn
          have hmx0 : mx = none := by
            cases mx with
            | none => rfl
            | some q =>
              simp only [opdO, Option.map_eq_some_iff] at hmx
              obtain ⟨b, hb, rfl⟩ := hmx
              simp at hmn
          subst hmx0
          simp only [Option.bind_eq_some_iff, Option.map_eq_some_iff] at hx
          obtain ⟨hh, e1, ll, e2, rfl⟩ := hx
          rcases r with ⟨rfl, ⟨a0, hv⟩, hcn⟩ | ⟨B, off, C, vs, hv, hC, hvl, he, him, hcap⟩
          · obtain ⟨hb, hlh, hhl⟩ := bounds2 (P := P) (w := w) (isSl := true) (hB hlo e2) (hB hhi e1) e1 e2 (Nat.le_refl _)
            simp only [List.length_nil] at hhl hb
            have hh0 : hh = 0 := by omega
            have ll0 : ll = 0 := by omega
            subst hh0 ll0
            refine ⟨.slice a0 0 0, ?_, ?_⟩
            · simp [execOp, hop, hv, hrun _ _ _ _ _ _ _ hb]
            · unfold VRel
              refine .inl ⟨by simp, ⟨a0, rfl⟩, ?_⟩
              cases c <;> simp [capCut, CapNil] at hcn ⊢
              exact hcn
          · obtain ⟨hb, hlh, hhl⟩ := bounds2 (P := P) (w := w) (isSl := true) (hB hlo e2) (hB hhi e1) e1 e2 hC
            have hr := hrun _ _ _ _ _ _ (some ⟨B, off, none⟩) hb
            by_cases hCl : C = ll
            · subst hCl
              have : hh = C := by omega
              subst this
              refine ⟨.slice (some ⟨B, off, none⟩) 0 0, ?_, ?_⟩
              · simp [execOp, hop, hv, hr]
              · simp only [VRel]
                have hxs : (xs.take hh).drop hh = [] := by simp
                rw [hxs]
                refine .inr ⟨B, off, 0, [], by simp, by simp, by simp, by simp [VElems], Imm.nil, ?_⟩
                have hlx : hh = xs.length := by omega
                subst hlx
                cases c with
                | any => simp [capCut, CapOk]
                | exact k => simp [capCut, CapOk] at hcap ⊢; omega
                | own tk => simp [capCut, CapOk]
            · refine ⟨.slice (some ⟨B, off + ll * s, none⟩) (hh - ll) (C - ll), ?_, ?_⟩
              · simp [execOp, hop, hv, hr, hCl, add_plain, hmul ll (by omega)]
              · refine slice_rel hs hC hvl he him hlh hhl (by omega) ?_
                unfold capCut
                split
                · rename_i hhe
                  subst hhe
                  cases c with
                  | any => simp [CapOk]
                  | exact k => simp [CapOk] at hcap ⊢; omega
                  | own tk =>
                    simp only [CapOk] at hcap ⊢
                    rcases hcap with hcap | ⟨k1, k2, k3⟩
                    · exact .inl (by omega)
                    · refine .inr ⟨k1, ?_, ?_⟩
                      · rw [k2, Nat.add_assoc, ← Nat.add_mul]
                        congr 4; omega
                      · have : off + ll * s + (C - ll) * s = off + C * s := by
                          rw [Nat.add_assoc, ← Nat.add_mul]; congr 2; omega
                        rw [this]; exact k3
                · simp [CapOk]
        · rename_i m hmn
          -- with a third index
          have : ∃ q b, mx = some q ∧ ymx = some b ∧ opd P 0 q = some b ∧ m = some (ev t b) := by
            cases mx with
            | none => simp [opdO] at hmx; subst hmx; simp at hmn
            | some q =>
              simp only [opdO, Option.map_eq_some_iff] at hmx
              obtain ⟨b, hb, rfl⟩ := hmx
              simp at hmn
              exact ⟨q, b, rfl, rfl, hb, hmn.symm⟩
          obtain ⟨q, b, rfl, rfl, hqb, rfl⟩ := this
          simp only [Option.bind_eq_some_iff, Option.map_eq_some_iff] at hx
          obtain ⟨mm, e0, hh, e1, ll, e2, rfl⟩ := hx
          have rq := opd_rel hqb ht
          have : ∃ k j, ev t b = .int k j ∧ 0 ≤ j ∧ j ≤ xs.length ∧ mm = j.toNat := by
            unfold bound at e0
            split at e0
            · rename_i e; cases e
            · rename_i k i e
              simp only [Option.some.injEq] at e
              split at e0
              · rename_i hh0; cases e0; exact ⟨k, i, e, hh0.1, hh0.2, rfl⟩
              · cases e0
            · cases e0
          obtain ⟨k, j, hj, hj0, hj1, rfl⟩ := this
          rw [hj] at rq
          simp only [VRel] at rq
          have hne : yhi.map (ev t) ≠ none := by
            have := hmh (by simp)
            cases yhi <;> simp_all
          rcases r with ⟨rfl, ⟨a0, hv⟩, hcn⟩ | ⟨B, off, C, vs, hv, hC, hvl, he, him, hcap⟩
          · obtain ⟨hb, hlh, hhl⟩ := bounds3 (P := P) (w := w) (cap := 0) (hB hlo e2) (hB hhi e1) rq ⟨hj0, hj1⟩ hne e1 e2 (Nat.le_refl _)
            simp only [List.length_nil] at hhl hb hj1
            have hj00 : j = 0 := by simp at hj1; omega
            subst hj00
            have hh0 : hh = 0 := by omega
            have ll0 : ll = 0 := by omega
            subst hh0 ll0
            refine ⟨.slice a0 0 0, ?_, ?_⟩
            · simp [execOp, hop, hv, hrun _ _ _ _ _ _ _ hb]
            · simp only [VRel]
              exact .inl ⟨by simp, ⟨a0, rfl⟩, by simp [CapNil]⟩
          · obtain ⟨hb, hlh, hhl⟩ := bounds3 (P := P) (w := w) (hB hlo e2) (hB hhi e1) rq ⟨hj0, hj1⟩ hne e1 e2 hC
            have hr := hrun _ _ _ _ _ _ (some ⟨B, off, none⟩) hb
            by_cases hCl : j.toNat = ll
            · have : hh = ll := by omega
              subst this
              refine ⟨.slice (some ⟨B, off, none⟩) 0 0, ?_, ?_⟩
              · simp [execOp, hop, hv, hr, hCl]
              · simp only [VRel]
                have hxs : (xs.take hh).drop hh = [] := by simp
                rw [hxs]
                refine .inr ⟨B, off, 0, [], by simp, by simp, by simp, by simp [VElems], Imm.nil, by simp [CapOk]; omega⟩
            · refine ⟨.slice (some ⟨B, off + ll * s, none⟩) (hh - ll) (j.toNat - ll), ?_, ?_⟩
              · simp [execOp, hop, hv, hr, hCl, add_plain, hmul ll (by omega)]
              · exact slice_rel hs hC hvl he him hlh (by omega) (by omega) (by simp [CapOk])
    · cases hx
  · -- a tracked slice
    rename_i s id off len c hl
    rw [hl] at r
    split at hx
    · rename_i hs
      obtain ⟨hs1, rfl⟩ := hs
      rcases hT with ⟨h, _⟩ | ⟨-, hu, hinf, rfl⟩
      · simp [hs1] at h
      · simp only [VRel] at r
        have hrun : ∀ (vmx : Option Value) (l h m n C : Nat) (ad : Option Addr), (Instr.sliceBounds true n C (lo.map a.eval) (hi.map a.eval) vmx).run P w = .ok (l, h, m) w →
            (Instr.sliceAt ty (.slice ad n C) (lo.map a.eval) (hi.map a.eval) vmx).run P w = .ok (.slice (if m = l then ad else ad.map (·.add (l * P.cellsOf e))) (h - l) (m - l)) w := by
          intro vmx l h m n C ad hb
          simp [Instr.sliceAt, run_underlying hu, Instr.slice, hb, run_size P w e hinf]
        split at hx
        · rename_i hmn
          have hmx0 : mx = none := by
            cases mx with
            | none => rfl
            | some q =>
              simp only [opdO, Option.map_eq_some_iff] at hmx
              obtain ⟨b, hb, rfl⟩ := hmx
              simp at hmn
          subst hmx0
          simp only [Option.bind_eq_some_iff, Option.map_eq_some_iff] at hx
          obtain ⟨hh, e1, ll, e2, rfl⟩ := hx
          obtain ⟨hd, hv⟩ := r
          have hcap : ∀ (C k : Nat), (∀ q, c = some q → C = q) → (c.map fun k => k - ll) = some k → C - ll = k := by
            intro C k h1 h2
            cases c with
            | none => cases h2
            | some q => cases h2; rw [h1 q rfl]
          rcases hv with ⟨C, cc, T, fr, hv, ⟨hC, hC63⟩, hk, hg, hroom⟩ | ⟨h0, ⟨a0, hv⟩, hk⟩
          · obtain ⟨hb, hlh, hhl⟩ := bounds2 (P := P) (w := w) (isSl := true) (hB hlo e2) (hB hhi e1) e1 e2 hC
            have hr := hrun _ _ _ _ _ _ (some ⟨G.ι id, off, none⟩) hb
            by_cases hCl : C = ll
            · subst hCl
              refine ⟨.slice (some ⟨G.ι id, off, none⟩) 0 0, ?_, ?_⟩
              · have : hh - C = 0 := by omega
                simp [execOp, hop, hv, hr, this]
              · unfold VRel
                exact ⟨hd, .inr ⟨by omega, ⟨_, rfl⟩, fun k hk' => by have := hcap C k hk hk'; omega⟩⟩
            · refine ⟨.slice (some ⟨G.ι id, off + ll * P.cellsOf e, none⟩) (hh - ll) (C - ll), ?_, ?_⟩
              · simp [execOp, hop, hv, hr, hCl, add_plain]
              · unfold VRel
                refine ⟨hd, .inl ⟨C - ll, cc, T, fr, rfl, ⟨by omega, by omega⟩, fun k hk' => hcap C k hk hk', hg, ?_⟩⟩
                have : (C - ll) * P.cellsOf e + ll * P.cellsOf e = C * P.cellsOf e := by rw [← Nat.add_mul]; congr 1; omega
                omega
          · subst h0
            obtain ⟨hb, hlh, hhl⟩ := bounds2 (P := P) (w := w) (isSl := true) (hB hlo e2) (hB hhi e1) e1 e2 (Nat.le_refl _)
            have hh0 : hh = 0 := by omega
            have ll0 : ll = 0 := by omega
            subst hh0 ll0
            refine ⟨.slice (some a0) 0 0, ?_, ?_⟩
            · simp [execOp, hop, hv, hrun _ _ _ _ _ _ _ hb]
            · unfold VRel
              refine ⟨hd, .inr ⟨rfl, ⟨a0, rfl⟩, fun k hk' => ?_⟩⟩
              have := hcap 0 k (fun q hq => (hk q hq).symm) hk'
              omega
        · cases hx
    · cases hx
  · cases hx
end
end Go.Av
