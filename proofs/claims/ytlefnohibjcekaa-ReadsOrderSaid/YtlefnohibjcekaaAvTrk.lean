/- Operations that make a TRACKED row: which later steps may write. -/
import Derived.Test.YtlefnohibjcekaaAvFrz
set_option linter.unusedVariables false
set_option linter.unusedSimpArgs false
namespace Go.Av
section
variable {P : Program} {N : Nat} {o : Oper} {t : Tm} {h : H} {en : Ent}

theorem shaped_or {x : AV} (h : shaped x = true) : isCell x = true ∨ ∃ cs, x = .agg cs := by
  unfold shaped at h
  simp only [Bool.or_eq_true] at h
  rcases h with h | h
  · exact .inl h
  · cases x <;> simp at h
    exact .inr ⟨_, rfl⟩

theorem rels_of_elems {G : Ghost} {w : World} {sz : Nat} : ∀ {els : List AV} {vs : List Value}, VElems G w sz els vs → els.all shaped = true → VRels G w (els.flatMap cellsOf) vs
  | [], vs, h, _ => by simpa [VElems, VRels] using h
  | x :: els, vs, h, ha => by
    simp only [VElems] at h
    obtain ⟨v, us, rfl, h1, h2, h3⟩ := h
    simp only [List.all_cons, Bool.and_eq_true] at ha
    rw [List.flatMap_cons]
    exact (cells_of h2 (shaped_or ha.1)).append (rels_of_elems h3 ha.2)

theorem appT_loc {c : Call} {zs zx : Operand} {ys yx : Opd} {T U e : TypeId} {d : TypeDesc} {i : TypeInfo} {s : Nat} {els : List AV} (hop : o.op = .call c) (hc : c.callee = .builtin .append) (ha : c.args.toList = [zs, zx]) (hta : c.argTypes.toList = [T, U])
    (hT : P.underlying T = some (.slice e)) (hU : P.underlying U = some d) (hd : (∃ e', d = .slice e') ∨ d = .string) (hi : P.info? e = some i) (hz : i.zero.any (fun z => z.cells.size == i.size) = true) (hsz : 0 < i.size)
    (hys : opd P T zs = some ys) (hyx : opd P U zx = some yx) (hs : ev t ys = .sl s [] (.exact 0)) (hx : ∃ s' c', ev t yx = .sl s' els c' ∧ s' = i.size) (hsh : els.all shaped = true) (hne : 0 < els.length)
    (hb : els.length * i.bytes ≤ 140737488355328) (hlen : els.length < 4611686018427387904) :
    Loc P o t h (.tsl i.size h.n 0 els.length none) { h with objs := upd h.objs h.n (some (.cells (els.flatMap cellsOf))), n := h.n + 1 } ⟨[], [h.n], []⟩ := by
  have ha' : c.args = #[zs, zx] := by rw [← Array.toArray_toList (xs := c.args), ha]
  have hta' : c.argTypes = #[T, U] := by rw [← Array.toArray_toList (xs := c.argTypes), hta]
  obtain ⟨z, hz1, hz2⟩ : ∃ z, i.zero = some z ∧ z.cells.size = i.size := by
    cases hzz : i.zero with
    | none => rw [hzz] at hz; simp at hz
    | some z => rw [hzz] at hz; exact ⟨z, rfl, by simpa using hz⟩
  refine ⟨_, _, touch_new h _, fun G w a ht R F => ?_⟩
  have r1 := opd_rel hys ht
  have r2 := opd_rel hyx ht
  rw [hs] at r1
  obtain ⟨s', c', hx, hs'⟩ := hx
  rw [hx] at r2
  obtain ⟨news, n1, n2, n3⟩ := src_slice (P := P) (.inl hs') r2
  have hbase : ∃ a0, a.eval zs = .slice a0 0 0 := by
    simp only [VRel, CapOk] at r1
    rcases r1 with ⟨-, h, -⟩ | ⟨B, off, C, vs, q1, -, -, -, -, q6⟩
    · exact h
    · subst q6; exact ⟨_, by simpa using q1⟩
  obtain ⟨a0, ha0⟩ := hbase
  obtain ⟨w', C, rest, e1, e2, e3, e4⟩ := run_append_grows (ty := o.type) hT hU hd hi hz1 hz2 hsz n1 (src_none a0) (by omega) (Nat.le_refl _) (by simpa using hb) (by simpa using hlen)
  rw [List.nil_append] at e2
  simp only [Nat.zero_add] at e1 e3 e4
  have hnl := n2.length
  obtain ⟨G', T1, R1, V⟩ := new_tsl (m := h.m) (sz := i.size) e2 (rels_of_elems n2 hsh) n3 (fresh_n F (by simp [H.only])) e3 (by omega)
  refine ⟨.value _, _, w', G', ?_, .inl rfl, T1, R1, V⟩
  simp [execOp, hop, resolve, hc, ha', hta', invoke, builtin, ha0, e1]

theorem buildSlT_loc {ty e : TypeId} {len : Nat} {parts : Array (Nat × Operand)} {ys : List Opd} {z : Value} (hop : o.op = .buildSlice ty len parts) (hu : P.underlying ty = some (.slice e)) (hi : (P.info? e).isSome = true) (hn : parts.size = len) (hpos : 0 < P.cellsOf e)
    (hz : (P.info? e).bind (·.zero) = some z) (hzs : z.cells.size = P.cellsOf e)
    (hys : elemsOf P e 0 parts.toList = some ys) (hs : ∀ y ∈ ys, (cellsOf (ev t y)).length = P.cellsOf e ∧ shaped (ev t y) = true) (hle : ys.length * P.cellsOf e ≤ 16777216) :
    Loc P o t h (.tsl (P.cellsOf e) h.n 0 ys.length none) { h with objs := upd h.objs h.n (some (.cells ((ys.map (ev t)).flatMap cellsOf))), n := h.n + 1 } ⟨[], [h.n], []⟩ := by
  refine ⟨_, _, touch_new h _, fun G w a ht R F => ?_⟩
  obtain ⟨r1, r2, r3⟩ := opdVals_rel ht hys
  simp only [Array.length_toList, hn] at r2 r3
  have hsz : ∀ v ∈ parts.toList.map (fun p => a.eval p.2), v.cells.size = P.cellsOf e ∧ ∀ u ∈ v.cells.toList, One u := by
    intro v hv
    obtain ⟨k, hk⟩ := List.getElem?_of_mem hv
    have hlt : k < (parts.toList.map (fun p => a.eval p.2)).length := by
      rcases Nat.lt_or_ge k (parts.toList.map (fun p => a.eval p.2)).length with h | h
      · exact h
      · rw [List.getElem?_eq_none h] at hk; cases hk
    have hlt' : k < ys.length := by simp at hlt; omega
    obtain ⟨u, hu1, hu2⟩ := r1.get (i := k) (x := ev t ys[k]) (by simp [List.getElem?_eq_getElem hlt'])
    have e : u = v := Option.some.inj (hu1.symm.trans hk)
    subst e
    obtain ⟨s1, s2⟩ := hs ys[k] (List.getElem_mem hlt')
    obtain ⟨c1, c2⟩ := shaped_cells hu2 s2
    have := c1.length
    exact ⟨by simpa [s1] using this, cells_one c1 c2⟩
  generalize hV : parts.toList.map (fun p => a.eval p.2) = vals at *
  have hvl : vals.length = len := by rw [← hV]; simp [hn]
  have he := elems_of_rels r1 fun v hv => (hsz v hv).1
  have hfl : (vals.flatMap (·.cells.toList)).length = len * P.cellsOf e := by
    have := he.length; rw [this]; simp [r3]
  have hfill : ∀ cells : Array Value, cells.size = len * P.cellsOf e → Instr.fill (fun i => some (i * P.cellsOf e, P.cellsOf e)) cells ((parts.map fun (i, x) => (i, a.eval x)).toList) = some (vals.flatMap (·.cells.toList)).toArray := by
    intro cells hc
    have hz : (parts.map fun (i, x) => (i, a.eval x)).toList = (List.range' 0 vals.length).zip vals := by
      have : ∀ l : List (Nat × Operand), l.map (fun (i, x) => (i, a.eval x)) = (l.map (·.1)).zip (l.map fun p => a.eval p.2) := by
        intro l; induction l with
        | nil => rfl
        | cons p l ih => simp [ih]
      rw [Array.toList_map, this, r2, hV, hvl]
    rw [hz]
    have := fill_elems (sz := P.cellsOf e) (cells := cells) vals 0 [] cells (by simp) (by simp) (by rw [hc, hvl]; simp) (fun v hv => (hsz v hv).1)
    simpa using this
  have hle' : ¬ (len * P.cellsOf e > 16777216) := by rw [← r3]; omega
  obtain ⟨G', T1, R1, V⟩ := new_tsl (m := h.m) (sz := P.cellsOf e) (len := len) (C := len) (rest := []) (vs := vals.flatMap fun v : Value => v.cells.toList) (pushed_alloc w (.cells ((vals.flatMap fun v : Value => v.cells.toList) ++ []).toArray e (0, 0))) (rels_of_elems he (by
    rw [List.all_map]
    exact List.all_eq_true.2 fun y hy => (hs y hy).2)) (by
    intro u hu
    obtain ⟨v, hv, hu'⟩ := List.mem_flatMap.1 hu
    exact (hsz v hv).2 u hu') (fresh_n F (by simp [H.only])) ⟨Nat.le_refl _, by
    have := Nat.le_mul_of_pos_right len hpos
    omega⟩ (by rw [hfl]; simp)
  rw [List.append_nil] at T1 R1 V
  refine ⟨.value (.slice (some ⟨w.heap.size, 0, none⟩) len len), _, _, G', ?_, .inl rfl, T1, R1, by rw [r3]; exact V⟩
  obtain ⟨i, hi1, hi2⟩ := Option.bind_eq_some_iff.1 hz
  have hle2 : ¬ (16777216 < len * P.cellsOf e) := by omega
  have hmap : ∀ (zc : Array Value), ((Array.range (len * P.cellsOf e)).map (zc[· % zc.size]!)).size = len * P.cellsOf e := by intro zc; simp
  have hrz : (zeroValue e).run P w = .ok z w := by simp [zeroValue, typeInfo, hi1, hi2]
  simp only [execOp, hop, Sem.run_bind, Instr.buildSlice, run_underlying hu, Result.andThen_ok, run_size P w e hi, if_neg hle2, Sem.run_pure, Sem.run_ite, hrz, hfill _ (hmap _)]
  by_cases h0 : len * P.cellsOf e = 0
  · rw [if_pos h0]; simp [newRow]
  · rw [if_neg h0]; simp [newRow]

/-- nothing is appended -/
theorem app0_loc {c : Call} {zs zx : Operand} {ys yx : Opd} {T U e : TypeId} {d : TypeDesc} {i : TypeInfo} {s s' : Nat} {xs : List AV} {cp c' : Cap} (hop : o.op = .call c) (hc : c.callee = .builtin .append) (ha : c.args.toList = [zs, zx]) (hta : c.argTypes.toList = [T, U])
    (hT : P.underlying T = some (.slice e)) (hU : P.underlying U = some d) (hd : (∃ e', d = .slice e') ∨ d = .string) (hi : P.info? e = some i)
    (hys : opd P T zs = some ys) (hyx : opd P U zx = some yx) (hs : ev t ys = .sl s xs cp) (hx : ev t yx = .sl s' [] c') : Loc P o t h (.sl s xs cp) h ent0 := by
  have ha' : c.args = #[zs, zx] := by rw [← Array.toArray_toList (xs := c.args), ha]
  have hta' : c.argTypes = #[T, U] := by rw [← Array.toArray_toList (xs := c.argTypes), hta]
  refine Loc.plain fun G w a ht => ?_
  have r1 := opd_rel hys ht
  have r2 := opd_rel hyx ht
  rw [hs] at r1
  rw [hx] at r2
  obtain ⟨news, n1, n2, -⟩ := src_slice (P := P) (sz := i.size) (.inr rfl) r2
  have hnn : news = [] := by simpa [VElems] using n2
  subst hnn
  obtain ⟨base, len, C, hv, hlC⟩ : ∃ base len C, a.eval zs = .slice base len C ∧ len ≤ C := by
    simp only [VRel] at r1
    rcases r1 with ⟨-, ⟨a0, h⟩, -⟩ | ⟨B, off, C, vs, q1, q2, -⟩
    · exact ⟨_, _, _, h, Nat.le_refl _⟩
    · exact ⟨_, _, _, q1, q2⟩
  have hrun := run_append_fits (ty := o.type) (base := base) (sLen := len) (sCap := C) (w' := w) hT hU hd hi n1 (by simpa using hlC) (by cases base <;> simp [storeCells])
  refine ⟨a.eval zs, ?_, r1⟩
  simp [execOp, hop, resolve, hc, ha', hta', invoke, builtin, hv] at hrun ⊢
  rw [hrun]
  rfl

/-- the operations that make tracked rows -/
def aopT (ρ : Opd → AV) (h : H) : AOp → Option (AV × H × Ent)
  | .app false sz bytes s x => match ρ s, ρ x with
    | .sl s xs c, .sl _ [] _ => some (.sl s xs c, h, ent0)
    | .sl _ [] (.exact 0), .sl s' els _ => if s' = sz ∧ els.all shaped = true ∧ 0 < els.length ∧ els.length * bytes ≤ 140737488355328 ∧ els.length < 4611686018427387904 then
        some (.tsl sz h.n 0 els.length none, { h with objs := upd h.objs h.n (some (.cells (els.flatMap cellsOf))), n := h.n + 1 }, ⟨[], [h.n], []⟩) else none
    | _, _ => none
  | .buildSl sz parts => if parts.all (fun x => (cellsOf (ρ x)).length = sz ∧ shaped (ρ x)) = true ∧ parts.length * sz ≤ 16777216 then
      some (.tsl sz h.n 0 parts.length none, { h with objs := upd h.objs h.n (some (.cells ((parts.map ρ).flatMap cellsOf))), n := h.n + 1 }, ⟨[], [h.n], []⟩) else none
  | _ => none

theorem cOp_app {sz bytes : Nat} {ys yx : Opd} (h : cOp P o = some (.app false sz bytes ys yx)) : ∃ c zs zx T U e e' i, o.op = .call c ∧ c.callee = .builtin .append ∧ c.args.toList = [zs, zx] ∧ c.argTypes.toList = [T, U] ∧
    opd P T zs = some ys ∧ opd P U zx = some yx ∧ P.underlying T = some (.slice e) ∧ P.underlying U = some (.slice e') ∧ P.info? e = some i ∧ 0 < i.size ∧ (i.zero.any fun z => z.cells.size == i.size) = true ∧ i.size = sz ∧ i.bytes = bytes := by
  unfold cOp at h
  split at h
  case h_26 c hop =>
    split at h
    case h_6 hcal =>
      split at h
      · rename_i zs zx T U ha hta
        split at h
        · split at h
          · split at h
            · rename_i hq
              cases h
              exact ⟨c, zs, zx, T, U, _, _, _, hop, hcal, ha, hta, ‹_›, ‹_›, ‹_›, ‹_›, ‹_›, hq.1, hq.2, rfl, rfl⟩
            · cases h
          · cases h
        · (repeat' split at h) <;> (try cases h) <;> simp at h
        · (repeat' split at h) <;> (try cases h) <;> simp at h
        · cases h
      · cases h
    all_goals first
      | (cases h; done)
      | ((repeat' split at h) <;> (try cases h) <;> simp at h)
  all_goals first
    | (cases h; done)
    | (simp at h; done)
    | ((repeat' split at h) <;> (try cases h) <;> (try simp at h) ; done)
    | skip

theorem cOp_buildSl {sz : Nat} {ys : List Opd} (h : cOp P o = some (.buildSl sz ys)) : ∃ ty e len parts z, o.op = .buildSlice ty len parts ∧ P.underlying ty = some (.slice e) ∧ (P.info? e).isSome = true ∧ parts.size = len ∧ 0 < P.cellsOf e ∧ (P.info? e).bind (·.zero) = some z ∧ z.cells.size = P.cellsOf e ∧
    elemsOf P e 0 parts.toList = some ys ∧ sz = P.cellsOf e := by
  unfold cOp at h
  split at h
  case h_7 ty len parts hop =>
    split at h
    · split at h
      · rename_i hq
        simp only [Option.map_eq_some_iff] at h
        obtain ⟨l, h1, h2⟩ := h
        cases h2
        obtain ⟨q1, q2, q3, q4⟩ := hq
        cases hz : (P.info? _).bind (·.zero) with
        | none => rw [hz] at q4; simp at q4
        | some z => rw [hz] at q4; exact ⟨ty, _, len, parts, z, hop, ‹_›, q2, q1, q3, hz, by simpa using q4, h1, rfl⟩
      · cases h
    · cases h
  all_goals first
    | (cases h; done)
    | (simp at h; done)
    | ((repeat' split at h) <;> (try cases h) <;> (try simp at h) ; done)
    | skip

theorem aopT_loc {op : AOp} {x : AV} {h' : H} (hc : cOp P o = some op) (hx : aopT (ev t) h op = some (x, h', en)) : Loc P o t h x h' en := by
  cases op <;> (try (simp [aopT] at hx; done))
  case app str sz bytes s x0 =>
    cases str <;> (try (simp [aopT] at hx; done))
    obtain ⟨c, zs, zx, T, U, e, e', i, hop, hcal, ha, hta, hys, hyx, hT, hU, hi, hs1, hs2, rfl, rfl⟩ := cOp_app hc
    simp only [aopT] at hx
    split at hx
    · cases hx
      exact app0_loc hop hcal ha hta hT hU (.inl ⟨_, rfl⟩) hi hys hyx ‹_› ‹_›
    · split at hx
      · rename_i hq
        cases hx
        exact appT_loc hop hcal ha hta hT hU (.inl ⟨_, rfl⟩) hi hs2 hs1 hys hyx ‹_› ⟨_, _, ‹_›, hq.1⟩ hq.2.1 hq.2.2.1 hq.2.2.2.1 hq.2.2.2.2
      · cases hx
    · cases hx
  case buildSl sz parts =>
    obtain ⟨ty, e, len, ps, z, hop, hu, hi, hn, hpos, hz, hzs, hys, rfl⟩ := cOp_buildSl hc
    simp only [aopT] at hx
    split at hx
    · rename_i hq
      cases hx
      exact buildSlT_loc hop hu hi hn hpos hz hzs hys (fun y hy => by simpa using List.all_eq_true.1 hq.1 y hy) hq.2
    · cases hx

theorem aopT_congr {ρ ρ' : Opd → AV} {op : AOp} (hx : ∀ y ∈ opdsOf op, ρ y = ρ' y) : aopT ρ h op = aopT ρ' h op := by
  cases op <;> (try rfl)
  case app str sz bytes s x0 =>
    cases str
    · simp only [aopT, hx s (by simp [opdsOf]), hx x0 (by simp [opdsOf])]
    · rfl
  case buildSl sz parts =>
    have e1 : parts.map ρ = parts.map ρ' := List.map_congr_left fun y hy => hx y (by simpa [opdsOf] using hy)
    have e2 : parts.all (fun x => (cellsOf (ρ x)).length = sz ∧ shaped (ρ x)) = parts.all (fun x => (cellsOf (ρ' x)).length = sz ∧ shaped (ρ' x)) := by
      refine Bool.eq_iff_iff.2 ?_
      simp only [List.all_eq_true]
      exact ⟨fun h y hy => by rw [← hx y (by simpa [opdsOf] using hy)]; exact h y hy, fun h y hy => by rw [hx y (by simpa [opdsOf] using hy)]; exact h y hy⟩
    simp only [aopT, e1, e2]

theorem itrun_opT {ops : Array Oper} {i : Nat} {o : Oper} {it : AItem} {t : Tm} {h h' : H} {x : AV} {en : Ent} (ho : ops[i]? = some o) (hit : cItem P N ops o = some it) (hg : guardOf t it.guard = some true) (hx : aopT (ev t) h it.op = some (x, h', en)) :
    ∃ h1 h1', Touch h h1 h1' h' en ∧ ItRun P ops i o t h1 x h1' := by
  unfold cItem at hit
  split at hit
  · rename_i op g hop hgd
    split at hit <;> cases hit
    rename_i hcond
    simp only [Bool.and_eq_true] at hcond
    have hx' : aopT (ev (cutTo (names ops o) t)) h op = some (x, h', en) := by
      rw [aopT_congr (cut_ev hcond.2)]; exact hx
    obtain ⟨h1, h1', tc, loc⟩ := aopT_loc hop hx'
    refine ⟨h1, h1', tc, fun G w a ht R F K Q hK => ?_⟩
    obtain ⟨nx, v, w', G', e1, e2, T1, R1, V⟩ := loc G w a (cut_rel ht) R F
    unfold wpOp
    rw [ho]
    simp only [guard_wanted hgd ht hg, if_true]
    left
    unfold Oper.wp
    rw [e1]
    rcases e2 with rfl | ⟨rfl, rfl⟩
    · rw [Oper.upon_value]; exact hK G' w' v T1 R1 V
    · rw [Oper.upon_skip]; exact hK G' w' undef T1 R1 V
  · cases hit

/-- an operation that makes a tracked row -/
theorem WpItems.opT {dst : Option Nat} {g : Option (Nat × Bool)} {op : AOp} {its : List AItem} {t : Tm} {h h' : H} {log : List Ent} {en : Ent} {K : Tm → H → List Ent → Prop} {x : AV} (hg : guardOf t g = some true) (hx : aopT (ev t) h op = some (x, h', en)) (ht : touchy op = true)
    (rest : WpItems P N its (putT t dst x) h' (en :: log) K) : WpItems P N (⟨dst, g, op⟩ :: its) t h log K := by
  intro ops i hi hc
  obtain ⟨o, ho, hit, hi', hc'⟩ := items_cons hi hc
  obtain ⟨h1, h1', tc, run⟩ := itrun_opT ho hit hg hx
  obtain ⟨recs, t', hh', ch, hk, hen⟩ := rest ops (i + 1) hi' hc'
  have hdst : dst = o.dst := by
    unfold cItem at hit
    split at hit
    · split at hit <;> cases hit; rfl
    · cases hit
  refine ⟨⟨t, h, h1, h1', h', x, en⟩ :: recs, t', hh', .cons ho rfl rfl tc run (by rw [← hdst]; exact ch), by simpa using hk, ?_⟩
  intro k r it' hr hit' ht'
  cases k with
  | zero =>
    simp at hr hit'; subst hr hit'
    rw [ht] at ht'; cases ht'
  | succ k => simp at hr hit'; exact hen k r it' hr hit' ht'

/-- slices.Clone of some elements: a tracked row -/
theorem cloneT_gen {f : FuncId} {sz bytes : Nat} (hF : FnIs P f 8 (cloneC sz bytes) [.tmp 2]) (x : AV) (xs : List AV) (hsh : (x :: xs).all shaped = true) (hb : (xs.length + 1) * bytes ≤ 140737488355328) (hl : xs.length + 1 < 4611686018427387904) (n m : Nat) :
    ACalls P f [.sl sz (x :: xs) .any] (H0 n m) (.tsl sz n 0 (xs.length + 1) none) (.only (upd none' n (some (.cells ((x :: xs).flatMap cellsOf)))) [] (n + 1) m) := by
  obtain ⟨r, h', hc, rfl, rfl⟩ := hF.acalls (args := [.sl sz (x :: xs) .any]) (h := H0 n m) (Q := fun r h' => r = .tsl sz n 0 (xs.length + 1) none ∧ h' = .only (upd none' n (some (.cells ((x :: xs).flatMap cellsOf)))) [] (n + 1) m) (by simp) (by
    unfold cloneC
    refine Wp.seqReg (by simp only [go_sem, reduceIte, Nat.reduceEqDiff, Nat.reduceAdd, Bool.false_eq_true, Bool.true_beq, Bool.false_beq, Bool.not_true, Bool.not_false]; exact rfl) (by trivial) ?_
    refine Wp.seq ?_
    refine Wp.seqReg (by simp only [go_sem, reduceIte, Nat.reduceEqDiff, Nat.reduceAdd, Bool.false_eq_true, Bool.true_beq, Bool.false_beq, Bool.not_true, Bool.not_false]; exact rfl) (by trivial) ?_
    refine Wp.cond_false (by simp only [go_sem, reduceIte, Nat.reduceEqDiff, Nat.reduceAdd, Bool.false_eq_true, Bool.true_beq, Bool.false_beq, Bool.not_true, Bool.not_false]) ?_
    refine Wp.skip ?_
    refine Wp.seq (Wp.reg ?_)
    refine WpItems.part 2 (by simp only [go_sem, reduceIte, Nat.reduceEqDiff, Nat.reduceAdd, Bool.false_eq_true, Bool.true_beq, Bool.false_beq, Bool.not_true, Bool.not_false, Nat.zero_mul, Nat.zero_le, and_self, if_true]; exact rfl) ?_
    simp only [List.drop_succ_cons, List.drop_zero, List.drop_nil]
    refine WpItems.opT (by simp only [go_sem, reduceIte, Nat.reduceEqDiff, Nat.reduceAdd, Bool.false_eq_true, Bool.true_beq, Bool.false_beq, Bool.not_true, Bool.not_false]) (by simp only [aopT, go_sem, reduceIte, Nat.reduceEqDiff, Nat.reduceAdd, Bool.false_eq_true, Bool.true_beq, Bool.false_beq, Bool.not_true, Bool.not_false, hsh, hb, hl, List.length_cons, and_self, if_true, Nat.zero_lt_succ]; exact rfl) rfl ?_
    refine WpItems.eval (by simp only [go_sem, reduceIte, Nat.reduceEqDiff, Nat.reduceAdd, Bool.false_eq_true, Bool.true_beq, Bool.false_beq, Bool.not_true, Bool.not_false]; exact rfl) ?_
    refine WpItems.nil ⟨by trivial, ?_⟩
    refine Wp.ret ⟨trivial, _, rfl, rfl, ?_⟩
    rfl)
  exact hc

/-- the same without one object -/
def H.less (h : H) (id : Nat) : H := { h with objs := fun j => if j = id then none else h.objs j }

/-- a tracked row is used up: what stands behind the call is a plain row, in its own block or in a new one -/
theorem row_end {G : Ghost} {h : H} {w w' : World} {id B off C : Nat} {cs xs : List AV} {vs : List Value} (R : RepH G h w) (ho : h.objs id = some (.cells cs)) (ht : h.toks = []) (hs : w.heap.size ≤ w'.heap.size) (hos : w'.os = w.os) (hou : w'.output = w.output)
    (hk : ∀ b, b < w.heap.size → b ≠ G.ι id → w'.heap[b]? = w.heap[b]?) (hf : SameForm w.heap[G.ι id]? w'.heap[G.ι id]?) (hB : B = G.ι id ∨ w.heap.size ≤ B) (hC : xs.length ≤ C) (hl : vs.length = xs.length) (hE : ∀ G w, VElems G w 1 xs vs)
    (h1 : ∀ v ∈ vs, One v) (hc : ∀ (j : Nat) v, vs[j]? = some v → w'.cell? ⟨B, off + j, none⟩ = some v) :
    ∃ G', Trans G w h G' w' (h.less id) ∧ RepH G' (h.less id) w' ∧ VRel G' w' (.sl 1 xs .any) (.slice (some ⟨B, off, none⟩) xs.length C) := by
  let G' : Ghost := { G with own := fun b => G.own b ∧ b ≠ G.ι id ∧ b < w.heap.size, lim := fun b => if b = G.ι id ∨ w.heap.size ≤ b then none else G.lim b }
  have hO : ∀ b, ¬ h.O G b → b ≠ G.ι id := fun b hh e => hh ⟨id, _, ho, e.symm⟩
  have hd : ∀ {j o}, (h.less id).objs j = some o → h.objs j = some o ∧ j ≠ id := by
    intro j o a
    simp only [H.less] at a
    split at a
    · cases a
    · exact ⟨a, ‹_›⟩
  have T : Trans G w h G' w' (h.less id) := by
    constructor
    · exact fun _ x => x
    · exact fun _ => .inl
    · exact fun _ _ => rfl
    · exact fun _ x => x
    · exact fun _ => .inl
    · exact fun _ _ => rfl
    · exact Nat.le_refl _
    · exact Nat.le_refl _
    · exact hs
    · exact hos
    · exact hou
    · intro b hb
      by_cases e : b = G.ι id
      · subst e; exact hf
      · rw [hk b hb e]; exact SameForm.refl _
    · exact fun b hb h _ => hk b hb (hO b h)
    · intro b hb h
      simp only [G', hb, hO b h, and_true, ne_eq, not_false_eq_true]
    · intro b hb h _
      simp only [G']
      rw [if_neg]
      rintro (e | e)
      · exact hO b h e
      · omega
    · rintro b hb ⟨t, htt, _⟩
      simp [ht] at htt
    · rintro b _ ⟨j, o, a, e⟩
      exact ⟨j, o, (hd a).1, e⟩
    · rintro b _ ⟨t, htt, _⟩
      simp [H.less, ht] at htt
    · exact fun j o x => .inl ⟨o, (hd x).1⟩
    · exact fun t x => by simp [H.less, ht] at x
  refine ⟨G', T, ?_, ?_⟩
  · constructor
    · intro j o a
      obtain ⟨a, q⟩ := hd a
      obtain ⟨r1, r2, r3, r4⟩ := R.obj j o a
      have hne : G.ι j ≠ G.ι id := fun e => q (R.inj _ _ _ _ a ho e)
      refine ⟨r1, ⟨r2, hne, r3⟩, Nat.lt_of_lt_of_le r3 hs, ?_⟩
      show ORel G' w' o w'.heap[G.ι j]?
      rw [hk _ r3 hne]
      cases o with
      | cells cs =>
        obtain ⟨vs, rest, T', fr, y1, y2, y3⟩ := r4
        exact ⟨vs, rest, T', fr, y1, VRels.mono R T _ _ y2, y3⟩
      | map es =>
        obtain ⟨en, clock, y1, y2⟩ := r4
        exact ⟨en, clock, y1, Entries.mono R T _ _ y2⟩
    · exact fun i j o o' a b e => R.inj _ _ _ _ (hd a).1 (hd b).1 e
    · exact fun t x => by simp [H.less, ht] at x
    · exact fun t x => by simp [H.less, ht] at x
  · unfold VRel
    refine .inr ⟨B, off, C, vs, rfl, hC, by omega, hE _ _, fun i v hv => ⟨hc i v hv, h1 v (List.mem_of_getElem? hv), ?_, ?_⟩, trivial⟩
    · rintro ⟨-, a, b⟩
      rcases hB with e | e
      · exact a e
      · omega
    · intro e he
      simp only [G', hB, if_true] at he
      cases he

theorem touch_drop (h : H) {id : Nat} {ob : Obj} (ho : h.objs id = some ob) : Touch h (.only (upd none' id (some ob)) [] h.n h.m) (H0 h.n h.m) { h with objs := fun j => if j = id then none else h.objs j } ⟨[], [id], []⟩ where
  sub := (touch_read h ho).sub
  n := rfl
  m := rfl
  eq := H.ext (fun j => by
    simp only [H.patch, H0, H.only, upd, none']
    by_cases e : j = id
    · subst e; simp
    · simp [e]; omega) rfl (by simp [H.patch, H0, H.only, filter_tt]) rfl
  rd j x := by
    simp only [H.only, upd, none'] at x
    split at x
    · rename_i e; subst e; simp
    · cases x
  wr id a b := by simp only [H0, H.only] at a b; omega
  chg j x hj := by
    simp only [H.only, upd, none'] at x
    split at x
    · rename_i e; subst e; simp at hj
    · cases x
  tk t x := by simp [H.only] at x
  tn t x := by simp [H0, H.only] at x
  le := Nat.le_refl _
  lem := Nat.le_refl _

/-- slices.Clone of no elements: a row without room -/
theorem cloneE_gen {f : FuncId} {sz bytes : Nat} (hF : FnIs P f 8 (cloneC sz bytes) [.tmp 2]) : PCalls P f [.sl sz [] .any] (.sl sz [] (.exact 0)) := by
  intro n m
  refine ACalls.split_empty fun a C hC => ?_
  have : PCalls P f [.sc (.slice a 0 C)] (.sl sz [] (.exact 0)) := by
    refine hF.pcalls (by simp) (allPure_ok _ rfl) (isPure_ok _ rfl) fun n m => ?_
    unfold cloneC
    refine Wp.seqReg (by simp only [go_sem, reduceIte, Nat.reduceEqDiff, Nat.reduceAdd, Bool.false_eq_true, Bool.true_beq, Bool.false_beq, Bool.not_true, Bool.not_false]; exact rfl) (by trivial) ?_
    refine Wp.seq ?_
    refine Wp.seqReg (by simp only [go_sem, reduceIte, Nat.reduceEqDiff, Nat.reduceAdd, Bool.false_eq_true, Bool.true_beq, Bool.false_beq, Bool.not_true, Bool.not_false]; exact rfl) (by trivial) ?_
    cases ha : a.isNone with
    | true =>
      refine Wp.cond_true (by simp only [go_sem, reduceIte, Nat.reduceEqDiff, Nat.reduceAdd, Bool.false_eq_true, Bool.true_beq, Bool.false_beq, Bool.not_true, Bool.not_false, ha]) ?_
      refine Wp.seqReg (by simp only [go_sem, reduceIte, Nat.reduceEqDiff, Nat.reduceAdd, Bool.false_eq_true, Bool.true_beq, Bool.false_beq, Bool.not_true, Bool.not_false]; exact rfl) (by trivial) ?_
      refine Wp.ret ⟨trivial, _, rfl, ?_⟩
      simp only [go_sem, reduceIte, Nat.reduceEqDiff, Nat.reduceAdd, Bool.false_eq_true, Bool.true_beq, Bool.false_beq, Bool.not_true, Bool.not_false]
      exact VSub.refl _
    | false =>
      refine Wp.cond_false (by simp only [go_sem, reduceIte, Nat.reduceEqDiff, Nat.reduceAdd, Bool.false_eq_true, Bool.true_beq, Bool.false_beq, Bool.not_true, Bool.not_false, ha]) ?_
      refine Wp.skip ?_
      refine Wp.le (s' := ⟨tm [(0, .sl sz [] .any)], _⟩) (StLe.tm ⟨VSub.sc_empty hC, trivial⟩) ?_
      refine Wp.seq (Wp.reg ?_)
      refine WpItems.part 2 (by simp only [go_sem, reduceIte, Nat.reduceEqDiff, Nat.reduceAdd, Bool.false_eq_true, Bool.true_beq, Bool.false_beq, Bool.not_true, Bool.not_false, Nat.zero_mul, Nat.zero_le, and_self, if_true]; exact rfl) ?_
      simp only [List.drop_succ_cons, List.drop_zero, List.drop_nil]
      refine WpItems.opT (by simp only [go_sem, reduceIte, Nat.reduceEqDiff, Nat.reduceAdd, Bool.false_eq_true, Bool.true_beq, Bool.false_beq, Bool.not_true, Bool.not_false]) (by simp only [aopT, go_sem, reduceIte, Nat.reduceEqDiff, Nat.reduceAdd, Bool.false_eq_true, Bool.true_beq, Bool.false_beq, Bool.not_true, Bool.not_false]; exact rfl) rfl ?_
      refine WpItems.eval (by simp only [go_sem, reduceIte, Nat.reduceEqDiff, Nat.reduceAdd, Bool.false_eq_true, Bool.true_beq, Bool.false_beq, Bool.not_true, Bool.not_false]; exact rfl) ?_
      refine WpItems.nil ⟨by trivial, ?_⟩
      refine Wp.ret ⟨trivial, _, rfl, ?_⟩
      simp only [go_sem, reduceIte, Nat.reduceEqDiff, Nat.reduceAdd, Bool.false_eq_true, Bool.true_beq, Bool.false_beq, Bool.not_true, Bool.not_false]
      exact VSub.refl _
  exact this n m

/-! ## A region that draws no order: no need of the operations' footprints -/

def WpItemsN (P : Program) (N : Nat) (items : List AItem) (t : Tm) (h : H) (K : Tm → H → Prop) : Prop :=
  ∀ ops i, i ≤ ops.size → cItems P N ops (ops.toList.drop i) = some items → ∃ recs t' h', Chain P ops i recs t h t' h' ∧ K t' h'

theorem WpItems.toN {items : List AItem} {t : Tm} {h : H} {log : List Ent} {K : Tm → H → Prop} (hw : WpItems P N items t h log fun t h _ => K t h) : WpItemsN P N items t h K := by
  intro ops i hi hc
  obtain ⟨recs, t', h', ch, hk, -⟩ := hw ops i hi hc
  exact ⟨recs, t', h', ch, hk⟩

theorem WpItemsN.step {it : AItem} {its : List AItem} {t : Tm} {h h' : H} {x : AV} {en : Ent} {K : Tm → H → Prop}
    (run : ∀ (ops : Array Oper) i o, ops[i]? = some o → cItem P N ops o = some it → ∃ h1 h1', Touch h h1 h1' h' en ∧ ItRun P ops i o t h1 x h1') (rest : WpItemsN P N its (putT t it.dst x) h' K) : WpItemsN P N (it :: its) t h K := by
  intro ops i hi hc
  obtain ⟨o, ho, hit, hi', hc'⟩ := items_cons hi hc
  obtain ⟨h1, h1', tc, run⟩ := run ops i o ho hit
  obtain ⟨recs, t', hh', ch, hk⟩ := rest ops (i + 1) hi' hc'
  have hdst : it.dst = o.dst := by
    unfold cItem at hit
    split at hit
    · split at hit <;> cases hit; rfl
    · cases hit
  exact ⟨⟨t, h, h1, h1', h', x, en⟩ :: recs, t', hh', .cons ho rfl rfl tc run (by rw [← hdst]; exact ch), hk⟩

theorem WpItemsN.op {dst : Option Nat} {g : Option (Nat × Bool)} {op : AOp} {its : List AItem} {t : Tm} {h h' : H} {en : Ent} {K : Tm → H → Prop} {x : AV} (hg : guardOf t g = some true) (hx : aop (ev t) h op = some (x, h', en))
    (rest : WpItemsN P N its (putT t dst x) h' K) : WpItemsN P N (⟨dst, g, op⟩ :: its) t h K :=
  WpItemsN.step (fun ops i o ho hit => itrun_op ho hit hg hx) rest

theorem WpItemsN.opT {dst : Option Nat} {g : Option (Nat × Bool)} {op : AOp} {its : List AItem} {t : Tm} {h h' : H} {en : Ent} {K : Tm → H → Prop} {x : AV} (hg : guardOf t g = some true) (hx : aopT (ev t) h op = some (x, h', en))
    (rest : WpItemsN P N its (putT t dst x) h' K) : WpItemsN P N (⟨dst, g, op⟩ :: its) t h K :=
  WpItemsN.step (fun ops i o ho hit => itrun_opT ho hit hg hx) rest

theorem WpItemsN.acall {dst : Option Nat} {g : Option (Nat × Bool)} {f : FuncId} {l : List Opd} {its : List AItem} {t : Tm} {h h' h1 h1' : H} {en : Ent} {K : Tm → H → Prop} {vals : List AV} {r : AV} (hg : guardOf t g = some true) (hs : VSubs (l.map (ev t)) vals) (hc : ACalls P f vals h1 r h1')
    (tc : Touch h h1 h1' h' en) (rest : WpItemsN P N its (putT t dst r) h' K) : WpItemsN P N (⟨dst, g, .call f l⟩ :: its) t h K :=
  WpItemsN.step (fun ops i o ho hit => ⟨h1, h1', tc, itrun_call ho hit hg rfl hs hc⟩) rest

theorem WpItemsN.pcall {dst : Option Nat} {g : Option (Nat × Bool)} {f : FuncId} {l : List Opd} {its : List AItem} {t : Tm} {h : H} {K : Tm → H → Prop} {vals : List AV} {r : AV} (hg : guardOf t g = some true) (hs : VSubs (l.map (ev t)) vals) (hc : PCalls P f vals r)
    (rest : WpItemsN P N its (putT t dst r) h K) : WpItemsN P N (⟨dst, g, .call f l⟩ :: its) t h K :=
  WpItemsN.acall hg hs (hc h.n h.m) (touch_none h) rest

theorem Wp.regN {items : List AItem} {s : St} {Q : AExit → St → Prop} (h : WpItemsN P N items s.t s.h fun t' h' => Q .normal ⟨t', h'⟩) : Wp P N (.reg items none) s Q := by
  intro code hc
  obtain ⟨id, ops, draw, rfl, hi, hd⟩ := code_reg hc
  obtain ⟨recs, t', h', ch, hq⟩ := h ops 0 (Nat.zero_le _) (by simpa using hi)
  obtain ⟨nm, -, -⟩ := chain_nm ch
  obtain ⟨cl, ci⟩ := cItems_len hi
  have hN : ∀ (i : Nat) o d, ops[i]? = some o → o.dst = some d → d < N := by
    intro i o d ho hdd
    have hlt : i < ops.size := (Array.getElem?_eq_some_iff.1 ho).1
    have hit : i < items.length := by rw [cl]; simpa using hlt
    have := ci i o items[i] (by simpa using ho) (List.getElem?_eq_getElem hit)
    generalize items[i] = it at this
    unfold cItem at this
    split at this
    · split at this <;> cases this
      rename_i hcond
      simp only [Bool.and_eq_true] at hcond
      have := hcond.1
      rw [hdd] at this
      simpa using this
    · cases this
  refine ⟨.normal, ⟨t', h'⟩, ⟨nm, fun G w a r F => ?_⟩, hq⟩
  rcases hd with ⟨rfl, -⟩ | ⟨-, -, -, hn⟩
  · refine wp_region ?_
    rw [List.range_eq_range']
    have := chain_seq (Q := fun e' a' w' => AExit.normal.says e' ∧ a'.defers = a.defers ∧ ∃ G', Trans G w s.h G' w' h' ∧ Rel N ⟨t', h'⟩ G' w' a') hN ch G w a r.size r.t r.h F
      (fun G' w' a' T1 t1 R1 s1 d1 => ⟨trivial, d1, G', T1, ⟨s1, t1, R1⟩⟩)
    simpa using this
  · cases hn
end
end Go.Av
