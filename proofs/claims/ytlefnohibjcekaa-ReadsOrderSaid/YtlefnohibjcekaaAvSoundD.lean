/- Every operation: what 'aop' says of it, it does, over just the objects and tokens that it touches. -/
import Derived.Test.YtlefnohibjcekaaAvSoundC
import Derived.Laws.IdiomStrings
import Derived.Laws.AppendOwn
set_option linter.unusedVariables false
set_option linter.unusedSimpArgs false
namespace Go.Av
section
variable {P : Program}

/-- what an operation does over a heap of its own -/
def Local (P : Program) (o : Oper) (t : Tm) (h1 : H) (x : AV) (h1' : H) : Prop :=
  ∀ G w a, TRel G w t a → RepH G h1 w → Fresh G h1 h1' → ∃ nx v w' G', (execOp a.eval o).run P w = .ok nx w' ∧ (nx = .value v ∨ nx = .skip ∧ v = undef) ∧ Trans G w h1 G' w' h1' ∧ RepH G' h1' w' ∧ VRel G' w' x v

/-- the part of a heap that is touched, and what becomes of it -/
structure Touch (h h1 h1' : H) (h' : H) (en : Ent) : Prop where
  sub : h1.sub h
  n : h1.n = h.n
  m : h1.m = h.m
  eq : h' = h.patch h1 h1'
  rd : ∀ id, (h1.objs id).isSome → id ∈ en.rd ∨ id ∈ en.wr
  wr : ∀ id, h1.n ≤ id → id < h1'.n → id ∈ en.wr
  chg : ∀ id, (h1.objs id).isSome → id ∉ en.wr → h1'.objs id = h1.objs id
  tk : ∀ t, t ∈ h1.toks → t ∈ en.tk
  tn : ∀ t, t ∈ h1'.toks → t ∈ en.tk
  le : h1.n ≤ h1'.n
  lem : h1.m ≤ h1'.m

def Loc (P : Program) (o : Oper) (t : Tm) (h : H) (x : AV) (h' : H) (en : Ent) : Prop :=
  ∃ h1 h1', Touch h h1 h1' h' en ∧ Local P o t h1 x h1'

theorem H.ext {h h' : H} (a : ∀ j, h.objs j = h'.objs j) (b : h.n = h'.n) (c : h.toks = h'.toks) (d : h.m = h'.m) : h = h' := by
  cases h; cases h'; simp_all; exact funext a

theorem filter_tt {l : List Nat} : l.filter (fun _ => true) = l := by
  induction l with
  | nil => rfl
  | cons a l ih => simp [ih]

theorem filter_true {l : List Nat} {p : Nat → Bool} (h : ∀ x, p x = true) : l.filter p = l := by
  induction l with
  | nil => rfl
  | cons a l ih => simp [h a, ih]

theorem touch_none (h : H) : Touch h (.only none' [] h.n h.m) (.only none' [] h.n h.m) h ent0 where
  sub := ⟨fun j o x => by simp [H.only, none'] at x, fun t x => by simp [H.only] at x⟩
  n := rfl
  m := rfl
  eq := H.ext (fun j => by simp [H.patch, H.only, none']; omega) rfl (by simp [H.patch, H.only, filter_tt]) rfl
  rd id x := by simp [H.only, none'] at x
  wr id a b := by simp only [H.only] at a b; omega
  chg id x := by simp [H.only, none'] at x
  tk t x := by simp [H.only] at x
  tn t x := by simp [H.only] at x
  le := Nat.le_refl _
  lem := Nat.le_refl _

variable {t : Tm} {o : Oper} {h h' : H} {x : AV} {en : Ent}

theorem Loc.plain (hp : ∀ G w a, TRel G w t a → Plain P G w a o x) : Loc P o t h x h ent0 :=
  ⟨_, _, touch_none h, fun G w a ht _ _ => by
    obtain ⟨v, h1, h2⟩ := hp G w a ht
    exact ⟨_, v, w, G, h1, .inl rfl, Trans.refl _ _ _, only_rep, h2⟩⟩

theorem touch_read (h : H) {id : Nat} {ob : Obj} (ho : h.objs id = some ob) : Touch h (.only (upd none' id (some ob)) [] h.n h.m) (.only (upd none' id (some ob)) [] h.n h.m) h ⟨[id], [], []⟩ where
  sub := ⟨(fun j o x => by
    simp only [H.only, upd, none'] at x
    split at x
    · rename_i e; subst e; rw [ho]; exact x
    · cases x), fun t x => by simp [H.only] at x⟩
  n := rfl
  m := rfl
  eq := H.ext (fun j => by
    simp only [H.patch, H.only, upd, none']
    by_cases e : j = id
    · subst e; simp [ho]
    · simp [e]; omega) rfl (by simp [H.patch, H.only, filter_tt]) rfl
  rd j x := by
    simp only [H.only, upd, none'] at x
    split at x
    · rename_i e; subst e; simp
    · cases x
  wr id a b := by simp only [H.only] at a b; omega
  chg _ _ _ := rfl
  tk t x := by simp [H.only] at x
  tn t x := by simp [H.only] at x
  le := Nat.le_refl _
  lem := Nat.le_refl _

theorem touch_write (h : H) {id : Nat} {ob ob' : Obj} (ho : h.objs id = some ob) : Touch h (.only (upd none' id (some ob)) [] h.n h.m) (.only (upd none' id (some ob')) [] h.n h.m) { h with objs := upd h.objs id (some ob') } ⟨[], [id], []⟩ where
  sub := (touch_read h ho).sub
  n := rfl
  m := rfl
  eq := H.ext (fun j => by
    simp only [H.patch, H.only, upd, none']
    by_cases e : j = id
    · subst e; simp
    · simp [e]; omega) rfl (by simp [H.patch, H.only, filter_tt]) rfl
  rd j x := by
    simp only [H.only, upd, none'] at x
    split at x
    · rename_i e; subst e; simp
    · cases x
  wr id a b := by simp only [H.only] at a b; omega
  chg j x hj := by
    simp only [H.only, upd, none'] at x
    split at x
    · rename_i e; subst e; simp at hj
    · cases x
  tk t x := by simp [H.only] at x
  tn t x := by simp [H.only] at x
  le := Nat.le_refl _
  lem := Nat.le_refl _

theorem touch_new (h : H) (ob : Obj) : Touch h (.only none' [] h.n h.m) (.only (upd none' h.n (some ob)) [] (h.n + 1) h.m) { h with objs := upd h.objs h.n (some ob), n := h.n + 1 } ⟨[], [h.n], []⟩ where
  sub := (touch_none h).sub
  n := rfl
  m := rfl
  eq := H.ext (fun j => by
    simp only [H.patch, H.only, upd, none']
    by_cases e : j = h.n
    · subst e; simp
    · simp [e]; intro a b; omega) rfl (by simp [H.patch, H.only, filter_tt]) rfl
  rd j x := by simp [H.only, none'] at x
  wr id a b := by simp only [H.only] at a b; simp; omega
  chg j x hj := by simp [H.only, none'] at x
  tk t x := by simp [H.only] at x
  tn t x := by simp [H.only] at x
  le := by simp [H.only]
  lem := Nat.le_refl _

theorem touch_tok (h : H) : Touch h (.only none' [] h.n h.m) (.only none' [h.m] h.n (h.m + 1)) { h with toks := h.m :: h.toks, m := h.m + 1 } ⟨[], [], [h.m]⟩ where
  sub := (touch_none h).sub
  n := rfl
  m := rfl
  eq := H.ext (fun j => by simp [H.patch, H.only, none']; omega) rfl (by simp [H.patch, H.only, filter_tt]) rfl
  rd j x := by simp [H.only, none'] at x
  wr id a b := by simp only [H.only] at a b; omega
  chg j x hj := by simp [H.only, none'] at x
  tk t x := by simp [H.only] at x
  tn t x := by simpa [H.only] using x
  le := Nat.le_refl _
  lem := by simp [H.only]

theorem touch_retok (h : H) {tk : Nat} (htk : tk ∈ h.toks) : Touch h (.only none' [tk] h.n h.m) (.only none' [h.m] h.n (h.m + 1)) { h with toks := h.m :: h.toks.filter (· ≠ tk), m := h.m + 1 } ⟨[], [], [tk, h.m]⟩ where
  sub := ⟨fun j o x => by simp [H.only, none'] at x, fun t x => by simp only [H.only, List.mem_singleton] at x; subst x; exact htk⟩
  n := rfl
  m := rfl
  eq := H.ext (fun j => by simp [H.patch, H.only, none']; omega) rfl (by
    simp only [H.patch, H.only, List.singleton_append, List.cons.injEq, true_and]
    apply List.filter_congr
    intro y _
    simp) rfl
  rd j x := by simp [H.only, none'] at x
  wr id a b := by simp only [H.only] at a b; omega
  chg j x hj := by simp [H.only, none'] at x
  tk t x := by simp only [H.only, List.mem_singleton] at x; subst x; simp
  tn t x := by simp only [H.only, List.mem_singleton] at x; subst x; simp
  le := Nat.le_refl _
  lem := by simp [H.only]

theorem fresh_n {G : Ghost} {h1 h1' : H} (F : Fresh G h1 h1') (hlt : h1.n < h1'.n) : ¬ G.dom h1.n := F.1 _ (Nat.le_refl _) hlt
theorem fresh_m {G : Ghost} {h1 h1' : H} (F : Fresh G h1 h1') (hlt : h1.m < h1'.m) : ¬ G.tdom h1.m := F.2 _ (Nat.le_refl _) hlt

theorem cells_one {G : Ghost} {w : World} : ∀ {cs : List AV} {vs : List Value}, VRels G w cs vs → cs.all isCell = true → ∀ v ∈ vs, One v
  | [], vs, h, _ => by simp only [VRels] at h; subst h; simp
  | c :: cs, vs, h, ha => by
    simp only [VRels] at h
    obtain ⟨v, us, rfl, h1, h2⟩ := h
    simp only [List.all_cons, Bool.and_eq_true] at ha
    intro u hu
    rcases List.mem_cons.1 hu with rfl | hu
    · exact isCell_one h1 ha.1
    · exact cells_one h2 ha.2 u hu

theorem pushed_alloc (w : World) (o : Go.Obj) : Pushed w { w with heap := w.heap.push o } o := ⟨rfl, rfl, rfl⟩

theorem box_loc {e : TypeId} {z : Operand} {y : Opd} {cs : List AV} (hop : o.op = .box e z) (hy : opd P e z = some y) (hc : (ev t y = .agg cs) ∨ (isCell (ev t y) = true ∧ cs = [ev t y])) (hall : cs.all isCell = true) :
    Loc P o t h (.ptr h.n 0) { h with objs := upd h.objs h.n (some (.cells cs)), n := h.n + 1 } ⟨[], [h.n], []⟩ := by
  refine ⟨_, _, touch_new h _, fun G w a ht R F => ?_⟩
  have r := opd_rel hy ht
  have rc : VRels G w cs (a.eval z).cells.toList := by
    rcases hc with hc | ⟨hc, rfl⟩
    · have := cells_of r (.inr ⟨cs, hc⟩)
      rwa [hc] at this
    · have := cells_of r (.inl hc)
      have e : cellsOf (ev t y) = [ev t y] := by
        revert hc
        generalize ev t y = X
        intro hc
        cases X <;> simp [isCell] at hc <;> rfl
      rwa [e] at this
  obtain ⟨G', T1, R1, V⟩ := new_obj (m := h.m) (pushed_alloc w (.cells (a.eval z).cells.toList.toArray e (0, 0))) rc (cells_one rc hall) (fresh_n F (by simp [H.only]))
  refine ⟨.value (.pointer (some ⟨w.heap.size, 0, none⟩)), _, _, G', ?_, .inl rfl, T1, R1, V⟩
  simp [execOp, hop, Instr.box, newVar, newRow]

theorem alloc_loc {e : TypeId} {z : Value} {b : AV} (hop : o.op = .alloc e) (hz : (P.info? e).bind (·.zero) = some z) (hb : constAV P e z = some b) (hall : (cellsOf b).all isCell = true) :
    Loc P o t h (.ptr h.n 0) { h with objs := upd h.objs h.n (some (.cells (cellsOf b))), n := h.n + 1 } ⟨[], [h.n], []⟩ := by
  refine ⟨_, _, touch_new h _, fun G w a ht R F => ?_⟩
  have r : VRel G w b z := const_rel hb
  have rc : VRels G w (cellsOf b) z.cells.toList := by
    by_cases hc : ∃ cs, b = .agg cs
    · exact cells_of r (.inr hc)
    · have e : cellsOf b = [b] := by cases b <;> first | rfl | exact absurd ⟨_, rfl⟩ hc
      rw [e] at hall
      exact cells_of r (.inl (by simpa using hall))
  obtain ⟨G', T1, R1, V⟩ := new_obj (m := h.m) (pushed_alloc w (.cells z.cells.toList.toArray e (0, 0))) rc (cells_one rc hall) (fresh_n F (by simp [H.only]))
  refine ⟨.value (.pointer (some ⟨w.heap.size, 0, none⟩)), _, _, G', ?_, .inl rfl, T1, R1, V⟩
  obtain ⟨i, hi, hzi⟩ := Option.bind_eq_some_iff.1 hz
  simp [execOp, hop, Instr.alloc, newVar, newRow, zeroValue, typeInfo, hi, hzi]

theorem store_loc {ty : TypeId} {z1 z2 : Operand} {y1 y2 : Opd} {id off : Nat} {cs : List AV} (hop : o.op = .store ty z1 z2) (h1 : (P.info? ty).isSome = true) (hpos : 0 < P.cellsOf ty) (hy1 : opd P 0 z1 = some y1) (hy2 : opd P ty z2 = some y2)
    (hp : ev t y1 = .ptr id off) (ho : h.objs id = some (.cells cs)) (hl : (cellsOf (ev t y2)).length = P.cellsOf ty) (hle : off + P.cellsOf ty ≤ cs.length) (hall : (cellsOf (ev t y2)).all isCell = true) :
    Loc P o t h .any { h with objs := upd h.objs id (some (.cells (setAt cs off (cellsOf (ev t y2))))) } ⟨[], [id], []⟩ := by
  refine ⟨_, _, touch_write h ho, fun G w a ht R F => ?_⟩
  have r1 := opd_rel hy1 ht
  have r2 := opd_rel hy2 ht
  rw [hp] at r1
  simp only [VRel] at r1
  have rc : VRels G w (cellsOf (ev t y2)) (a.eval z2).cells.toList := by
    by_cases hc : ∃ cs, ev t y2 = .agg cs
    · exact cells_of r2 (.inr hc)
    · have e : cellsOf (ev t y2) = [ev t y2] := by
        revert hc
        generalize ev t y2 = X
        intro hc
        cases X <;> first | rfl | exact absurd ⟨_, rfl⟩ hc
      rw [e] at hall
      exact cells_of r2 (.inl (by simpa using hall))
  obtain ⟨w', s1, T1, R1⟩ := store_obj (P := P) R rc (cells_one rc hall) (by rw [hl]; exact hle)
  refine ⟨.skip, undef, w', G, ?_, .inr ⟨rfl, rfl⟩, T1, R1, by simp [VRel]⟩
  have hsz : (a.eval z2).cells.size = P.cellsOf ty := by have := rc.length; simpa [hl] using this
  simp [execOp, hop, Instr.storeAt, r1.2, Instr.sureAddr, storeVar, run_size P w ty h1, hsz, s1]

theorem load_loc {ty : TypeId} {z : Operand} {y : Opd} {id off : Nat} {cs : List AV} (hop : o.op = .load ty z) (h1 : (P.info? ty).isSome = true) (h2 : (P.underlying ty).isSome = true) (hy : opd P 0 z = some y)
    (hp : ev t y = .ptr id off) (ho : h.objs id = some (.cells cs)) (hx : part off (if isAggT P ty then some (P.cellsOf ty) else none) cs = some x) :
    Loc P o t h x h ⟨[id], [], []⟩ := by
  refine ⟨_, _, touch_read h ho, fun G w a ht R F => ?_⟩
  have r1 := opd_rel hy ht
  rw [hp] at r1
  simp only [VRel] at r1
  obtain ⟨vs, rest, T, fr, hg, hvs, -⟩ := obj_cells R (id := id) (cs := cs) (by simp [H.only, upd])
  have hc : ∀ j v, vs[j]? = some v → w.cell? ⟨G.ι id, j, none⟩ = some v := by
    intro j v hj
    have hj' : j < vs.length := (List.getElem?_eq_some_iff.1 hj).1
    unfold World.cell?; simp only [hg]; simpa [List.getElem?_append_left hj'] using hj
  have hx' : part 0 (if isAggT P ty then some (P.cellsOf ty) else none) (cs.drop off) = some x := by
    unfold part at hx ⊢
    split at hx
    · simpa using hx
    · split at hx
      · cases hx
        rw [if_pos (by simp; omega)]
        simp
      · cases hx
  obtain ⟨v, e1, e2⟩ := load_plain hop h1 h2 hy ht r1.2 (hvs.drop off) (fun j v hj => hc _ v (by simpa [List.getElem?_drop] using hj)) hx'
  exact ⟨_, v, w, G, e1, .inl rfl, Trans.refl _ _ _, R, e2⟩

theorem app_loc {c : Call} {zs zx : Operand} {ys yx : Opd} {T U e : TypeId} {d : TypeDesc} {i : TypeInfo} {s : Nat} {xs els : List AV} {cp : Cap} {h' : H} (hop : o.op = .call c) (hc : c.callee = .builtin .append) (ha : c.args.toList = [zs, zx]) (hta : c.argTypes.toList = [T, U])
    (hT : P.underlying T = some (.slice e)) (hU : P.underlying U = some d) (hd : (∃ e', d = .slice e') ∨ d = .string) (hi : P.info? e = some i) (hz : i.zero.any (fun z => z.cells.size == i.size) = true) (hsz : 0 < i.size)
    (hys : opd P T zs = some ys) (hyx : opd P U zx = some yx) (hs : ev t ys = .sl s xs cp) (hx : (∃ s' c', ev t yx = .sl s' els c' ∧ (s' = i.size ∨ els = [])) ∨ ∃ l, ev t yx = .str l ∧ els = bytesAV l ∧ i.size = 1)
    (hb : (xs.length + els.length) * i.bytes ≤ 140737488355328) (hlen : xs.length + els.length < 4611686018427387904)
    (hcap : ((∃ k, cp = .exact k ∧ k = xs.length) ∧ (s = i.size ∨ xs = []) ∧ h' = { h with toks := h.m :: h.toks, m := h.m + 1 } ∧ en = ⟨[], [], [h.m]⟩) ∨
      ∃ tk, cp = .own tk ∧ s = i.size ∧ tk ∈ h.toks ∧ h' = { h with toks := h.m :: h.toks.filter (· ≠ tk), m := h.m + 1 } ∧ en = ⟨[], [], [tk, h.m]⟩) :
    Loc P o t h (.sl i.size (xs ++ els) (.own h.m)) h' en := by
  have ha' : c.args = #[zs, zx] := by rw [← Array.toArray_toList (xs := c.args), ha]
  have hta' : c.argTypes = #[T, U] := by rw [← Array.toArray_toList (xs := c.argTypes), hta]
  obtain ⟨z, hz1, hz2⟩ : ∃ z, i.zero = some z ∧ z.cells.size = i.size := by
    cases hzz : i.zero with
    | none => rw [hzz] at hz; simp at hz
    | some z => rw [hzz] at hz; exact ⟨z, rfl, by simpa using hz⟩
  have key : ∀ (toks : List Nat) G w a, TRel G w t a → RepH G (.only none' toks h.n h.m) w → ¬ G.tdom h.m → (s = i.size ∨ xs = []) → ((cp = .exact xs.length ∧ toks = []) ∨ ∃ tk, cp = .own tk ∧ toks = [tk] ∧ s = i.size) →
      ∃ nx v w' G', (execOp a.eval o).run P w = .ok nx w' ∧ (nx = .value v ∨ nx = .skip ∧ v = undef) ∧ Trans G w (.only none' toks h.n h.m) G' w' (.only none' [h.m] h.n (h.m + 1)) ∧ RepH G' (.only none' [h.m] h.n (h.m + 1)) w' ∧ VRel G' w' (.sl i.size (xs ++ els) (.own h.m)) v := by
    intro toks G w a ht R hm hsx hcc
    have r1 := opd_rel hys ht
    have r2 := opd_rel hyx ht
    rw [hs] at r1
    have hsrc : ∃ news, Src P w i.size (a.eval zx) els.length news ∧ VElems G w i.size els news ∧ (∀ u ∈ news, One u) := by
      rcases hx with ⟨s', c', hx, hs'⟩ | ⟨l, hx, rfl, h1⟩
      · rw [hx] at r2
        exact src_slice hs' r2
      · rw [hx] at r2
        simp only [VRel] at r2
        rw [r2, h1]
        exact ⟨_, src_str l 1, bytes_elems l, by
          intro u hu
          obtain ⟨b, _, rfl⟩ := List.mem_map.1 hu
          exact ⟨(fun _ e => by cases e), (fun _ e => by cases e)⟩⟩
    obtain ⟨news, n1, n2, n3⟩ := hsrc
    have r1' : VRel G w (.sl i.size xs cp) (a.eval zs) := by
      rcases hsx with rfl | rfl
      · exact r1
      · simp only [VRel] at r1 ⊢
        rcases r1 with r1 | ⟨B, off, C, vs, q1, q2, q3, q4, q5, q6⟩
        · exact .inl r1
        · have hvs : vs = [] := by simpa using q3
          subst hvs
          refine .inr ⟨B, off, C, [], q1, q2, by simp, by simp [VElems], Imm.nil, ?_⟩
          rcases hcc with ⟨rfl, _⟩ | ⟨tk, rfl, _, rfl⟩
          · exact q6
          · exact q6
    obtain ⟨v', w', G', e1, T1, R1, V⟩ := append_any (ty := o.type) hT hU hd hi hz1 hz2 hsz n1 n2 n3 r1' hb hlen R hm (hcc.imp (fun z => z) fun ⟨tk, a, b, _⟩ => ⟨tk, a, b⟩)
    refine ⟨.value v', v', w', G', ?_, .inl rfl, T1, R1, V⟩
    simp [execOp, hop, resolve, hc, ha', hta', invoke, builtin, e1]
  rcases hcap with ⟨⟨k, rfl, rfl⟩, hsx, rfl, rfl⟩ | ⟨tk, rfl, hsx, htk, rfl, rfl⟩
  · exact ⟨_, _, touch_tok h, fun G w a ht R F => key [] G w a ht R (fresh_m F (by simp [H.only])) hsx (.inl ⟨rfl, rfl⟩)⟩
  · exact ⟨_, _, touch_retok h htk, fun G w a ht R F => key [tk] G w a ht R (fresh_m F (by simp [H.only])) (.inl hsx) (.inr ⟨tk, rfl, rfl, hsx⟩)⟩

theorem b2s_plain {src dst e : TypeId} {z : Operand} {y : Opd} {sz : Nat} {xs : List AV} {cp : Cap} {l : List UInt8} (hop : o.op = .convert src dst z) (hs : P.underlying src = some (.slice e)) (he : P.underlying e = some (.int .u8)) (hd : P.underlying dst = some .string)
    (hy : opd P src z = some y) (hx : ev t y = .sl sz xs cp) (hsz : sz = 1 ∨ xs = []) (hl : unBytes xs = some l) {G : Ghost} {w : World} {a : Act} (ht : TRel G w t a) : Plain P G w a o (.str l) := by
  have r := opd_rel hy ht
  rw [hx] at r
  simp only [VRel] at r
  rcases r with ⟨rfl, ⟨a0, hv⟩, -⟩ | ⟨B, off, C, vs, hv, hC, hvl, hve, him, -⟩
  · simp [unBytes] at hl
    subst hl
    refine ⟨.string ByteArray.empty, ?_, by simp [VRel]; rfl⟩
    cases a0 with
    | none => simp [execOp, hop, hv, run_convert_bytes_nil w src e hs he 0 0 dst hd]
    | some q =>
      have h0 : (loadCells q 0).run P w = .ok (([] : List Int).map (Value.int .u8)).toArray w := by
        have := run_loadCells_list (P := P) w q [] (fun j u hu => by simp at hu)
        simpa using this
      simp [execOp, hop, hv, run_convert_bytes_string w src dst e _ 0 0 hs he hd, run_bytesToString w q 0 0 [] h0]
  · have hve' : VElems G w 1 xs vs := by
      rcases hsz with rfl | rfl
      · exact hve
      · simpa [VElems] using hve
    have hvl' := hve'.length
    -- the bytes
    have key : ∀ (xs : List AV) (vs : List Value) (l : List UInt8), VElems G w 1 xs vs → unBytes xs = some l → ∃ ns : List Int, vs = ns.map (Value.int .u8) ∧ l = ns.map (fun n => UInt8.ofNat n.toNat) := by
      intro xs
      induction xs with
      | nil => intro vs l h1 h2; simp only [VElems] at h1; simp [unBytes] at h2; exact ⟨[], by simp [h1], by simp [h2]⟩
      | cons x xs ih =>
        intro vs l h1 h2
        simp only [VElems] at h1
        obtain ⟨v, us, rfl, e1, e2, e3⟩ := h1
        simp only [unBytes] at h2
        split at h2
        · rename_i b r hb hr
          cases h2
          obtain ⟨ns, rfl, rfl⟩ := ih us r e3 hr
          cases x <;> simp [unByte] at hb
          rename_i k n
          cases k <;> simp at hb
          simp only [VRel] at e2
          subst e2
          exact ⟨n :: ns, by simp [Value.cells], by simp [hb]⟩
        · cases h2
    obtain ⟨ns, rfl, rfl⟩ := key xs vs l hve' hl
    have hnl : ns.length = xs.length := by simpa using hvl'
    refine ⟨.string ⟨(ns.map fun n => UInt8.ofNat n.toNat).toArray⟩, ?_, by simp only [VRel]⟩
    have := run_convert_bytes_arg w src e hs he B off xs.length C ns hnl (fun i hi => by
      have hi' : i < ns.length := by omega
      have := (him i (.int .u8 (ns.getD i 0)) (by simp [List.getD, List.getElem?_eq_getElem hi'])).1
      exact this) dst hd
    simp [execOp, hop, hv, this, strOfNums]

theorem s2b_loc {src dst e : TypeId} {z : Operand} {y : Opd} {l : List UInt8} (hop : o.op = .convert src dst z) (hs : P.underlying src = some .string) (hd : P.underlying dst = some (.slice e)) (he : P.underlying e = some (.int .u8)) 
    (hy : opd P src z = some y) (hx : ev t y = .str l) : Loc P o t h (.sl 1 (bytesAV l) (.own h.m)) { h with toks := h.m :: h.toks, m := h.m + 1 } ⟨[], [], [h.m]⟩ := by
  refine ⟨_, _, touch_tok h, fun G w a ht R F => ?_⟩
  have r := opd_rel hy ht
  rw [hx] at r
  simp only [VRel] at r
  have hsz : (ByteArray.mk l.toArray).size = l.length := by simp [ByteArray.size]
  have hrun := run_bytes_of_string w src dst e ⟨l.toArray⟩ hs hd he
  rw [hsz] at hrun
  have hge := grownCap_ge w l.length 0 e
  generalize grownCap w l.length 0 e = C at *
  have hrow : bytesRow ⟨l.toArray⟩ C = (l.map (fun (b : UInt8) => Value.int .u8 (b.toNat : Int)) ++ List.replicate (C - l.length) (Value.int .u8 0)).toArray := by
    simp [bytesRow, hsz]
  have hsz2 : (l.map (fun (b : UInt8) => Value.int .u8 (b.toNat : Int)) ++ List.replicate (C - l.length) (Value.int .u8 0)).toArray.size = l.length + (C - l.length) := by simp
  rw [hrow, hsz2] at hrun
  have hb : (bytesAV l).length = l.length := by simp [bytesAV]
  obtain ⟨G', T1, R1, V⟩ := new_row (n := h.n) (m := h.m) (toks := []) (C := C) (T := e) (fr := (l.length + (C - l.length), l.length + (C - l.length) + 1)) (w := w) (w' := w.drew.alloc (.cells (l.map (fun (b : UInt8) => Value.int .u8 (b.toNat : Int)) ++ List.replicate (C - l.length) (Value.int .u8 0)).toArray e _)) ⟨rfl, rfl, rfl⟩ (bytes_elems l) R (by rw [hb]; exact hge) (by simp; omega)
    (by intro j hj; simp [hb] at hj ⊢; omega) (fresh_m F (by simp [H.only])) (by
      intro u hu
      obtain ⟨b, _, rfl⟩ := List.mem_map.1 hu
      exact ⟨(fun _ e => by cases e), (fun _ e => by cases e)⟩)
  rw [hb] at V
  refine ⟨_, _, _, G', ?_, .inl rfl, T1, R1, V⟩
  simp only [execOp, hop, r, Sem.run_bind, hrun, Result.andThen_ok, Sem.run_pure]

/-- a part laid into a row -/
theorem foldl_lay (off : Nat) : ∀ (vs : List Value) (k : Nat) (cs : Array Value), off + k + vs.length ≤ cs.size →
    ((vs.zipIdx k).foldl (fun (cs : Array Value) (x : Value × Nat) => cs.setIfInBounds (off + x.2) x.1) cs).toList = cs.toList.take (off + k) ++ vs ++ cs.toList.drop (off + k + vs.length)
  | [], k, cs, _ => by simp
  | v :: vs, k, cs, h => by
    simp only [List.length_cons] at h
    simp only [List.zipIdx_cons, List.foldl_cons]
    rw [foldl_lay off vs (k + 1) _ (by simp; omega)]
    have ho : off + k < cs.toList.length := by simp; omega
    have e1 : (cs.toList.set (off + k) v).take (off + (k + 1)) = cs.toList.take (off + k) ++ [v] := by
      rw [← Nat.add_assoc, List.take_succ_eq_append_getElem (by simpa using ho), List.take_set_of_le (Nat.le_refl _)]
      simp
    rw [Array.toList_setIfInBounds, e1, List.drop_set_of_lt (by omega)]
    have : off + (k + 1) + vs.length = off + k + (v :: vs).length := by simp; omega
    rw [this]; simp

theorem fill_one {place : Nat → Option (Nat × Nat)} {cells : Array Value} {i off size : Nat} {v : Value} {rest : List (Nat × Value)} (hp : place i = some (off, size)) (hs : v.cells.size = size) (hl : off + size ≤ cells.size) :
    Instr.fill place cells ((i, v) :: rest) = Instr.fill place (cells.toList.take off ++ v.cells.toList ++ cells.toList.drop (off + size)).toArray rest := by
  have e : (v.cells.zipIdx.foldl (fun cs (x : Value × Nat) => cs.setIfInBounds (off + x.2) x.1) cells) = (cells.toList.take off ++ v.cells.toList ++ cells.toList.drop (off + size)).toArray := by
    apply Array.ext'
    have := foldl_lay off v.cells.toList 0 cells (by simp [hs]; omega)
    rw [← Array.foldl_toList]
    simpa [hs] using this
  have hc : (v.cells.size ≠ size || off + v.cells.size > cells.size) = false := by simp [hs]; omega
  simp only [Instr.fill, hp, hc, Bool.false_eq_true, if_false]
  rw [← e]

theorem opdVals_rel {G : Ghost} {w : World} {a : Act} (ht : TRel G w t a) {e : TypeId} : ∀ {l : List (Nat × Operand)} {k : Nat} {ys : List Opd}, elemsOf P e k l = some ys →
    VRels G w (ys.map (ev t)) (l.map fun p => a.eval p.2) ∧ l.map (·.1) = List.range' k l.length ∧ ys.length = l.length
  | [], k, ys, h => by simp [elemsOf] at h; subst h; exact ⟨.nil, rfl, rfl⟩
  | (i, x) :: l, k, ys, h => by
    simp only [elemsOf] at h
    split at h
    · rename_i hk
      subst hk
      split at h
      · rename_i b r hb hr
        cases h
        obtain ⟨h1, h2, h3⟩ := opdVals_rel ht hr
        refine ⟨.cons (opd_rel hb ht) h1, ?_, by simp [h3]⟩
        simp [h2, List.range'_succ]
      · cases h
    · cases h

/-- the elements of a slice literal, laid one behind the other -/
theorem fill_elems {sz : Nat} {cells : Array Value} : ∀ (vs : List Value) (k : Nat) (done : List Value) (cells : Array Value), done.length = k * sz → cells.toList.take (k * sz) = done → cells.size = (k + vs.length) * sz → (∀ v ∈ vs, v.cells.size = sz) →
    Instr.fill (fun i => some (i * sz, sz)) cells ((List.range' k vs.length).zip vs) = some (done ++ vs.flatMap (·.cells.toList)).toArray
  | [], k, done, cells, h1, h2, h3, h4 => by
    have : cells.toList = done := by
      rw [← h2, List.take_of_length_le]
      simp at h3 ⊢; omega
    simp [Instr.fill, ← this]
  | v :: vs, k, done, cells, h1, h2, h3, h4 => by
    simp only [List.length_cons] at h3
    have hv := h4 v (by simp)
    have e1 : (k + (vs.length + 1)) * sz = k * sz + sz + vs.length * sz := by
      rw [Nat.add_mul, Nat.add_mul]; omega
    rw [e1] at h3
    simp only [List.length_cons, List.range'_succ, List.zip_cons_cons]
    rw [fill_one (off := k * sz) (size := sz) rfl hv (by omega)]
    have hk : (k + 1) * sz = k * sz + sz := by rw [Nat.add_mul]; omega
    rw [h2]
    rw [fill_elems (sz := sz) (cells := cells) vs (k + 1) (done ++ v.cells.toList) _ (by simp [h1, hv, hk]) (by
        have : (done ++ v.cells.toList).length = (k + 1) * sz := by simp [h1, hv, hk]
        rw [List.toList_toArray, ← this, List.take_left]) (by
        have := h3
        rw [show (k + 1 + vs.length) * sz = k * sz + sz + vs.length * sz by rw [Nat.add_mul, Nat.add_mul]; omega]
        simp [h1, hv]; omega) (fun u hu => h4 u (by simp [hu]))]
    simp

theorem elems_of_rels {G : Ghost} {w : World} {sz : Nat} : ∀ {xs : List AV} {vs : List Value}, VRels G w xs vs → (∀ v ∈ vs, v.cells.size = sz) → VElems G w sz xs (vs.flatMap (·.cells.toList))
  | [], vs, h, _ => by simp only [VRels] at h; subst h; simp [VElems]
  | x :: xs, vs, h, hs => by
    simp only [VRels] at h
    obtain ⟨v, us, rfl, h1, h2⟩ := h
    simp only [List.flatMap_cons, VElems]
    exact ⟨v, _, rfl, hs v (by simp), h1, elems_of_rels h2 fun u hu => hs u (by simp [hu])⟩

theorem shaped_cells {G : Ghost} {w : World} {x : AV} {v : Value} (h : VRel G w x v) (hs : shaped x = true) : VRels G w (cellsOf x) v.cells.toList ∧ (cellsOf x).all isCell = true := by
  unfold shaped at hs
  cases hc : isCell x
  · rw [hc, Bool.false_or] at hs
    cases x <;> simp only [Bool.false_eq_true] at hs
    exact ⟨cells_of h (.inr ⟨_, rfl⟩), hs⟩
  · have e : cellsOf x = [x] := by cases x <;> simp [isCell] at hc <;> rfl
    exact ⟨cells_of h (.inl hc), by rw [e]; simpa using hc⟩

theorem buildSl_loc {ty e : TypeId} {len : Nat} {parts : Array (Nat × Operand)} {ys : List Opd} {z : Value} (hop : o.op = .buildSlice ty len parts) (hu : P.underlying ty = some (.slice e)) (hi : (P.info? e).isSome = true) (hn : parts.size = len) (hpos : 0 < P.cellsOf e)
    (hz : (P.info? e).bind (·.zero) = some z) (hzs : z.cells.size = P.cellsOf e)
    (hys : elemsOf P e 0 parts.toList = some ys) (hs : ∀ y ∈ ys, (cellsOf (ev t y)).length = P.cellsOf e ∧ shaped (ev t y) = true) (hle : ys.length * P.cellsOf e ≤ 16777216) :
    Loc P o t h (.sl (P.cellsOf e) (ys.map (ev t)) (.exact ys.length)) h ent0 := by
  refine ⟨_, _, touch_none h, fun G w a ht R F => ?_⟩
  obtain ⟨r1, r2, r3⟩ := opdVals_rel ht hys
  simp only [Array.length_toList, hn] at r2 r3
  have hsz : ∀ v ∈ parts.toList.map (fun p => a.eval p.2), v.cells.size = P.cellsOf e ∧ ∀ u ∈ v.cells.toList, One u := by
    intro v hv
    obtain ⟨k, hk⟩ := List.getElem?_of_mem hv
    have hlt : k < (parts.toList.map (fun p => a.eval p.2)).length := by
      rcases Nat.lt_or_ge k (parts.toList.map (fun p => a.eval p.2)).length with h | h
      · exact h
      · rw [List.getElem?_eq_none h] at hk; cases hk
    have hlt' : k < ys.length := by simp at hlt; omega
    obtain ⟨u, hu1, hu2⟩ := r1.get (i := k) (x := ev t ys[k]) (by simp [List.getElem?_eq_getElem hlt'])
    have e : u = v := Option.some.inj (hu1.symm.trans hk)
    subst e
    obtain ⟨s1, s2⟩ := hs ys[k] (List.getElem_mem hlt')
    obtain ⟨c1, c2⟩ := shaped_cells hu2 s2
    have := c1.length
    exact ⟨by simpa [s1] using this, cells_one c1 c2⟩
  generalize hV : parts.toList.map (fun p => a.eval p.2) = vals at *
  have hvl : vals.length = len := by rw [← hV]; simp [hn]
  have he := elems_of_rels r1 fun v hv => (hsz v hv).1
  have hfl : (vals.flatMap (·.cells.toList)).length = len * P.cellsOf e := by
    have := he.length; rw [this]; simp [r3]
  have hfill : ∀ cells : Array Value, cells.size = len * P.cellsOf e → Instr.fill (fun i => some (i * P.cellsOf e, P.cellsOf e)) cells ((parts.map fun (i, x) => (i, a.eval x)).toList) = some (vals.flatMap (·.cells.toList)).toArray := by
    intro cells hc
    have hz : (parts.map fun (i, x) => (i, a.eval x)).toList = (List.range' 0 vals.length).zip vals := by
      have : ∀ l : List (Nat × Operand), l.map (fun (i, x) => (i, a.eval x)) = (l.map (·.1)).zip (l.map fun p => a.eval p.2) := by
        intro l; induction l with
        | nil => rfl
        | cons p l ih => simp [ih]
      rw [Array.toList_map, this, r2, hV, hvl]
    rw [hz]
    have := fill_elems (sz := P.cellsOf e) (cells := cells) vals 0 [] cells (by simp) (by simp) (by rw [hc, hvl]; simp) (fun v hv => (hsz v hv).1)
    simpa using this
  have hle' : ¬ (len * P.cellsOf e > 16777216) := by rw [← r3]; omega
  obtain ⟨G', T1, R1, V⟩ := new_imm (n := h.n) (m := h.m) (pushed_alloc w (.cells (vals.flatMap (·.cells.toList)).toArray e (0, 0))) he (by
    intro u hu
    obtain ⟨v, hv, hu'⟩ := List.mem_flatMap.1 hu
    exact (hsz v hv).2 u hu')
  rw [show (ys.map (ev t)).length = len by simp [r3]] at V
  refine ⟨.value (.slice (some ⟨w.heap.size, 0, none⟩) len len), _, _, G', ?_, .inl rfl, T1, R1, by rw [r3]; exact V⟩
  obtain ⟨i, hi1, hi2⟩ := Option.bind_eq_some_iff.1 hz
  have hle2 : ¬ (16777216 < len * P.cellsOf e) := by omega
  have hmap : ∀ (zc : Array Value), ((Array.range (len * P.cellsOf e)).map (zc[· % zc.size]!)).size = len * P.cellsOf e := by intro zc; simp
  have hrz : (zeroValue e).run P w = .ok z w := by simp [zeroValue, typeInfo, hi1, hi2]
  simp only [execOp, hop, Sem.run_bind, Instr.buildSlice, run_underlying hu, Result.andThen_ok, run_size P w e hi, if_neg hle2, Sem.run_pure, Sem.run_ite, hrz, hfill _ (hmap _)]
  by_cases h0 : len * P.cellsOf e = 0
  · rw [if_pos h0]; simp [newRow]
  · rw [if_neg h0]; simp [newRow]


/-- a struct's parts laid one behind the other -/
theorem fill_parts {G : Ghost} {w : World} {a : Act} (ht : TRel G w t a) {fs : Array Field} {place : Nat → Option (Nat × Nat)} (hplace : ∀ i f, fs[i]? = some f → place i = some (f.offset, P.cellsOf f.type)) :
    ∀ {l : List (Nat × Operand)} {ps : List (Nat × Nat × Opd)} {cs cs' : List AV} {vs : List Value}, partsOf P fs l = some ps → putParts (ev t) ps cs = some cs' → VRels G w cs vs →
      ∃ vs', Instr.fill place vs.toArray (l.map fun p => (p.1, a.eval p.2)) = some vs'.toArray ∧ VRels G w cs' vs'
  | [], ps, cs, cs', vs, h1, h2, h3 => by
    simp [partsOf] at h1; subst h1
    simp [putParts] at h2; subst h2
    exact ⟨vs, by simp [Instr.fill], h3⟩
  | (i, x) :: l, ps, cs, cs', vs, h1, h2, h3 => by
    simp only [partsOf] at h1
    split at h1
    · cases h1
    · rename_i f hf
      split at h1
      · rename_i b r hb hr
        split at h1
        · cases h1
          simp only [putParts] at h2
          split at h2
          · rename_i hc
            obtain ⟨c1, c2, c3⟩ := hc
            have rx := opd_rel hb ht
            obtain ⟨s1, s2⟩ := shaped_cells rx c3
            have hsz : (a.eval x).cells.size = P.cellsOf f.type := by have := s1.length; simpa [c1] using this
            have hl := h3.length
            have hnew : VRels G w (setAt cs f.offset (cellsOf (ev t b))) (vs.take f.offset ++ (a.eval x).cells.toList ++ vs.drop (f.offset + P.cellsOf f.type)) := by
              unfold setAt
              rw [c1]
              exact ((h3.take _).append s1).append (h3.drop _)
            obtain ⟨vs', e1, e2⟩ := fill_parts ht hplace hr h2 hnew
            refine ⟨vs', ?_, e2⟩
            rw [List.map_cons, fill_one (hplace i f hf) hsz (by simp; omega)]
            exact e1
          · cases h2
        · cases h1
      · cases h1

theorem build_loc {ty : TypeId} {parts : Array (Nat × Operand)} {fs : Array Field} {z : Value} {zc cs : List AV} {ps : List (Nat × Nat × Opd)} (hop : o.op = .build ty parts) (hu : P.underlying ty = some (.struct fs)) (hz : (P.info? ty).bind (·.zero) = some z)
    (hzc : constAV P ty z = some (.agg zc)) (hps : partsOf P fs parts.toList = some ps) (hfs : fs.all (fun f => (P.info? f.type).isSome) = true) (hcs : putParts (ev t) ps zc = some cs) {G : Ghost} {w : World} {a : Act} (ht : TRel G w t a) : Plain P G w a o (.agg cs) := by
  have r := const_rel (G := G) (w := w) hzc
  simp only [VRel] at r
  obtain ⟨vs, rfl, hr⟩ := r
  have hplaces : ∀ w : World, (fs.mapM fun f => do pure (f.offset, ← sizeOf f.type) : Sem _).run P w = .ok (fs.map fun f => (f.offset, P.cellsOf f.type)) w := by
    intro w
    rw [Array.mapM_eq_mapM_toList]
    have : ∀ l : List Field, (∀ f ∈ l, (P.info? f.type).isSome = true) → (l.mapM (fun f => Prod.mk f.offset <$> sizeOf f.type) : Sem _).run P w = .ok (l.map fun f => (f.offset, P.cellsOf f.type)) w := by
      intro l
      induction l with
      | nil => intro _; simp
      | cons f l ih => intro hl; simp [run_size P w _ (hl f (by simp)), ih fun g hg => hl g (by simp [hg])]
    simp [this fs.toList (fun f hf => by
      rw [Array.all_eq_true_iff_forall_mem] at hfs
      exact hfs f (by simpa using hf))]
    apply Array.ext'
    simp
  obtain ⟨vs', e1, e2⟩ := fill_parts (place := fun i => (fs.map fun f => (f.offset, P.cellsOf f.type))[i]?) ht (by intro i f hf; simp [hf]) hps hcs hr
  refine ⟨.agg vs'.toArray, ?_, by simp only [VRel]; exact ⟨vs', rfl, e2⟩⟩
  obtain ⟨i, hi1, hi2⟩ := Option.bind_eq_some_iff.1 hz
  have hmap : (parts.map fun (i, x) => (i, a.eval x)).toList = parts.toList.map fun p => (p.1, a.eval p.2) := by simp
  simp only [execOp, hop, Instr.build, Sem.run_bind, zeroValue, typeInfo, run_program, hi1, hi2, Result.andThen_ok, Sem.run_pure, run_underlying hu, hplaces, Value.cells, hmap, e1]

theorem get_flat {α : Type} (L : List α) (hL : 0 < L.length) : ∀ (k j : Nat), j < k * L.length → ((List.replicate k L).flatten)[j]? = L[j % L.length]?
  | 0, j, h => by simp at h
  | k + 1, j, h => by
    simp only [List.replicate_succ, List.flatten_cons]
    by_cases hj : j < L.length
    · rw [List.getElem?_append_left hj, Nat.mod_eq_of_lt hj]
    · have hj' : L.length ≤ j := by omega
      rw [Nat.add_mul, Nat.one_mul] at h
      rw [List.getElem?_append_right hj', get_flat L hL k (j - L.length) (by omega), Nat.mod_eq_sub_mod (a := j) hj']

theorem mksl_loc {ty e : TypeId} {zl zc : Operand} {yl yc : Opd} {i : TypeInfo} {z : Value} {b : AV} {kl kc : IntKind} {l c : Int} (hop : o.op = .makeSlice ty zl zc) (hu : P.underlying ty = some (.slice e)) (hi : P.info? e = some i) (hz : i.zero = some z) (hzs : z.cells.size = i.size) (hpos : 0 < i.size)
    (hb : constAV P e z = some b) (hyl : opd P 0 zl = some yl) (hyc : opd P 0 zc = some yc) (hl : ev t yl = .int kl l) (hc : ev t yc = .int kc c) (h0 : 0 ≤ l) (hlc : l ≤ c) (hbytes : c * i.bytes ≤ 140737488355328) (hc63 : c < 9223372036854775808) (hsh : shaped b = true) :
    Loc P o t h (.sl i.size (List.replicate l.toNat b) (.own h.m)) { h with toks := h.m :: h.toks, m := h.m + 1 } ⟨[], [], [h.m]⟩ := by
  refine ⟨_, _, touch_tok h, fun G w a ht R F => ?_⟩
  have r1 := opd_rel hyl ht
  have r2 := opd_rel hyc ht
  rw [hl] at r1
  rw [hc] at r2
  simp only [VRel] at r1 r2
  have rb := const_rel (G := G) (w := w) hb
  obtain ⟨sc1, sc2⟩ := shaped_cells rb hsh
  have hel : ∀ k : Nat, VElems G w i.size (List.replicate k b) (List.replicate k z.cells.toList).flatten := by
    intro k
    induction k with
    | zero => simp [VElems]
    | succ k ih =>
      simp only [List.replicate_succ, List.flatten_cons, VElems]
      exact ⟨z, _, rfl, hzs, rb, ih⟩
  have hone : ∀ k : Nat, ∀ u ∈ (List.replicate k z.cells.toList).flatten, One u := by
    intro k u hu
    obtain ⟨x, hx, hu'⟩ := List.mem_flatten.1 hu
    rw [(List.mem_replicate.1 hx).2] at hu'
    exact cells_one sc1 sc2 u hu'
  have hrow : ∀ k : Nat, (((Array.range (k * i.size)).map (z.cells[· % z.cells.size]!))).toList = (List.replicate k z.cells.toList).flatten := by
    intro k
    apply List.ext_getElem?
    intro j
    have hL : z.cells.toList.length = i.size := by simp [hzs]
    rcases Nat.lt_or_ge j (k * i.size) with hj | hj
    · rw [get_flat z.cells.toList (by omega) k j (by rw [hL]; exact hj), hL]
      have hm : j % i.size < z.cells.size := by rw [hzs]; exact Nat.mod_lt _ hpos
      have hb2 : z.cells[j % i.size]? = some z.cells[j % i.size]! := by rw [getElem!_pos z.cells (j % i.size) hm]; exact Array.getElem?_eq_getElem hm
      simp [hj, hzs, hb2]
    · rw [List.getElem?_eq_none (by simp; omega), List.getElem?_eq_none (by simp [hzs]; omega)]
  have hrow2 : ((Array.range (c.toNat * i.size)).map (z.cells[· % z.cells.size]!)) = ((List.replicate l.toNat z.cells.toList).flatten ++ (List.replicate (c.toNat - l.toNat) z.cells.toList).flatten).toArray := by
    apply Array.ext'
    rw [hrow]
    have : c.toNat = l.toNat + (c.toNat - l.toNat) := by omega
    rw [this, ← List.replicate_append_replicate, List.flatten_append]
    simp
  have hlen : ∀ k : Nat, ((List.replicate k z.cells.toList).flatten).length = k * i.size := by intro k; simp [hzs]
  have hcle : (c.toNat : Int) * i.bytes ≤ 140737488355328 := by rw [Int.toNat_of_nonneg (by omega)]; exact hbytes
  obtain ⟨G', T1, R1, V⟩ := new_row (n := h.n) (m := h.m) (C := c.toNat) (pushed_alloc w (.cells ((List.replicate l.toNat z.cells.toList).flatten ++ (List.replicate (c.toNat - l.toNat) z.cells.toList).flatten).toArray e (0, 0))) (hel l.toNat) R
    (by simp; omega) (by rw [hlen, hlen, ← Nat.add_mul]; exact Nat.mul_le_mul_right _ (by omega)) (fun j _ => by simp) (fresh_m F (by simp [H.only])) (hone _)
  rw [List.length_replicate] at V
  refine ⟨.value (.slice (some ⟨w.heap.size, 0, none⟩) l.toNat c.toNat), _, _, G', ?_, .inl rfl, T1, R1, V⟩
  have hwl : IntKind.i64.wrap l = l := by
    simp [IntKind.wrap, IntKind.bits, IntKind.signed]; omega
  have hwc : IntKind.i64.wrap c = c := by
    simp [IntKind.wrap, IntKind.bits, IntKind.signed]; omega
  have hcc : i.bytes * c ≤ 140737488355328 := by rw [Int.mul_comm]; exact hbytes
  have e1 : ¬ (c < 0) := by omega
  have e2 : ¬ (281474976710656 < (i.bytes : Int) * c) := by omega
  have e3 : ¬ (l < 0) := by omega
  have e4 : ¬ (c < l) := by omega
  have hrz : (zeroValue e).run P w = .ok z w := by simp [zeroValue, typeInfo, hi, hz]
  have hsize : (sizeOf e).run P w = .ok i.size w := by simp [sizeOf, typeInfo, hi]
  simp only [execOp, hop, Instr.makeSlice, Sem.run_bind, run_underlying hu, Result.andThen_ok, r1, r2, asInt, asIntOf, Sem.run_pure, typeInfo, run_program, hi, hwl, hwc]
  simp [e1, e2, e3, e4, hsize, hrz, newRow]
  split
  · rename_i hz0
    have hc0 : c.toNat = 0 := by
      rcases Nat.mul_eq_zero.1 hz0 with h | h
      · exact h
      · omega
    have hl0 : l.toNat = 0 := by omega
    have hr0 : Array.range 0 = #[] := rfl
    simp [hc0, hl0, hr0]
  · have hrow3 := hrow2
    simp only [hrow3]

theorem zeroCells_flat {z : Value} {sz : Nat} (hz : z.cells.size = sz) (hpos : 0 < sz) (k : Nat) : (Builtin.zeroCells z.cells k).toList = (List.replicate k z.cells.toList).flatten := by
  subst hz
  unfold Builtin.zeroCells
  apply List.ext_getElem?
  intro j
  have hL : z.cells.toList.length = z.cells.size := by simp
  rcases Nat.lt_or_ge j (k * z.cells.size) with hj | hj
  · rw [get_flat z.cells.toList (by omega) k j (by rw [hL]; exact hj), hL]
    have hm : j % z.cells.size < z.cells.size := Nat.mod_lt _ hpos
    have hb2 : z.cells[j % z.cells.size]? = some z.cells[j % z.cells.size]! := by rw [getElem!_pos z.cells (j % z.cells.size) hm]; exact Array.getElem?_eq_getElem hm
    simp [hj, hb2]
  · rw [List.getElem?_eq_none (by simp; omega), List.getElem?_eq_none (by simp; omega)]

theorem appz_loc {c : Call} {zs zx : Operand} {ys yx : Opd} {T U e : TypeId} {i : TypeInfo} {z : Value} {b : AV} {s : Nat} {xs : List AV} {cp : Cap} {n : Int} {h' : H} (hop : o.op = .call c) (hc : c.callee = .builtin .append) (ha : c.args.toList = [zs, zx]) (hta : c.argTypes.toList = [T, U])
    (hT : P.underlying T = some (.slice e)) (hU : P.underlying U = some (.int .i64)) (hi : P.info? e = some i) (hz : i.zero = some z) (hzs : z.cells.size = i.size) (hb0 : constAV P e z = some b) (hsz : 0 < i.size)
    (hys : opd P T zs = some ys) (hyx : opd P U zx = some yx) (hs : ev t ys = .sl s xs cp) (hx : ev t yx = .int .i64 n) (h0 : 0 ≤ n) (hsh : shaped b = true) (hby : 0 < i.bytes)
    (hb : (xs.length + n.toNat) * i.bytes ≤ 140737488355328) (hlen : xs.length + n.toNat < 4611686018427387904)
    (hcap : ((∃ k, cp = .exact k ∧ k = xs.length) ∧ (s = i.size ∨ xs = []) ∧ h' = { h with toks := h.m :: h.toks, m := h.m + 1 } ∧ en = ⟨[], [], [h.m]⟩) ∨
      ∃ tk, cp = .own tk ∧ s = i.size ∧ tk ∈ h.toks ∧ h' = { h with toks := h.m :: h.toks.filter (· ≠ tk), m := h.m + 1 } ∧ en = ⟨[], [], [tk, h.m]⟩) :
    Loc P o t h (.sl i.size (xs ++ List.replicate n.toNat b) (.own h.m)) h' en := by
  have ha' : c.args = #[zs, zx] := by rw [← Array.toArray_toList (xs := c.args), ha]
  have hta' : c.argTypes = #[T, U] := by rw [← Array.toArray_toList (xs := c.argTypes), hta]
  have key : ∀ (toks : List Nat) G w a, TRel G w t a → RepH G (.only none' toks h.n h.m) w → ¬ G.tdom h.m → (s = i.size ∨ xs = []) → ((cp = .exact xs.length ∧ toks = []) ∨ ∃ tk, cp = .own tk ∧ toks = [tk] ∧ s = i.size) →
      ∃ nx v w' G', (execOp a.eval o).run P w = .ok nx w' ∧ (nx = .value v ∨ nx = .skip ∧ v = undef) ∧ Trans G w (.only none' toks h.n h.m) G' w' (.only none' [h.m] h.n (h.m + 1)) ∧ RepH G' (.only none' [h.m] h.n (h.m + 1)) w' ∧ VRel G' w' (.sl i.size (xs ++ List.replicate n.toNat b) (.own h.m)) v := by
    intro toks G w a ht R hm hsx hcc
    have r1 := opd_rel hys ht
    have r2 := opd_rel hyx ht
    rw [hs] at r1
    rw [hx] at r2
    simp only [VRel] at r2
    have rb := const_rel (G := G) (w := w) hb0
    obtain ⟨sc1, sc2⟩ := shaped_cells rb hsh
    have hel : ∀ k : Nat, VElems G w i.size (List.replicate k b) (List.replicate k z.cells.toList).flatten := by
      intro k
      induction k with
      | zero => simp [VElems]
      | succ k ih =>
        simp only [List.replicate_succ, List.flatten_cons, VElems]
        exact ⟨z, _, rfl, hzs, rb, ih⟩
    have hone : ∀ u ∈ (List.replicate n.toNat z.cells.toList).flatten, One u := by
      intro u hu
      obtain ⟨x, hx, hu'⟩ := List.mem_flatten.1 hu
      rw [(List.mem_replicate.1 hx).2] at hu'
      exact cells_one sc1 sc2 u hu'
    have r1' : VRel G w (.sl i.size xs cp) (a.eval zs) := by
      rcases hsx with rfl | rfl
      · exact r1
      · simp only [VRel] at r1 ⊢
        rcases r1 with r1 | ⟨B, off, C, vs, q1, q2, q3, q4, q5, q6⟩
        · exact .inl r1
        · have hvs : vs = [] := by simpa using q3
          subst hvs
          refine .inr ⟨B, off, C, [], q1, q2, by simp, by simp [VElems], Imm.nil, ?_⟩
          rcases hcc with ⟨rfl, _⟩ | ⟨tk, rfl, _, rfl⟩
          · exact q6
          · exact q6
    have hnn : (n.toNat : Int) = n := Int.toNat_of_nonneg h0
    have hlr : (List.replicate n.toNat b).length = n.toNat := by simp
    have hzf := zeroCells_flat hzs hsz n.toNat
    obtain ⟨v', w', G', e1, T1, R1, V⟩ := append_core (P := P) (t := T) (u := U) (ty := o.type) (e := e) (x := .int .i64 n) (ys := List.replicate n.toNat b) (news := (List.replicate n.toNat z.cells.toList).flatten)
      (fun base sLen sCap w' q1 q2 => by
        rw [hlr] at q1 ⊢
        rw [← hnn]
        refine run_appendz_fits hT hU hi hz hzs hsz (by omega) (Nat.le_trans (Nat.mul_le_mul_right _ (by omega)) hb) q1 ?_
        rw [hzf]; exact q2)
      (fun base sLen sCap vs q1 q2 q3 q4 q5 => by
        rw [hlr] at q2 q4 q5 ⊢
        have hgr := run_appendz_grows (ty := o.type) hT hU hi hz hzs hsz q1 q2 q3 q4 q5
        rw [hnn, hzf] at hgr
        exact hgr)
      (hel n.toNat) hone r1' (by rw [hlr]; exact hb) (by rw [hlr]; exact hlen) R hm (hcc.imp (fun z => z) fun ⟨tk, a, b, _⟩ => ⟨tk, a, b⟩)
    refine ⟨.value v', v', w', G', ?_, .inl rfl, T1, R1, V⟩
    simp [execOp, hop, resolve, hc, ha', hta', invoke, builtin, r2, e1]
  rcases hcap with ⟨⟨k, rfl, rfl⟩, hsx, rfl, rfl⟩ | ⟨tk, rfl, hsx, htk, rfl, rfl⟩
  · exact ⟨_, _, touch_tok h, fun G w a ht R F => key [] G w a ht R (fresh_m F (by simp [H.only])) hsx (.inl ⟨rfl, rfl⟩)⟩
  · exact ⟨_, _, touch_retok h htk, fun G w a ht R F => key [tk] G w a ht R (fresh_m F (by simp [H.only])) (.inl hsx) (.inr ⟨tk, rfl, rfl, hsx⟩)⟩

theorem conv_int_plain {src dst : TypeId} {z : Operand} {y : Opd} {k0 k k' : IntKind} {n : Int} (hop : o.op = .convert src dst z) (hs : P.underlying src = some (.int k0)) (hd : P.underlying dst = some (.int k)) (hy : opd P src z = some y)
    (hx : ev t y = .int k' n) {G : Ghost} {w : World} {a : Act} (ht : TRel G w t a) : Plain P G w a o (.int k (k.wrap n)) := by
  have r := opd_rel hy ht
  rw [hx] at r
  simp only [VRel] at r
  refine ⟨.int k (k.wrap n), ?_, by simp [VRel]⟩
  simp [execOp, hop, r, convert, run_underlying hs, run_underlying hd, Conv.intToInt]

theorem conv_str_plain {src dst : TypeId} {z : Operand} {y : Opd} {l : List UInt8} (hop : o.op = .convert src dst z) (hs : P.underlying src = some .string) (hd : P.underlying dst = some .string) (hy : opd P src z = some y)
    (hx : ev t y = .str l) {G : Ghost} {w : World} {a : Act} (ht : TRel G w t a) : Plain P G w a o (.str l) := by
  have r := opd_rel hy ht
  rw [hx] at r
  simp only [VRel] at r
  refine ⟨.string ⟨l.toArray⟩, ?_, by simp [VRel]⟩
  simp [execOp, hop, r, convert, run_underlying hs, run_underlying hd]

theorem reps_rel {G : Ghost} {w : World} {l : List AV} {vs : List Value} (h : VRels G w l vs) : ∀ k, VRels G w (List.replicate k l).flatten (List.replicate k vs).flatten
  | 0 => by simp [VRels]
  | k + 1 => by
    rw [List.replicate_succ, List.replicate_succ, List.flatten_cons, List.flatten_cons]
    exact VRels.append h (reps_rel h k)

theorem clr_loc {c : Call} {z : Operand} {y : Opd} {T e : TypeId} {i : TypeInfo} {zv : Value} {b : AV} {id off len : Nat} {cap : Option Nat} {cs : List AV} (hop : o.op = .call c) (hc : c.callee = .builtin .clear) (ha : c.args.toList = [z]) (hta : c.argTypes.toList = [T])
    (hT : P.underlying T = some (.slice e)) (hi : P.info? e = some i) (hz : i.zero = some zv) (hzs : zv.cells.size = i.size) (hb0 : constAV P e zv = some b) (hsz : 0 < i.size)
    (hy : opd P T z = some y) (hx : ev t y = .tsl i.size id off len cap) (hlen : ¬ len = 0) (ho : h.objs id = some (.cells cs)) (hlz : (cellsOf b).length = i.size) (hle : off + len * i.size ≤ cs.length) (hall : (cellsOf b).all isCell = true) :
    Loc P o t h .any { h with objs := upd h.objs id (some (.cells (setAt cs off (List.replicate len (cellsOf b)).flatten))) } ⟨[], [id], []⟩ := by
  have ha' : c.args = #[z] := by rw [← Array.toArray_toList (xs := c.args), ha]
  have hta' : c.argTypes = #[T] := by rw [← Array.toArray_toList (xs := c.argTypes), hta]
  refine ⟨_, _, touch_write h ho, fun G w a ht R F => ?_⟩
  have r1 := opd_rel hy ht
  rw [hx] at r1
  simp only [VRel] at r1
  obtain ⟨-, ⟨C, c0, T0, fr, r1, -⟩ | ⟨h0, -⟩⟩ := r1
  rotate_left
  · exact absurd h0 hlen
  have r : VRel G w b zv := const_rel hb0
  have rc : VRels G w (cellsOf b) zv.cells.toList := by
    by_cases hc : ∃ cs, b = .agg cs
    · exact cells_of r (.inr hc)
    · have e : cellsOf b = [b] := by cases b <;> first | rfl | exact absurd ⟨_, rfl⟩ hc
      rw [e] at hall
      exact cells_of r (.inl (by simpa using hall))
  have rr := reps_rel rc len
  have hll : (List.replicate len (cellsOf b)).flatten.length = len * i.size := by simp [List.length_flatten, hlz]
  obtain ⟨w', s1, T1, R1⟩ := store_obj (P := P) (off := off) R rr (fun v hv => by
    obtain ⟨l, hl, hvl⟩ := List.mem_flatten.1 hv
    rw [(List.mem_replicate.1 hl).2] at hvl
    exact cells_one rc hall v hvl) (by rw [hll]; exact hle)
  refine ⟨.value (.tuple #[]), _, w', G, ?_, .inl rfl, T1, R1, by simp [VRel]⟩
  obtain ⟨k, rfl⟩ : ∃ k, len = k + 1 := ⟨len - 1, by omega⟩
  have hzf := zeroCells_flat hzs hsz (k + 1)
  simp [execOp, hop, resolve, hc, ha', hta', invoke, builtin, Builtin.clear_, run_underlying hT, r1, zeroValue, typeInfo, hi, hz, hzf, s1]
end
end Go.Av
