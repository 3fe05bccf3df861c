/- BatchItems: the statement 'BatchItemsSaid', closed by the law that the walk shows. No condition. -/
import Derived.Deep.CondSized
import Derived.IntWalk
import Derived.KernelRfl
import Derived.Laws.Append
import Derived.Laws.AppendOwn
import Derived.Laws.BytesArg
import Derived.Laws.Cover3
import Derived.Laws.Entries
import Derived.Laws.IdiomCopy
import Derived.Laws.IdiomStrings
import Derived.Laws.Pointers
import Derived.Laws.Small
import Derived.Laws.Strings
import Derived.Laws.StructEq
import Derived.Lib.Small
import Derived.Lib.Walk
import Derived.MapKept
import Derived.OpenShut
import Derived.Orders
import Derived.OrdersIn
import Derived.ProofKit
import Derived.RangeFuncRecord
import Derived.RangeFuncSeq
import Derived.ReadAgain
import Derived.Scope
import Derived.Shelf.Lay
import Derived.Shelf.SlSortCmp.InsertionK
import Derived.Shelf.SlSortCmp.WholeK
import Derived.Shelf.Slices.Cells
import Derived.Shelf.Slices.Delete
import Derived.Shelf.Sort.Plain
import Derived.Shelf.Spec.SlicesInsertGrow
import Derived.SizedLaws
import Derived.Sort.Walk0
import Derived.Test.YtobokfclaooloaaRows
import Derived.WalkKit
import Derived.Test.YtobokfclaooloaaTbID
section
set_option linter.unusedVariables false
set_option linter.unusedSimpArgs false
namespace Go.Av
section
variable {P : Program} {N : Nat} {o : Oper} {t : Tm} {h : H} {en : Ent} {G : Ghost} {w : World}
theorem only1 {id n m : Nat} {c : Obj} {j : Nat} {o : Obj} (ho : (H.only (upd none' id (some c)) [] n m).objs j = some o) : j = id ∧ o = c := by
  simp only [H.only, upd, none'] at ho
  split at ho
  · cases ho; exact ⟨‹_›, rfl⟩
  · cases ho
theorem store_tail {id n m : Nat} {cs xs : List AV} {us : List Value} (R : RepH G (.only (upd none' id (some (.cells cs))) [] n m) w) (hn : ¬ G.dom n) (hr : VRels G w xs us) (h1 : ∀ v ∈ us, One v)
    {c : Array Value} {T0 : TypeId} {fr0 : Nat × Nat} (hc0 : w.heap[G.ι id]? = some (.cells c T0 fr0)) (hl : cs.length + xs.length ≤ c.size) :
    ∃ w' G', (storeCells ⟨G.ι id, cs.length, none⟩ us 0).run P w = .ok () w' ∧ Trans G w (.only (upd none' id (some (.cells cs))) [] n m) G' w' (.only (upd none' n (some (.cells (cs ++ xs)))) [] (n + 1) m) ∧ RepH G' (.only (upd none' n (some (.cells (cs ++ xs)))) [] (n + 1) m) w' ∧
      G'.dom n ∧ G'.ι n = G.ι id ∧ ∃ c' T' fr', w'.heap[G.ι id]? = some (.cells c' T' fr') ∧ c'.size = c.size := by
  have hme : (H.only (upd none' id (some (.cells cs))) [] n m).objs id = some (.cells cs) := by simp [H.only, upd]
  obtain ⟨d1, d2, d3, -⟩ := R.obj id _ hme
  obtain ⟨vs, rest, T, fr, hg, hvs, hfr, hone⟩ := obj_cells R hme
  have hlen := hvs.length
  have hul := hr.length
  have hcs : c.size = vs.length + rest.length := by
    rw [hg] at hc0
    cases hc0
    simp
  have hc : ∀ j, w.cell? ⟨G.ι id, j, none⟩ = (vs ++ rest)[j]? := by
    intro j; unfold World.cell?; simp only [hg]; simp
  have hcell : ∀ j, j < us.length → (w.cell? ⟨G.ι id, cs.length + 0 + j, none⟩).isSome = true := fun j hj => by rw [hc]; simp; omega
  have hfrz : ∀ j, j < us.length → w.frozen? ⟨G.ι id, cs.length + 0 + j, none⟩ = false := fun j hj => by
    unfold World.frozen?; simp only [hg]
    have : ¬ (fr.1 ≤ cs.length + 0 + j ∧ cs.length + 0 + j < fr.2) := fun h => by omega
    simpa using this
  have honec : ∀ v ∈ us, v.oneCell' = true := fun v hv => by
    obtain ⟨k1, k2⟩ := h1 v hv
    cases v with
    | agg a => exact absurd rfl (k1 a)
    | tuple a => exact absurd rfl (k2 a)
    | _ => rfl
  have hrun := run_storeCells_cells (P := P) (G.ι id) cs.length us 0 w hcell hfrz honec
  rw [Nat.add_zero] at hrun
  obtain ⟨a1, a2, a3, a4, a5⟩ := setCells_heap (G.ι id) T fr us cs.length (vs ++ rest) w hg (by simp; omega)
  have ecur : (vs ++ rest).take cs.length ++ us ++ (vs ++ rest).drop (cs.length + us.length) = (vs ++ us) ++ rest.drop us.length := by
    rw [List.take_append_of_le_length (by omega), List.take_of_length_le (by omega), List.drop_append, List.drop_of_length_le (by omega), hlen, List.nil_append]
    congr 2; omega
  rw [ecur] at a1
  clear hcell hfrz honec
  generalize w.setCells (G.ι id) cs.length us = w1 at *
  let G' : Ghost := { G with dom := fun j => G.dom j ∨ j = n, ι := upd G.ι n (G.ι id) }
  have hιn : G'.ι n = G.ι id := by simp [G', upd]
  have hι : ∀ j, G.dom j → G'.ι j = G.ι j := fun j hj => by
    simp only [G', upd]; rw [if_neg]; rintro rfl; exact hn hj
  refine ⟨w1, G', hrun, ?_⟩
  have T1 : Trans G w (.only (upd none' id (some (.cells cs))) [] n m) G' w1 (.only (upd none' n (some (.cells (cs ++ xs)))) [] (n + 1) m) := by
    constructor
    · exact fun _ x => .inl x
    · rintro j (x | rfl)
      · exact .inl x
      · exact .inr ⟨by simp [H.only], by simp [H.only]⟩
    · exact hι
    · exact fun _ x => x
    · exact fun _ => .inl
    · exact fun _ _ => rfl
    · simp [H.only]
    · exact Nat.le_refl _
    · rw [a3]; exact Nat.le_refl _
    · exact a4
    · exact a5
    · intro B hB
      by_cases hBi : B = G.ι id
      · subst hBi
        rw [a1, hg]
        exact ⟨_, _, rfl, by simp; omega, fun _ _ h => h⟩
      · rw [a2 B hBi]; exact SameForm.refl _
    · intro B hB hO _
      exact a2 B fun e => hO ⟨id, _, hme, e.symm⟩
    · exact fun _ _ _ => Iff.rfl
    · exact fun _ _ _ _ => rfl
    · rintro B hB ⟨t, ht, _⟩; simp [H.only] at ht
    · rintro B hB ⟨j, o, ho, e⟩
      obtain ⟨rfl, rfl⟩ := only1 ho
      exact ⟨id, _, hme, by rw [← e, hιn]⟩
    · rintro B hB ⟨t, ht, _⟩; simp [H.only] at ht
    · intro j o ho
      obtain ⟨rfl, rfl⟩ := only1 ho
      exact .inr ⟨by simp [H.only], by simp [H.only]⟩
    · intro t ht; simp [H.only] at ht
  refine ⟨T1, ⟨?_, ?_, ?_, ?_⟩, .inr rfl, hιn, _, T, fr, a1, ?_⟩
  · intro j o ho
    obtain ⟨rfl, rfl⟩ := only1 ho
    refine ⟨.inr rfl, by rw [hιn]; exact d2, by rw [hιn, a3]; exact d3, ?_⟩
    rw [hιn, a1]
    refine ⟨_, _, T, fr, rfl, (VRels.mono R T1 _ _ hvs).append (VRels.mono R T1 _ _ hr), hfr, ?_⟩
    intro v hv
    rcases List.mem_append.1 hv with hv | hv
    · exact hone v hv
    · exact h1 v hv
  · intro j j' o o' ho ho' _
    rw [(only1 ho).1, (only1 ho').1]
  · intro t ht; simp [H.only] at ht
  · intro t ht; simp [H.only] at ht
  · simp; omega
theorem Trans.weak1 {id n m : Nat} {c : Obj} {G' : Ghost} {w' : World} {h' : H} (T : Trans G w (.only none' [] n m) G' w' h') : Trans G w (.only (upd none' id (some c)) [] n m) G' w' h' := by
  constructor
  · exact T.dom_le
  · exact T.dom_new
  · exact T.ι_eq
  · exact T.tdom_le
  · exact T.tdom_new
  · exact T.τ_eq
  · exact T.n_le
  · exact T.m_le
  · exact T.size_le
  · exact T.os
  · exact T.output
  · exact T.form
  · exact fun B hB _ _ => T.keep B hB (only_O B) (only_T0 B)
  · exact fun B hB _ => T.own_keep B hB (only_O B)
  · exact fun B hB _ _ => T.lim_keep B hB (only_O B) (only_T0 B)
  · exact fun B hB x => absurd x (only_T0 B)
  · exact fun B hB x => absurd (T.O_new B hB x) (only_O B)
  · exact fun B hB x => absurd (T.T_new B hB x) (only_T0 B)
  · intro j o ho
    rcases T.objs_new j o ho with ⟨o', x⟩ | x
    · simp [H.only, none'] at x
    · exact .inr x
  · exact T.toks_new
theorem touch_next (h : H) {id : Nat} {ob ob' : Obj} (ho : h.objs id = some ob) : Touch h (.only (upd none' id (some ob)) [] h.n h.m) (.only (upd none' h.n (some ob')) [] (h.n + 1) h.m) { h with objs := upd (fun j => if j = id then none else h.objs j) h.n (some ob'), n := h.n + 1 } ⟨[], [id, h.n], []⟩ where
  sub := ⟨fun j o hj => by obtain ⟨rfl, rfl⟩ := only1 hj; exact ho, fun t ht => by simp [H.only] at ht⟩
  n := rfl
  m := rfl
  eq := by
    refine H.ext (fun j => ?_) rfl (by simp [H.patch, H.only]; exact (List.filter_eq_self.2 fun _ _ => rfl).symm) rfl
    simp only [H.patch, H.only, upd, none']
    by_cases e1 : j = h.n
    · subst e1; simp
    · by_cases e2 : j = id
      · subst e2; simp [e1]
      · have : ¬ (h.n ≤ j ∧ j < h.n + 1) := by omega
        simp [e1, e2, this]
  rd j x := by
    right
    simp only [H.only, upd, none'] at x
    split at x
    · rename_i e; simp [e]
    · simp at x
  wr j a b := by simp only [H.only] at a b; simp; omega
  chg j x hx := by
    simp only [H.only, upd, none'] at x
    split at x
    · rename_i e; subst e; simp at hx
    · simp at x
  tk t x := by simp [H.only] at x
  tn t x := by simp [H.only] at x
  le := by simp [H.only]
  lem := Nat.le_refl _
theorem appK_loc {c : Call} {zs zx : Operand} {ys yx : Opd} {T U e : TypeId} {d : TypeDesc} {i : TypeInfo} {id len : Nat} {cap : Option Nat} {cs els : List AV} (hop : o.op = .call c) (hc : c.callee = .builtin .append) (ha : c.args.toList = [zs, zx]) (hta : c.argTypes.toList = [T, U])
    (hT : P.underlying T = some (.slice e)) (hU : P.underlying U = some d) (hd : (∃ e', d = .slice e') ∨ d = .string) (hi : P.info? e = some i) (hz : i.zero.any (fun z => z.cells.size == i.size) = true) (hsz : 0 < i.size)
    (hys : opd P T zs = some ys) (hyx : opd P U zx = some yx) (hs : ev t ys = .tsl i.size id 0 len cap) (ho : h.objs id = some (.cells cs)) (hcl : cs.length = len * i.size) (hx : ∃ s' c', ev t yx = .sl s' els c' ∧ s' = i.size) (hsh : els.all shaped = true)
    (hb : (len + els.length) * i.bytes ≤ 140737488355328) (hlen : len + els.length < 4611686018427387904) :
    Loc P o t h (.tsl i.size h.n 0 (len + els.length) none) { h with objs := upd (fun j => if j = id then none else h.objs j) h.n (some (.cells (cs ++ els.flatMap cellsOf))), n := h.n + 1 } ⟨[], [id, h.n], []⟩ := by
  have ha' : c.args = #[zs, zx] := by rw [← Array.toArray_toList (xs := c.args), ha]
  have hta' : c.argTypes = #[T, U] := by rw [← Array.toArray_toList (xs := c.argTypes), hta]
  obtain ⟨z, hz1, hz2⟩ : ∃ z, i.zero = some z ∧ z.cells.size = i.size := by
    cases hzz : i.zero with
    | none => rw [hzz] at hz; simp at hz
    | some z => rw [hzz] at hz; exact ⟨z, rfl, by simpa using hz⟩
  refine ⟨_, _, touch_next h ho, fun G w a ht R F => ?_⟩
  have r1 := opd_rel hys ht
  have r2 := opd_rel hyx ht
  rw [hs] at r1
  obtain ⟨s', c', hx, hs'⟩ := hx
  rw [hx] at r2
  obtain ⟨news, n1, n2, n3⟩ := src_slice (P := P) (.inl hs') r2
  have hnl := n2.length
  have hnr := rels_of_elems n2 hsh
  have hnrl := hnr.length
  have hdn : ¬ G.dom h.n := F.1 h.n (by simp [H.only]) (by simp [H.only])
  have hme : (H.only (upd none' id (some (.cells cs))) [] h.n h.m).objs id = some (.cells cs) := by simp [H.only, upd]
  obtain ⟨d1, d2, d3, -⟩ := R.obj id _ hme
  obtain ⟨vs, rest, T0, fr, hg, hvs, hfr, hone⟩ := obj_cells R hme
  have hvl := hvs.length
  have hmul : (len + els.length) * i.size = len * i.size + els.length * i.size := Nat.add_mul _ _ _
  have fin : ∀ v w' G', (execOp a.eval o).run P w = .ok (.value v) w' → Trans G w (.only (upd none' id (some (.cells cs))) [] h.n h.m) G' w' (.only (upd none' h.n (some (.cells (cs ++ els.flatMap cellsOf)))) [] (h.n + 1) h.m) → RepH G' (.only (upd none' h.n (some (.cells (cs ++ els.flatMap cellsOf)))) [] (h.n + 1) h.m) w' → VRel G' w' (.tsl i.size h.n 0 (len + els.length) none) v →
      ∃ nx v w' G', (execOp a.eval o).run P w = .ok nx w' ∧ (nx = .value v ∨ nx = .skip ∧ v = undef) ∧ Trans G w (.only (upd none' id (some (.cells cs))) [] h.n h.m) G' w' (.only (upd none' h.n (some (.cells (cs ++ els.flatMap cellsOf)))) [] (h.n + 1) h.m) ∧ RepH G' (.only (upd none' h.n (some (.cells (cs ++ els.flatMap cellsOf)))) [] (h.n + 1) h.m) w' ∧ VRel G' w' (.tsl i.size h.n 0 (len + els.length) none) v :=
    fun v w' G' a b c d => ⟨_, v, w', G', a, .inl rfl, b, c, d⟩
  have hex : ∀ {va vx r : Value} {w' : World}, a.eval zs = va → (Builtin.append_ #[T, U] o.type #[va, a.eval zx]).run P w = .ok r w' → (execOp a.eval o).run P w = .ok (.value r) w' := by
    intro va vx r w' h1 h2
    simp [execOp, hop, resolve, hc, ha', hta', invoke, builtin, h1, h2]
  simp only [VRel] at r1
  obtain ⟨-, ⟨C, c1, T1, fr1, hv, ⟨hC, hC2⟩, -, hg1, hroom⟩ | ⟨rfl, ⟨a0, hv⟩, -⟩⟩ := r1
  · have hc1 : c1.size = vs.length + rest.length := by rw [hg] at hg1; cases hg1; simp
    by_cases hfit : len + els.length ≤ C
    · have hCs : (len + els.length) * i.size ≤ C * i.size := Nat.mul_le_mul_right _ hfit
      obtain ⟨w', G', q1, q2, q3, q4, q5, c', T', fr', q6, q7⟩ := store_tail (P := P) R hdn hnr n3 hg1 (by omega)
      have hst : (storeCells ((⟨G.ι id, 0, none⟩ : Addr).add (len * i.size)) news).run P w = .ok () w' := by
        have e : (⟨G.ι id, 0, none⟩ : Addr).add (len * i.size) = ⟨G.ι id, cs.length, none⟩ := by rw [add_plain, hcl, Nat.zero_add]
        rw [e]; exact q1
      refine fin _ w' G' (hex (vx := .nilIface) hv (run_append_fits (ty := o.type) hT hU hd hi n1 hfit hst)) q2 q3 ?_
      unfold VRel
      refine ⟨q4, .inl ⟨C, c', T', fr', by rw [q5], ⟨hfit, hC2⟩, (fun _ h => by cases h), by rw [q5]; exact q6, by omega⟩⟩
    · have hsrc : Src P w i.size (.slice (some ⟨G.ι id, 0, none⟩) len C) len vs := by
        refine ⟨by simp [Builtin.lenOf], fun w' hw => ?_⟩
        have := run_loadCells_list (P := P) w' ⟨G.ι id, 0, none⟩ vs (fun j u hu => by
          rw [add_plain, cell_of_heap hw]
          unfold World.cell?
          simp only [hg]
          have hj := (List.getElem?_eq_some_iff.1 hu).1
          simp [List.getElem?_append_left hj, hu])
        simp only [Builtin.firstCells]
        rw [← hcl, ← hvl]; exact this
      obtain ⟨w', C', rest', e1, e2, e3, e4⟩ := run_append_grows (ty := o.type) hT hU hd hi hz1 hz2 hsz n1 hsrc hfit hC hb hlen
      obtain ⟨G', T2, R2, V⟩ := new_tsl (m := h.m) (sz := i.size) (cs := cs ++ els.flatMap cellsOf) e2 (hvs.append hnr) (fun u hu => by
        rcases List.mem_append.1 hu with h | h
        · exact hone u h
        · exact n3 u h) hdn e3 (by simp only [List.length_append]; omega)
      exact fin _ w' G' (hex (vx := .nilIface) hv e1) T2.weak1 R2 V
  · by_cases hk : els = []
    · subst hk
      have hnn : news = [] := by simpa [VElems] using n2
      subst hnn
      have hcs0 : cs = [] := by
        cases cs with
        | nil => rfl
        | cons x l => simp at hcl
      subst hcs0
      obtain ⟨w', G', q1, q2, q3, q4, q5, -⟩ := store_tail (P := P) (xs := []) (us := []) R hdn .nil (by simp) hg (by simp)
      have hw' : w' = w := by simpa [storeCells] using q1.symm
      subst hw'
      refine fin _ w' G' (hex (vx := .nilIface) hv (run_append_fits (ty := o.type) hT hU hd hi n1 (Nat.le_refl _) (w' := w') (by cases a0 <;> rfl))) q2 q3 ?_
      unfold VRel
      exact ⟨q4, .inr ⟨rfl, ⟨a0, rfl⟩, fun _ h => by cases h⟩⟩
    · have hpos : 0 < els.length := List.length_pos_iff.2 hk
      have hcs0 : cs = [] := by
        cases cs with
        | nil => rfl
        | cons x l => simp at hcl
      subst hcs0
      obtain ⟨w', C', rest', e1, e2, e3, e4⟩ := run_append_grows (ty := o.type) hT hU hd hi hz1 hz2 hsz n1 (src_none (some a0)) (by omega) (Nat.le_refl _) (by simpa using hb) (by simpa using hlen)
      rw [List.nil_append] at e2
      obtain ⟨G', T2, R2, V⟩ := new_tsl (m := h.m) (sz := i.size) e2 hnr n3 hdn e3 (by omega)
      exact fin _ w' G' (hex (vx := .nilIface) hv e1) T2.weak1 R2 V
def aopK (ρ : Opd → AV) (h : H) : AOp → Option (AV × H × Ent)
  | .app false sz bytes s x => match ρ s, ρ x with
    | .tsl z id 0 len _, .sl s' els _ => match h.objs id with
      | some (.cells cs) => if z = sz ∧ s' = sz ∧ cs.length = len * sz ∧ els.all shaped = true ∧ (len + els.length) * bytes ≤ 140737488355328 ∧ len + els.length < 4611686018427387904 then
          some (.tsl sz h.n 0 (len + els.length) none, { h with objs := upd (fun j => if j = id then none else h.objs j) h.n (some (.cells (cs ++ els.flatMap cellsOf))), n := h.n + 1 }, ⟨[], [id, h.n], []⟩) else none
      | _ => none
    | _, _ => none
  | _ => none
theorem aopK_loc {op : AOp} {x : AV} {h' : H} (hc : cOp P o = some op) (hx : aopK (ev t) h op = some (x, h', en)) : Loc P o t h x h' en := by
  cases op <;> (try (simp [aopK] at hx; done))
  case app str sz bytes s x0 =>
    cases str <;> (try (simp [aopK] at hx; done))
    obtain ⟨c, zs, zx, T, U, e, e', i, hop, hcal, ha, hta, hys, hyx, hT, hU, hi, hs1, hs2, rfl, rfl⟩ := cOp_app hc
    simp only [aopK] at hx
    split at hx
    · split at hx
      · split at hx
        · rename_i hq
          obtain ⟨q1, q2, q3, q4, q5, q6⟩ := hq
          subst q1
          cases hx
          exact appK_loc hop hcal ha hta hT hU (.inl ⟨_, rfl⟩) hi hs2 hs1 hys hyx ‹_› ‹_› q3 ⟨_, _, ‹_›, q2⟩ q4 q5 q6
        · cases hx
      · cases hx
    · cases hx
theorem aopK_congr {ρ ρ' : Opd → AV} {op : AOp} (hx : ∀ y ∈ opdsOf op, ρ y = ρ' y) : aopK ρ h op = aopK ρ' h op := by
  cases op <;> (try rfl)
  case app str sz bytes s x0 =>
    cases str
    · simp only [aopK, hx s (by simp [opdsOf]), hx x0 (by simp [opdsOf])]
    · rfl
theorem itrun_opK {ops : Array Oper} {i : Nat} {o : Oper} {it : AItem} {t : Tm} {h h' : H} {x : AV} {en : Ent} (ho : ops[i]? = some o) (hit : cItem P N ops o = some it) (hg : guardOf t it.guard = some true) (hx : aopK (ev t) h it.op = some (x, h', en)) :
    ∃ h1 h1', Touch h h1 h1' h' en ∧ ItRun P ops i o t h1 x h1' := by
  unfold cItem at hit
  split at hit
  · rename_i op g hop hgd
    split at hit <;> cases hit
    rename_i hcond
    simp only [Bool.and_eq_true] at hcond
    have hop := cOpD_of hop (by rintro rfl; simp [aopK] at hx)
    have hx' : aopK (ev (cutTo (names ops o) t)) h op = some (x, h', en) := by
      rw [aopK_congr (cut_ev hcond.2)]; exact hx
    obtain ⟨h1, h1', tc, loc⟩ := aopK_loc hop hx'
    refine ⟨h1, h1', tc, fun G w a ht R F K Q hK ro => ?_⟩
    obtain ⟨nx, v, w', G', e1, e2, T1, R1, V⟩ := loc G w a (cut_rel ht) R F
    unfold wpOpIn
    rw [ho]
    simp only [guard_wanted hgd ht hg, if_true]
    refine ⟨fun _ _ => trivial, ?_⟩
    rw [Oper.semAt_eq _ _ _ (cOp_plain hop), e1]
    rcases e2 with rfl | ⟨rfl, rfl⟩
    · rw [Oper.uponIn_value]; exact hK G' w' v T1 R1 V
    · rw [Oper.uponIn_skip]; exact hK G' w' undef T1 R1 V
  · cases hit
theorem WpItems.opK {dst : Option Nat} {g : Option (Nat × Bool)} {op : AOp} {its : List AItem} {t : Tm} {h h' : H} {log : List Ent} {en : Ent} {K : Tm → H → List Ent → Prop} {x : AV} (hg : guardOf t g = some true) (hx : aopK (ev t) h op = some (x, h', en)) (ht : touchy op = true)
    (rest : WpItems P N its (putT t dst x) h' (en :: log) K) : WpItems P N (⟨dst, g, op⟩ :: its) t h log K := by
  intro ops i hi hc
  obtain ⟨o, ho, hit, hi', hc'⟩ := items_cons hi hc
  obtain ⟨h1, h1', tc, run⟩ := itrun_opK ho hit hg hx
  obtain ⟨recs, t', hh', ch, hk, hen⟩ := rest ops (i + 1) hi' hc'
  have hdst : dst = o.dst := by
    unfold cItem at hit
    split at hit
    · split at hit <;> cases hit; rfl
    · cases hit
  refine ⟨⟨t, h, h1, h1', h', x, en⟩ :: recs, t', hh', .cons ho rfl rfl tc run (by rw [← hdst]; exact ch), by simpa using hk, ?_⟩
  intro k r it' hr hit' ht'
  cases k with
  | zero =>
    simp at hr hit'; subst hr hit'
    rw [ht] at ht'; cases ht'
  | succ k => simp at hr hit'; exact hen k r it' hr hit' ht'
theorem WpItemsN.opK {dst : Option Nat} {g : Option (Nat × Bool)} {op : AOp} {its : List AItem} {t : Tm} {h h' : H} {en : Ent} {K : Tm → H → Prop} {x : AV} (hg : guardOf t g = some true) (hx : aopK (ev t) h op = some (x, h', en))
    (rest : WpItemsN P N its (putT t dst x) h' K) : WpItemsN P N (⟨dst, g, op⟩ :: its) t h K :=
  WpItemsN.step (it := ⟨dst, g, op⟩) (fun ops i o ho hit => itrun_opK ho hit hg hx) rest
end
end Go.Av
end
section
set_option linter.unusedSimpArgs false
set_option linter.unusedVariables false
set_option maxRecDepth 10000
namespace Go.Av
theorem OLe.refl' (f : Nat → Option Obj) : OLe f f := fun j o h => ⟨o, h, OSub.refl o⟩
end Go.Av
namespace Go.Proofs.Ytobokfclaooloaa.Space
open Go Go.Av Go.Proofs Go.Proofs.Ytobokfclaooloaa.C Go.Proofs.Ytobokfclaooloaa.Batch
def cellsP (o : List Pr) : Av.Obj := .cells (o.flatMap encA)
def pO (o : List Pr) (k : Nat) (f : Nat → Option Av.Obj) : Nat → Option Av.Obj := if o = [] then f else upd f k (some (cellsP o))
def pV (o : List Pr) (k : Nat) : AV := if o = [] then .sl 2 [] (.exact 0) else .tsl 2 k 0 o.length none
theorem pO_upd {o : List Pr} {k n : Nat} {f : Nat → Option Av.Obj} {X : Option Av.Obj} (h : o ≠ [] → k ≠ n) : upd (pO o k f) n X = pO o k (upd f n X) := by
  unfold pO
  split
  · rfl
  · rename_i ho
    have h := h ho
    funext j
    simp only [upd]
    by_cases h1 : j = n
    · subst h1; simp [Ne.symm h]
    · simp [h1]
theorem pO_at {o : List Pr} {k n : Nat} {f : Nat → Option Av.Obj} (h : n ≠ k) : pO o k f n = f n := by
  unfold pO
  split
  · rfl
  · simp [upd, h]
theorem pO_row {o : List Pr} {k : Nat} {f : Nat → Option Av.Obj} (h : o ≠ []) : pO o k f k = some (cellsP o) := by
  unfold pO
  rw [if_neg h]; simp [upd]
theorem pO_le {o : List Pr} {k : Nat} {g : Nat → Option Av.Obj} (h : o ≠ [] → g k = some (cellsP o)) : OLe g (pO o k none') := by
  intro j p hp
  unfold pO at hp
  split at hp
  · simp [none'] at hp
  · rename_i hne
    simp only [upd, none'] at hp
    split at hp
    · rename_i e; subst e; cases hp; exact ⟨_, h hne, OSub.refl _⟩
    · cases hp
theorem pO_le2 {o : List Pr} {k n : Nat} {g : Nat → Option Av.Obj} {X : Av.Obj} (h : o ≠ [] → g k = some (cellsP o)) (hn : g n = some X) : OLe g (pO o k (upd none' n (some X))) := by
  intro j p hp
  unfold pO at hp
  split at hp
  · simp only [upd, none'] at hp
    split at hp
    · rename_i e; subst e; cases hp; exact ⟨_, hn, OSub.refl _⟩
    · cases hp
  · rename_i hne
    simp only [upd, none'] at hp
    split at hp
    · rename_i e; subst e; cases hp; exact ⟨_, h hne, OSub.refl _⟩
    · split at hp
      · rename_i e; subst e; cases hp; exact ⟨_, hn, OSub.refl _⟩
      · cases hp
theorem cells_snoc (o : List Pr) (p : Pr) : o.flatMap encA ++ ([encPr p] : List AV).flatMap cellsOf = (o ++ [p]).flatMap encA := by simp [encA, encPr, cellsOf]
theorem cellsP_len (o : List Pr) : (o.flatMap encA).length = o.length * 2 := rows_len o
set_option maxHeartbeats 4000000 in
theorem pairs_p (l : List It) (sl : SmI l) (hp : (prL l).length ≤ 100000) : PCalls Try.prog 7 [.sl 2 (l.map encI) .any] (.tup [.sl 2 (prs (if okL l then sortedP (prL l) else [])) .any, .int .i64 (if okL l then 0 else 2)]) := by
  refine f7.pcallsK (by simp) (by simp [allPure, isPure, capPure, its_pure]) (by simp [isPure, allPure, capPure, prs_pure]) ?_
  unfold c7
  have hn := sl.n
  have hil : (l.map encI).length = l.length := by simp
  have bad : okL l = false → VSub (.tup [.sl 2 [] (.exact 0), .int .i64 2]) (.tup [.sl 2 (prs (if okL l then sortedP (prL l) else [])) .any, .int .i64 (if okL l then 0 else 2)]) := fun h => by
    rw [h]; exact VSub.tup (VSubs.cons VSub.cap (VSubs.refl _))
  repeat (first
    | ((first | apply Wp.seqItemsR | apply Wp.itemsR); (· simp only [go_sem, reduceIte, Nat.reduceEqDiff, Nat.reduceAdd, bx, ax, if_true, if_false, Nat.reduceMul, Nat.reduceLeDiff, hil]; exact rfl))
    | (refine WpItems.nil ⟨?_, ?_⟩; (· first | trivial | simp [pairsQ, pairsOk, apart, ent0]))
    | (apply Wp.cond_lit; (· simp only [go_sem, reduceIte, Nat.reduceEqDiff, Nat.reduceAdd, bx, ax, if_true, if_false, Nat.reduceMul, Nat.reduceLeDiff, hil]; exact rfl); (· rfl))
    | refine Wp.skip ?_
    | refine Wp.label ?_
    | refine Wp.block ?_
    | refine Wp.exit ?_
    | refine Wp.seq ?_)
  refine Wp.loopH (β := Nat × Nat × Nat) [0, 9, 10] (by simp only [go_sem, reduceIte, Nat.reduceEqDiff, List.map]; exact rfl) (fun b => [(4, pV (prL (l.take b.1)) b.2.1), (11, .int .i64 (b.1 : Nat))]) (fun b => ⟨pO (prL (l.take b.1)) b.2.1 none', b.2.2, [], 0⟩) (fun b => b.1 ≤ l.length ∧ (prL (l.take b.1) ≠ [] → b.2.1 < b.2.2) ∧ ∀ i, i < b.1 → itOk l i = true) (fun b => l.length - b.1) (0, 0, 0) ⟨Nat.zero_le _, fun h => absurd rfl h, fun i h => absurd h (by simp)⟩ ?_ ?_ ?_
  · simp [pO, prL, H0, H.only]
  · simp only [AllSub, go_sem, reduceIte, Nat.reduceEqDiff, Nat.reduceAdd, bx]; and_intros <;> first | exact trivial | exact VSub.refl _ | exact VSub.any _ | exact VSub.of_eq (by simp [pV, prL]) | (refine VSub.int ?_; omega)
  rintro ⟨i, k, n⟩ ⟨hi, hk, hs⟩
  simp only at hi hk hs ⊢
  by_cases hc : i < l.length
  · have g1 : decide (((i : Nat) : Int) < ((l.length : Nat) : Int)) = true := decide_eq_true (by omega)
    have h2 : (0 : Int) ≤ ((i : Nat) : Int) := by omega
    have h3 : ((i : Nat) : Int) < ((l.length : Nat) : Int) := by omega
    have e1 : IntKind.i64.wrap (((i : Nat) : Int) + 1) = ((i + 1 : Nat) : Int) := by rw [IntWalk.i64_in _ (by omega)]; omega
    have hat := enc_at encI l i .any hc
    obtain ⟨lk, lv⟩ := sl.at hc
    have no : itOk l i = false → okL l = false := fun h => all_no hc h
    have htk := prL_take hc
    have hle := prL_le l (i + 1)
    rw [htk, List.length_append] at hle
    have hpi : (prI (l.getD i default)).length = (l.getD i default).2.length := by simp [prI]
    have hmy := bmay_p (l.getD i default) (by omega)
    cases hm : mayI (l.getD i default) with
    | false =>
      rw [hm] at hmy
      have nm := no (itOk_may hm)
      generalize l.getD i default = x at *
      simp only [encI, vAV] at hmy
      repeat (first
        | ((first | apply Wp.seqItemsR | apply Wp.itemsR | ((first
            | (refine WpItems.pcall ?_ ?_ (hmy) ?_; (· simp only [go_sem, reduceIte, Nat.reduceEqDiff, Nat.reduceAdd, bx]); (· simp only [go_sem, reduceIte, Nat.reduceEqDiff, Nat.reduceAdd, bx, List.map]; first | exact VSubs.refl _ | (repeat (first | exact VSubs.nil | refine VSubs.cons (by first | exact VSub.refl _ | assumption | exact VSub.cap | exact VSub.any _) ?_))))); apply WpItems.evR)); (· simp only [go_sem, reduceIte, Nat.reduceEqDiff, Nat.reduceAdd, bx, ax, if_true, if_false, Nat.reduceMul, Nat.reduceLeDiff, hil, g1, h2, h3, hat, encI, vAV, Bool.not_false]; exact rfl))
        | (refine WpItems.nil ⟨?_, ?_⟩; (· first | trivial | simp [pairsQ, pairsOk, apart, ent0]))
        | (apply Wp.cond_lit; (· simp only [go_sem, reduceIte, Nat.reduceEqDiff, Nat.reduceAdd, bx, ax, if_true, if_false, Nat.reduceMul, Nat.reduceLeDiff, hil, g1, h2, h3, hat, encI, vAV, Bool.not_false]; exact rfl); (· rfl))
        | refine Wp.skip ?_
        | refine Wp.label ?_
        | refine Wp.block ?_
        | refine Wp.exit ?_
        | refine Wp.seq ?_)
      refine Wp.ret ⟨trivial, _, rfl, ?_⟩
      simp only [go_sem, reduceIte, Nat.reduceEqDiff, Nat.reduceAdd, bx]
      exact .inl (bad nm)
    | true =>
      rw [hm] at hmy
      by_cases hz : i = 0
      · have g2 : decide ((0 : Int) < (i : Int)) = false := decide_eq_false (by omega)
        have hit : itOk l i = true := (itOk_zero hz).trans hm
        obtain ⟨m1, m2, m3, m4⟩ := mayI_iff.1 hm
        generalize l.getD i default = x at *
        simp only [encI, vAV] at hmy
        repeat (first
          | ((first | apply Wp.seqItemsR | apply Wp.itemsR | ((first
              | (refine WpItems.pcall ?_ ?_ (hmy) ?_; (· simp only [go_sem, reduceIte, Nat.reduceEqDiff, Nat.reduceAdd, bx]); (· simp only [go_sem, reduceIte, Nat.reduceEqDiff, Nat.reduceAdd, bx, List.map]; first | exact VSubs.refl _ | (repeat (first | exact VSubs.nil | refine VSubs.cons (by first | exact VSub.refl _ | assumption | exact VSub.cap | exact VSub.any _) ?_))))); apply WpItems.evR)); (· simp only [go_sem, reduceIte, Nat.reduceEqDiff, Nat.reduceAdd, bx, ax, if_true, if_false, Nat.reduceMul, Nat.reduceLeDiff, hil, g1, h2, h3, hat, encI, vAV, List.length_map, Bool.not_true, g2]; exact rfl))
          | (refine WpItems.nil ⟨?_, ?_⟩; (· first | trivial | simp [pairsQ, pairsOk, apart, ent0]))
          | (apply Wp.cond_lit; (· simp only [go_sem, reduceIte, Nat.reduceEqDiff, Nat.reduceAdd, bx, ax, if_true, if_false, Nat.reduceMul, Nat.reduceLeDiff, hil, g1, h2, h3, hat, encI, vAV, List.length_map, Bool.not_true, g2]; exact rfl); (· rfl))
          | refine Wp.skip ?_
          | refine Wp.label ?_
          | refine Wp.block ?_
          | refine Wp.exit ?_
          | refine Wp.seq ?_)
        rw [pO_upd (fun h => Nat.ne_of_lt (hk h)), pO_upd (fun h => Nat.ne_of_lt (hk h)), upd_upd']
        refine Wp.loopH (β := Nat × Nat × Nat) [0, 6, 9, 10, 11, 35, 36] (by simp only [go_sem, reduceIte, Nat.reduceEqDiff, List.map]; exact rfl) (fun b => [(4, pV (prL (l.take i) ++ (x.2.take b.1).map (prV x.1)) b.2.1), (37, .int .i64 (b.1 : Nat))]) (fun b => ⟨pO (prL (l.take i) ++ (x.2.take b.1).map (prV x.1)) b.2.1 (upd none' n (some (.cells [.str x.1, .sl 3 (x.2.map encV) .any]))), b.2.2, [], 0⟩) (fun b => b.1 ≤ x.2.length ∧ n < b.2.2 ∧ (prL (l.take i) ++ (x.2.take b.1).map (prV x.1) ≠ [] → b.2.1 < b.2.2 ∧ b.2.1 ≠ n)) (fun b => x.2.length - b.1) (0, k, n + 1) ⟨Nat.zero_le _, by simp only; omega, fun h => ?_⟩ ?_ ?_ ?_
        · simp only [List.take_zero, List.map_nil, List.append_nil] at h
          have := hk h
          exact ⟨by simp only; omega, by simp only; omega⟩
        · simp
        · simp only [AllSub, go_sem, reduceIte, Nat.reduceEqDiff, Nat.reduceAdd, bx]; and_intros <;> first | exact trivial | exact VSub.refl _ | exact VSub.any _ | exact VSub.of_eq (by simp) | (refine VSub.int ?_; omega)
        rintro ⟨j, k', n'⟩ ⟨hj, hn', hk'⟩
        simp only at hj hn' hk' ⊢
        have hol : (prL (l.take i) ++ (x.2.take j).map (prV x.1)).length ≤ 100000 := by
          simp only [List.length_append, List.length_map, List.length_take]; omega
        by_cases hjc : j < x.2.length
        · have kg1 : decide (((j : Nat) : Int) < ((x.2.length : Nat) : Int)) = true := decide_eq_true (by omega)
          have kh2 : (0 : Int) ≤ ((j : Nat) : Int) := by omega
          have kh3 : ((j : Nat) : Int) < ((x.2.length : Nat) : Int) := by omega
          have ke1 : IntKind.i64.wrap (((j : Nat) : Int) + 1) = ((j + 1 : Nat) : Int) := by rw [IntWalk.i64_in _ (by omega)]; omega
          have kat := enc_at encV x.2 j .any hjc
          have hv := okV_iff.1 (chB_ok m3 hjc)
          have htv : x.2.take (j + 1) = x.2.take j ++ [x.2.getD j default] := Av.take_snoc default hjc
          have hpr := pair_p x.1 (by omega) (x.2.getD j default) (by omega) hv.2.1 (by omega)
          have hsn : prL (l.take i) ++ (x.2.take (j + 1)).map (prV x.1) = (prL (l.take i) ++ (x.2.take j).map (prV x.1)) ++ [prV x.1 (x.2.getD j default)] := by
            rw [htv, List.map_append, List.append_assoc]; rfl
          generalize prL (l.take i) ++ (x.2.take j).map (prV x.1) = o at *
          generalize x.2.getD j default = v at *
          simp only [encV] at hpr
          have n1 : ¬ (n = n') := by omega
          have n2 : ¬ (n = n' + 1) := by omega
          have n3 : ¬ (n' = n' + 1) := by omega
          have hFn : pO o k' (upd none' n (some (Av.Obj.cells [.str x.1, .sl 3 (x.2.map encV) .any]))) n = some (Av.Obj.cells [.str x.1, .sl 3 (x.2.map encV) .any]) := by
            by_cases ho : o = []
            · rw [pO, if_pos ho]; simp [upd]
            · rw [pO_at (fun e => (hk' ho).2 e.symm)]; simp [upd]
          have hFk : o ≠ [] → pO o k' (upd none' n (some (Av.Obj.cells [.str x.1, .sl 3 (x.2.map encV) .any]))) k' = some (cellsP o) := pO_row
          generalize pO o k' (upd none' n (some (Av.Obj.cells [.str x.1, .sl 3 (x.2.map encV) .any]))) = F at *
          refine Wp.seqReg (by simp only [go_sem, reduceIte, Nat.reduceEqDiff, Nat.reduceAdd, bx, kg1]; exact rfl) (by trivial) ?_
          refine Wp.seq ?_
          refine Wp.cond_true (by simp only [go_sem, reduceIte, Nat.reduceEqDiff, Nat.reduceAdd, bx]) ?_
          refine Wp.skip ?_
          refine Wp.seq ?_
          refine Wp.block ?_
          refine Wp.seqReg (by simp only [go_sem, reduceIte, Nat.reduceEqDiff, Nat.reduceAdd, bx, kh2, kh3, kat, List.length_map, encV, and_self, if_true, Int.toNat_natCast]; exact rfl) (by trivial) ?_
          by_cases ho : o = []
          · subst ho
            have hv0 : pV [] k' = .sl 2 [] (.exact 0) := rfl
            rw [hv0]
            refine Wp.reg ?_
            refine WpItems.part 4 (by simp only [go_sem, reduceIte, Nat.reduceEqDiff, Nat.reduceAdd, bx, ax, if_true, if_false, Nat.reduceMul, Nat.reduceLeDiff, n1, hFn]; exact rfl) ?_
            simp only [List.drop_succ_cons, List.drop_zero, List.drop_nil]
            refine WpItems.pcall (by simp only [go_sem, reduceIte, Nat.reduceEqDiff, Nat.reduceAdd, bx]) (by simp only [go_sem, reduceIte, Nat.reduceEqDiff, Nat.reduceAdd, bx, List.map]; exact VSubs.refl _) (hpr) ?_
            refine WpItems.part 1 (by simp only [go_sem, reduceIte, Nat.reduceEqDiff, Nat.reduceAdd, bx, ax, encPr, if_true, if_false, Nat.reduceMul, Nat.reduceLeDiff]; exact rfl) ?_
            simp only [List.drop_succ_cons, List.drop_zero, List.drop_nil]
            refine WpItems.opT (by simp only [go_sem, reduceIte, Nat.reduceEqDiff, Nat.reduceAdd, bx]) (by simp only [aopT, go_sem, reduceIte, Nat.reduceEqDiff, Nat.reduceAdd, bx, encPr, List.all_cons, List.all_nil, List.length_cons, List.length_nil, Nat.reduceMul, Nat.reduceLeDiff, Nat.reduceLT, Nat.zero_lt_succ, and_self, if_true, decide_true, Bool.and_self]; exact rfl) rfl ?_
            refine WpItems.part 1 (by simp only [go_sem, reduceIte, Nat.reduceEqDiff, Nat.reduceAdd, bx]; exact rfl) ?_
            simp only [List.drop_succ_cons, List.drop_zero, List.drop_nil]
            refine WpItems.nil ⟨by simp [pairsQ, pairsOk, apart, ent0], ?_⟩
            refine Wp.reg1 (by simp only [go_sem, reduceIte, Nat.reduceEqDiff, Nat.reduceAdd, bx, ke1]; exact rfl) (by trivial) ?_
            refine ⟨(j + 1, n' + 1, n' + 2), ⟨by simp only; omega, by simp only; omega, fun _ => ⟨by simp only; omega, by simp only; omega⟩⟩, by simp only; omega, ?_⟩
            simp only []
            rw [hsn]
            refine StLe.of (tm_le ?_) (pO_le2 (fun _ => ?_) ?_) (fun _ h => h) (Nat.le_refl _) (Nat.le_refl _)
            · simp only [pV, List.nil_append, List.cons_ne_nil, if_false]
              simp only [AllSub, go_sem, reduceIte, Nat.reduceEqDiff, Nat.reduceAdd, bx]; and_intros <;> first | exact trivial | exact VSub.refl _ | exact VSub.any _ | (refine VSub.int ?_; omega)
            · simp [upd, cellsP, encA, prV, cellsOf]
            · simp only [upd, n1, n2, if_false]; exact hFn
          · have hv0 : pV o k' = .tsl 2 k' 0 o.length none := by rw [pV, if_neg ho]
            obtain ⟨hk1, hk2⟩ := hk' ho
            have hFk := hFk ho
            have n4 : ¬ (k' = n') := by omega
            have n5 : ¬ (n = k') := by omega
            have hcl := cellsP_len o
            have r1 : (o.length + 1) * 32 ≤ 140737488355328 := by omega
            have r2 : o.length + 1 < 4611686018427387904 := by omega
            have hcs := cells_snoc o (prV x.1 v)
            simp only [encPr] at hcs
            rw [hv0]
            refine Wp.reg ?_
            refine WpItems.part 4 (by simp only [go_sem, reduceIte, Nat.reduceEqDiff, Nat.reduceAdd, bx, ax, if_true, if_false, Nat.reduceMul, Nat.reduceLeDiff, n1, hFn]; exact rfl) ?_
            simp only [List.drop_succ_cons, List.drop_zero, List.drop_nil]
            refine WpItems.pcall (by simp only [go_sem, reduceIte, Nat.reduceEqDiff, Nat.reduceAdd, bx]) (by simp only [go_sem, reduceIte, Nat.reduceEqDiff, Nat.reduceAdd, bx, List.map]; exact VSubs.refl _) (hpr) ?_
            refine WpItems.part 1 (by simp only [go_sem, reduceIte, Nat.reduceEqDiff, Nat.reduceAdd, bx, ax, encPr, if_true, if_false, Nat.reduceMul, Nat.reduceLeDiff]; exact rfl) ?_
            simp only [List.drop_succ_cons, List.drop_zero, List.drop_nil]
            refine WpItems.opK (by simp only [go_sem, reduceIte, Nat.reduceEqDiff, Nat.reduceAdd, bx]) (by simp only [aopK, go_sem, reduceIte, Nat.reduceEqDiff, Nat.reduceAdd, bx, encPr, List.all_cons, List.all_nil, List.length_cons, List.length_nil, n4, hFk, cellsP, hcl, r1, r2, and_self, if_true, if_false, decide_true, Bool.and_self, hcs]; exact rfl) rfl ?_
            refine WpItems.part 1 (by simp only [go_sem, reduceIte, Nat.reduceEqDiff, Nat.reduceAdd, bx]; exact rfl) ?_
            simp only [List.drop_succ_cons, List.drop_zero, List.drop_nil]
            refine WpItems.nil ⟨by simp [pairsQ, pairsOk, apart, ent0], ?_⟩
            refine Wp.reg1 (by simp only [go_sem, reduceIte, Nat.reduceEqDiff, Nat.reduceAdd, bx, ke1]; exact rfl) (by trivial) ?_
            refine ⟨(j + 1, n' + 1, n' + 2), ⟨by simp only; omega, by simp only; omega, fun _ => ⟨by simp only; omega, by simp only; omega⟩⟩, by simp only; omega, ?_⟩
            simp only []
            rw [hsn]
            refine StLe.of (tm_le ?_) (pO_le2 (fun _ => ?_) ?_) (fun _ h => h) (Nat.le_refl _) (Nat.le_refl _)
            · have : o ++ [prV x.1 v] ≠ [] := by simp
              simp only [pV, this, if_false, List.length_append, List.length_cons, List.length_nil]
              simp only [AllSub, go_sem, reduceIte, Nat.reduceEqDiff, Nat.reduceAdd, bx]; and_intros <;> first | exact trivial | exact VSub.refl _ | exact VSub.any _ | (refine VSub.int ?_; omega)
            · simp [upd, cellsP, encA]
            · simp only [upd, n1, n2, n5, if_false]; exact hFn
        · obtain rfl : j = x.2.length := by omega
          have kg1 : decide ((x.2.length : Int) < (x.2.length : Int)) = false := decide_eq_false (by omega)
          rw [List.take_length] at hk' hol ⊢
          repeat (first
            | ((first | apply Wp.seqItemsR | apply Wp.itemsR); (· simp only [go_sem, reduceIte, Nat.reduceEqDiff, Nat.reduceAdd, bx, ax, if_true, if_false, Nat.reduceMul, Nat.reduceLeDiff, kg1, e1]; exact rfl))
            | (refine WpItems.nil ⟨?_, ?_⟩; (· first | trivial | simp [pairsQ, pairsOk, apart, ent0]))
            | (apply Wp.cond_lit; (· simp only [go_sem, reduceIte, Nat.reduceEqDiff, Nat.reduceAdd, bx, ax, if_true, if_false, Nat.reduceMul, Nat.reduceLeDiff, kg1, e1]; exact rfl); (· rfl))
            | refine Wp.skip ?_
            | refine Wp.label ?_
            | refine Wp.block ?_
            | refine Wp.exit ?_
            | refine Wp.seq ?_)
          refine ⟨(i + 1, k', n'), ⟨by simp only; omega, fun h => ?_, all_step hs hit⟩, by simp only; omega, ?_⟩
          · simp only [htk] at h
            exact (hk' h).1
          · rw [htk]
            refine StLe.of (tm_le ?_) (pO_le fun h => pO_row h) (fun _ h => h) (Nat.le_refl _) (Nat.le_refl _)
            simp only [AllSub, go_sem, reduceIte, Nat.reduceEqDiff, Nat.reduceAdd, bx]; and_intros <;> first | exact trivial | exact VSub.refl _ | exact VSub.any _ | (refine VSub.int ?_; omega)
      · have g2 : decide ((0 : Int) < (i : Int)) = true := decide_eq_true (by omega)
        have e2 : IntKind.i64.wrap ((i : Int) - 1) = ((i - 1 : Nat) : Int) := by rw [IntWalk.i64_in _ (by omega)]; omega
        have h4 : (0 : Int) ≤ ((i - 1 : Nat) : Int) := by omega
        have h5 : ((i - 1 : Nat) : Int) < (l.length : Int) := by omega
        have hat2 := enc_at encI l (i - 1) .any (by omega)
        cases hb : Op.bytesLess (l.getD (i - 1) default).1 (l.getD i default).1 with
        | false =>
          have hit := no ((itOk_pos hz).trans (by rw [hb, Bool.and_false]))
          generalize l.getD i default = x at *
          generalize l.getD (i - 1) default = y at *
          simp only [encI, vAV] at hmy
          repeat (first
            | ((first | apply Wp.seqItemsR | apply Wp.itemsR | ((first
                | (refine WpItems.pcall ?_ ?_ (hmy) ?_; (· simp only [go_sem, reduceIte, Nat.reduceEqDiff, Nat.reduceAdd, bx]); (· simp only [go_sem, reduceIte, Nat.reduceEqDiff, Nat.reduceAdd, bx, List.map]; first | exact VSubs.refl _ | (repeat (first | exact VSubs.nil | refine VSubs.cons (by first | exact VSub.refl _ | assumption | exact VSub.cap | exact VSub.any _) ?_))))); apply WpItems.evR)); (· simp only [go_sem, reduceIte, Nat.reduceEqDiff, Nat.reduceAdd, bx, ax, if_true, if_false, Nat.reduceMul, Nat.reduceLeDiff, hil, g1, g2, h2, h3, e2, h4, h5, hat, hat2, hb, encI, vAV, Bool.not_true, Bool.not_false]; exact rfl))
            | (refine WpItems.nil ⟨?_, ?_⟩; (· first | trivial | simp [pairsQ, pairsOk, apart, ent0]))
            | (apply Wp.cond_lit; (· simp only [go_sem, reduceIte, Nat.reduceEqDiff, Nat.reduceAdd, bx, ax, if_true, if_false, Nat.reduceMul, Nat.reduceLeDiff, hil, g1, g2, h2, h3, e2, h4, h5, hat, hat2, hb, encI, vAV, Bool.not_true, Bool.not_false]; exact rfl); (· rfl))
            | refine Wp.skip ?_
            | refine Wp.label ?_
            | refine Wp.block ?_
            | refine Wp.exit ?_
            | refine Wp.seq ?_)
          refine Wp.ret ⟨trivial, _, rfl, ?_⟩
          simp only [go_sem, reduceIte, Nat.reduceEqDiff, Nat.reduceAdd, bx]
          exact .inl (bad hit)
        | true =>
          have hit : itOk l i = true := (itOk_pos hz).trans (by rw [hb, hm]; rfl)
          generalize l.getD (i - 1) default = y at *
          obtain ⟨m1, m2, m3, m4⟩ := mayI_iff.1 hm
          generalize l.getD i default = x at *
          simp only [encI, vAV] at hmy
          repeat (first
            | ((first | apply Wp.seqItemsR | apply Wp.itemsR | ((first
                | (refine WpItems.pcall ?_ ?_ (hmy) ?_; (· simp only [go_sem, reduceIte, Nat.reduceEqDiff, Nat.reduceAdd, bx]); (· simp only [go_sem, reduceIte, Nat.reduceEqDiff, Nat.reduceAdd, bx, List.map]; first | exact VSubs.refl _ | (repeat (first | exact VSubs.nil | refine VSubs.cons (by first | exact VSub.refl _ | assumption | exact VSub.cap | exact VSub.any _) ?_))))); apply WpItems.evR)); (· simp only [go_sem, reduceIte, Nat.reduceEqDiff, Nat.reduceAdd, bx, ax, if_true, if_false, Nat.reduceMul, Nat.reduceLeDiff, hil, g1, h2, h3, hat, encI, vAV, List.length_map, Bool.not_true, g2, e2, h4, h5, hat2, hb]; exact rfl))
            | (refine WpItems.nil ⟨?_, ?_⟩; (· first | trivial | simp [pairsQ, pairsOk, apart, ent0]))
            | (apply Wp.cond_lit; (· simp only [go_sem, reduceIte, Nat.reduceEqDiff, Nat.reduceAdd, bx, ax, if_true, if_false, Nat.reduceMul, Nat.reduceLeDiff, hil, g1, h2, h3, hat, encI, vAV, List.length_map, Bool.not_true, g2, e2, h4, h5, hat2, hb]; exact rfl); (· rfl))
            | refine Wp.skip ?_
            | refine Wp.label ?_
            | refine Wp.block ?_
            | refine Wp.exit ?_
            | refine Wp.seq ?_)
          rw [pO_upd (fun h => Nat.ne_of_lt (hk h)), pO_upd (fun h => Nat.ne_of_lt (hk h)), upd_upd']
          refine Wp.loopH (β := Nat × Nat × Nat) [0, 6, 9, 10, 11, 35, 36] (by simp only [go_sem, reduceIte, Nat.reduceEqDiff, List.map]; exact rfl) (fun b => [(4, pV (prL (l.take i) ++ (x.2.take b.1).map (prV x.1)) b.2.1), (37, .int .i64 (b.1 : Nat))]) (fun b => ⟨pO (prL (l.take i) ++ (x.2.take b.1).map (prV x.1)) b.2.1 (upd none' n (some (.cells [.str x.1, .sl 3 (x.2.map encV) .any]))), b.2.2, [], 0⟩) (fun b => b.1 ≤ x.2.length ∧ n < b.2.2 ∧ (prL (l.take i) ++ (x.2.take b.1).map (prV x.1) ≠ [] → b.2.1 < b.2.2 ∧ b.2.1 ≠ n)) (fun b => x.2.length - b.1) (0, k, n + 1) ⟨Nat.zero_le _, by simp only; omega, fun h => ?_⟩ ?_ ?_ ?_
          · simp only [List.take_zero, List.map_nil, List.append_nil] at h
            have := hk h
            exact ⟨by simp only; omega, by simp only; omega⟩
          · simp
          · simp only [AllSub, go_sem, reduceIte, Nat.reduceEqDiff, Nat.reduceAdd, bx]; and_intros <;> first | exact trivial | exact VSub.refl _ | exact VSub.any _ | exact VSub.of_eq (by simp) | (refine VSub.int ?_; omega)
          rintro ⟨j, k', n'⟩ ⟨hj, hn', hk'⟩
          simp only at hj hn' hk' ⊢
          have hol : (prL (l.take i) ++ (x.2.take j).map (prV x.1)).length ≤ 100000 := by
            simp only [List.length_append, List.length_map, List.length_take]; omega
          by_cases hjc : j < x.2.length
          · have kg1 : decide (((j : Nat) : Int) < ((x.2.length : Nat) : Int)) = true := decide_eq_true (by omega)
            have kh2 : (0 : Int) ≤ ((j : Nat) : Int) := by omega
            have kh3 : ((j : Nat) : Int) < ((x.2.length : Nat) : Int) := by omega
            have ke1 : IntKind.i64.wrap (((j : Nat) : Int) + 1) = ((j + 1 : Nat) : Int) := by rw [IntWalk.i64_in _ (by omega)]; omega
            have kat := enc_at encV x.2 j .any hjc
            have hv := okV_iff.1 (chB_ok m3 hjc)
            have htv : x.2.take (j + 1) = x.2.take j ++ [x.2.getD j default] := Av.take_snoc default hjc
            have hpr := pair_p x.1 (by omega) (x.2.getD j default) (by omega) hv.2.1 (by omega)
            have hsn : prL (l.take i) ++ (x.2.take (j + 1)).map (prV x.1) = (prL (l.take i) ++ (x.2.take j).map (prV x.1)) ++ [prV x.1 (x.2.getD j default)] := by
              rw [htv, List.map_append, List.append_assoc]; rfl
            generalize prL (l.take i) ++ (x.2.take j).map (prV x.1) = o at *
            generalize x.2.getD j default = v at *
            simp only [encV] at hpr
            have n1 : ¬ (n = n') := by omega
            have n2 : ¬ (n = n' + 1) := by omega
            have n3 : ¬ (n' = n' + 1) := by omega
            have hFn : pO o k' (upd none' n (some (Av.Obj.cells [.str x.1, .sl 3 (x.2.map encV) .any]))) n = some (Av.Obj.cells [.str x.1, .sl 3 (x.2.map encV) .any]) := by
              by_cases ho : o = []
              · rw [pO, if_pos ho]; simp [upd]
              · rw [pO_at (fun e => (hk' ho).2 e.symm)]; simp [upd]
            have hFk : o ≠ [] → pO o k' (upd none' n (some (Av.Obj.cells [.str x.1, .sl 3 (x.2.map encV) .any]))) k' = some (cellsP o) := pO_row
            generalize pO o k' (upd none' n (some (Av.Obj.cells [.str x.1, .sl 3 (x.2.map encV) .any]))) = F at *
            refine Wp.seqReg (by simp only [go_sem, reduceIte, Nat.reduceEqDiff, Nat.reduceAdd, bx, kg1]; exact rfl) (by trivial) ?_
            refine Wp.seq ?_
            refine Wp.cond_true (by simp only [go_sem, reduceIte, Nat.reduceEqDiff, Nat.reduceAdd, bx]) ?_
            refine Wp.skip ?_
            refine Wp.seq ?_
            refine Wp.block ?_
            refine Wp.seqReg (by simp only [go_sem, reduceIte, Nat.reduceEqDiff, Nat.reduceAdd, bx, kh2, kh3, kat, List.length_map, encV, and_self, if_true, Int.toNat_natCast]; exact rfl) (by trivial) ?_
            by_cases ho : o = []
            · subst ho
              have hv0 : pV [] k' = .sl 2 [] (.exact 0) := rfl
              rw [hv0]
              refine Wp.reg ?_
              refine WpItems.part 4 (by simp only [go_sem, reduceIte, Nat.reduceEqDiff, Nat.reduceAdd, bx, ax, if_true, if_false, Nat.reduceMul, Nat.reduceLeDiff, n1, hFn]; exact rfl) ?_
              simp only [List.drop_succ_cons, List.drop_zero, List.drop_nil]
              refine WpItems.pcall (by simp only [go_sem, reduceIte, Nat.reduceEqDiff, Nat.reduceAdd, bx]) (by simp only [go_sem, reduceIte, Nat.reduceEqDiff, Nat.reduceAdd, bx, List.map]; exact VSubs.refl _) (hpr) ?_
              refine WpItems.part 1 (by simp only [go_sem, reduceIte, Nat.reduceEqDiff, Nat.reduceAdd, bx, ax, encPr, if_true, if_false, Nat.reduceMul, Nat.reduceLeDiff]; exact rfl) ?_
              simp only [List.drop_succ_cons, List.drop_zero, List.drop_nil]
              refine WpItems.opT (by simp only [go_sem, reduceIte, Nat.reduceEqDiff, Nat.reduceAdd, bx]) (by simp only [aopT, go_sem, reduceIte, Nat.reduceEqDiff, Nat.reduceAdd, bx, encPr, List.all_cons, List.all_nil, List.length_cons, List.length_nil, Nat.reduceMul, Nat.reduceLeDiff, Nat.reduceLT, Nat.zero_lt_succ, and_self, if_true, decide_true, Bool.and_self]; exact rfl) rfl ?_
              refine WpItems.part 1 (by simp only [go_sem, reduceIte, Nat.reduceEqDiff, Nat.reduceAdd, bx]; exact rfl) ?_
              simp only [List.drop_succ_cons, List.drop_zero, List.drop_nil]
              refine WpItems.nil ⟨by simp [pairsQ, pairsOk, apart, ent0], ?_⟩
              refine Wp.reg1 (by simp only [go_sem, reduceIte, Nat.reduceEqDiff, Nat.reduceAdd, bx, ke1]; exact rfl) (by trivial) ?_
              refine ⟨(j + 1, n' + 1, n' + 2), ⟨by simp only; omega, by simp only; omega, fun _ => ⟨by simp only; omega, by simp only; omega⟩⟩, by simp only; omega, ?_⟩
              simp only []
              rw [hsn]
              refine StLe.of (tm_le ?_) (pO_le2 (fun _ => ?_) ?_) (fun _ h => h) (Nat.le_refl _) (Nat.le_refl _)
              · simp only [pV, List.nil_append, List.cons_ne_nil, if_false]
                simp only [AllSub, go_sem, reduceIte, Nat.reduceEqDiff, Nat.reduceAdd, bx]; and_intros <;> first | exact trivial | exact VSub.refl _ | exact VSub.any _ | (refine VSub.int ?_; omega)
              · simp [upd, cellsP, encA, prV, cellsOf]
              · simp only [upd, n1, n2, if_false]; exact hFn
            · have hv0 : pV o k' = .tsl 2 k' 0 o.length none := by rw [pV, if_neg ho]
              obtain ⟨hk1, hk2⟩ := hk' ho
              have hFk := hFk ho
              have n4 : ¬ (k' = n') := by omega
              have n5 : ¬ (n = k') := by omega
              have hcl := cellsP_len o
              have r1 : (o.length + 1) * 32 ≤ 140737488355328 := by omega
              have r2 : o.length + 1 < 4611686018427387904 := by omega
              have hcs := cells_snoc o (prV x.1 v)
              simp only [encPr] at hcs
              rw [hv0]
              refine Wp.reg ?_
              refine WpItems.part 4 (by simp only [go_sem, reduceIte, Nat.reduceEqDiff, Nat.reduceAdd, bx, ax, if_true, if_false, Nat.reduceMul, Nat.reduceLeDiff, n1, hFn]; exact rfl) ?_
              simp only [List.drop_succ_cons, List.drop_zero, List.drop_nil]
              refine WpItems.pcall (by simp only [go_sem, reduceIte, Nat.reduceEqDiff, Nat.reduceAdd, bx]) (by simp only [go_sem, reduceIte, Nat.reduceEqDiff, Nat.reduceAdd, bx, List.map]; exact VSubs.refl _) (hpr) ?_
              refine WpItems.part 1 (by simp only [go_sem, reduceIte, Nat.reduceEqDiff, Nat.reduceAdd, bx, ax, encPr, if_true, if_false, Nat.reduceMul, Nat.reduceLeDiff]; exact rfl) ?_
              simp only [List.drop_succ_cons, List.drop_zero, List.drop_nil]
              refine WpItems.opK (by simp only [go_sem, reduceIte, Nat.reduceEqDiff, Nat.reduceAdd, bx]) (by simp only [aopK, go_sem, reduceIte, Nat.reduceEqDiff, Nat.reduceAdd, bx, encPr, List.all_cons, List.all_nil, List.length_cons, List.length_nil, n4, hFk, cellsP, hcl, r1, r2, and_self, if_true, if_false, decide_true, Bool.and_self, hcs]; exact rfl) rfl ?_
              refine WpItems.part 1 (by simp only [go_sem, reduceIte, Nat.reduceEqDiff, Nat.reduceAdd, bx]; exact rfl) ?_
              simp only [List.drop_succ_cons, List.drop_zero, List.drop_nil]
              refine WpItems.nil ⟨by simp [pairsQ, pairsOk, apart, ent0], ?_⟩
              refine Wp.reg1 (by simp only [go_sem, reduceIte, Nat.reduceEqDiff, Nat.reduceAdd, bx, ke1]; exact rfl) (by trivial) ?_
              refine ⟨(j + 1, n' + 1, n' + 2), ⟨by simp only; omega, by simp only; omega, fun _ => ⟨by simp only; omega, by simp only; omega⟩⟩, by simp only; omega, ?_⟩
              simp only []
              rw [hsn]
              refine StLe.of (tm_le ?_) (pO_le2 (fun _ => ?_) ?_) (fun _ h => h) (Nat.le_refl _) (Nat.le_refl _)
              · have : o ++ [prV x.1 v] ≠ [] := by simp
                simp only [pV, this, if_false, List.length_append, List.length_cons, List.length_nil]
                simp only [AllSub, go_sem, reduceIte, Nat.reduceEqDiff, Nat.reduceAdd, bx]; and_intros <;> first | exact trivial | exact VSub.refl _ | exact VSub.any _ | (refine VSub.int ?_; omega)
              · simp [upd, cellsP, encA]
              · simp only [upd, n1, n2, n5, if_false]; exact hFn
          · obtain rfl : j = x.2.length := by omega
            have kg1 : decide ((x.2.length : Int) < (x.2.length : Int)) = false := decide_eq_false (by omega)
            rw [List.take_length] at hk' hol ⊢
            repeat (first
              | ((first | apply Wp.seqItemsR | apply Wp.itemsR); (· simp only [go_sem, reduceIte, Nat.reduceEqDiff, Nat.reduceAdd, bx, ax, if_true, if_false, Nat.reduceMul, Nat.reduceLeDiff, kg1, e1]; exact rfl))
              | (refine WpItems.nil ⟨?_, ?_⟩; (· first | trivial | simp [pairsQ, pairsOk, apart, ent0]))
              | (apply Wp.cond_lit; (· simp only [go_sem, reduceIte, Nat.reduceEqDiff, Nat.reduceAdd, bx, ax, if_true, if_false, Nat.reduceMul, Nat.reduceLeDiff, kg1, e1]; exact rfl); (· rfl))
              | refine Wp.skip ?_
              | refine Wp.label ?_
              | refine Wp.block ?_
              | refine Wp.exit ?_
              | refine Wp.seq ?_)
            refine ⟨(i + 1, k', n'), ⟨by simp only; omega, fun h => ?_, all_step hs hit⟩, by simp only; omega, ?_⟩
            · simp only [htk] at h
              exact (hk' h).1
            · rw [htk]
              refine StLe.of (tm_le ?_) (pO_le fun h => pO_row h) (fun _ h => h) (Nat.le_refl _) (Nat.le_refl _)
              simp only [AllSub, go_sem, reduceIte, Nat.reduceEqDiff, Nat.reduceAdd, bx]; and_intros <;> first | exact trivial | exact VSub.refl _ | exact VSub.any _ | (refine VSub.int ?_; omega)
  · obtain rfl : i = l.length := by omega
    have g1 : decide (((l.length : Nat) : Int) < ((l.length : Nat) : Int)) = false := decide_eq_false (by omega)
    have hok : okL l = true := all_yes hs
    rw [List.take_length] at hk ⊢
    rw [hok]
    simp only [if_true]
    by_cases ho : prL l = []
    · have hv : pV (prL l) k = .sl 2 [] (.exact 0) := by rw [pV, if_pos ho]
      have he : sortedP (prL l) = [] := by rw [ho]; rfl
      rw [hv, he]
      repeat (first
        | ((first | apply Wp.seqItemsR | apply Wp.itemsR | ((first
            | (refine WpItems.pcall ?_ ?_ (sort0_p) ?_; (· simp only [go_sem, reduceIte, Nat.reduceEqDiff, Nat.reduceAdd, bx]); (· simp only [go_sem, reduceIte, Nat.reduceEqDiff, Nat.reduceAdd, bx, List.map]; exact VSubs.cons VSub.cap (VSubs.refl _)))); apply WpItems.evR)); (· simp only [go_sem, reduceIte, Nat.reduceEqDiff, Nat.reduceAdd, bx, ax, if_true, if_false, Nat.reduceMul, Nat.reduceLeDiff, g1]; exact rfl))
        | (refine WpItems.nil ⟨?_, ?_⟩; (· first | trivial | simp [pairsQ, pairsOk, apart, ent0]))
        | (apply Wp.cond_lit; (· simp only [go_sem, reduceIte, Nat.reduceEqDiff, Nat.reduceAdd, bx, ax, if_true, if_false, Nat.reduceMul, Nat.reduceLeDiff, g1]; exact rfl); (· rfl))
        | refine Wp.skip ?_
        | refine Wp.label ?_
        | refine Wp.block ?_
        | refine Wp.exit ?_
        | refine Wp.seq ?_)
      refine Wp.ret ⟨trivial, _, rfl, ?_⟩
      simp only [go_sem, reduceIte, Nat.reduceEqDiff, Nat.reduceAdd, bx]
      exact .inl (VSub.tup (VSubs.cons VSub.cap (VSubs.refl _)))
    · have hv : pV (prL l) k = .tsl 2 k 0 (prL l).length none := by rw [pV, if_neg ho]
      have ho2 : pO (prL l) k none' = upd none' k (some (cellsP (prL l))) := by rw [pO, if_neg ho]
      obtain ⟨q1, q2⟩ := sorted_new (prL_keys hok) (prL_shut hok)
      rw [hv, ho2]
      have hl0 : 0 < (prL l).length := List.length_pos_iff.2 ho
      have hsort := sort_a (prL l) (sortedP (prL l)) hl0 (by omega) q1 (sort_tot hok) (keys_nodup (prL_keys hok)) (sorted_rise _) q2 (id := k) (h := .only (upd none' k (some (cellsP (prL l)))) [] n 0) (by simp [H.only, upd, cellsP]) rfl
      have hsort' : ACalls Try.prog 17 [.tsl 2 k 0 (prL l).length none, .clo (.func 18) [] []] (.only (upd none' k (some (cellsP (prL l)))) [] n 0) (.tup []) (.only (upd none' k (some (cellsP (sortedP (prL l))))) [] n 0) := by
        simpa only [H.only, upd_upd', cellsP] using hsort
      repeat (first
        | ((first | apply Wp.seqItemsR | apply Wp.itemsR); (· simp only [go_sem, reduceIte, Nat.reduceEqDiff, Nat.reduceAdd, bx, ax, if_true, if_false, Nat.reduceMul, Nat.reduceLeDiff, g1]; exact rfl))
        | (refine WpItems.nil ⟨?_, ?_⟩; (· first | trivial | simp [pairsQ, pairsOk, apart, ent0]))
        | (apply Wp.cond_lit; (· simp only [go_sem, reduceIte, Nat.reduceEqDiff, Nat.reduceAdd, bx, ax, if_true, if_false, Nat.reduceMul, Nat.reduceLeDiff, g1]; exact rfl); (· rfl))
        | refine Wp.skip ?_
        | refine Wp.label ?_
        | refine Wp.block ?_
        | refine Wp.exit ?_
        | refine Wp.seq ?_)
      refine WpItems.acall (by simp only [go_sem]) (by simp only [go_sem, reduceIte, Nat.reduceEqDiff, List.map]; exact VSubs.refl _) hsort' (touch_write _ (by simp [upd])) ?_
      refine WpItems.eval (by simp only [go_sem, reduceIte, Nat.reduceEqDiff, Nat.reduceAdd, bx]; exact rfl) ?_
      refine WpItems.nil ⟨by trivial, ?_⟩
      repeat (first
        | ((first | apply Wp.seqItemsR | apply Wp.itemsR); (· simp only [go_sem, reduceIte, Nat.reduceEqDiff, Nat.reduceAdd, bx, ax, if_true, if_false, Nat.reduceMul, Nat.reduceLeDiff]; exact rfl))
        | (refine WpItems.nil ⟨?_, ?_⟩; (· first | trivial | simp [pairsQ, pairsOk, apart, ent0]))
        | (apply Wp.cond_lit; (· simp only [go_sem, reduceIte, Nat.reduceEqDiff, Nat.reduceAdd, bx, ax, if_true, if_false, Nat.reduceMul, Nat.reduceLeDiff]; exact rfl); (· rfl))
        | refine Wp.skip ?_
        | refine Wp.label ?_
        | refine Wp.block ?_
        | refine Wp.exit ?_
        | refine Wp.seq ?_)
      refine Wp.ret ⟨trivial, _, rfl, ?_⟩
      simp only [go_sem, reduceIte, Nat.reduceEqDiff, Nat.reduceAdd, bx]
      refine .inr ⟨(sortedP (prL l)).map encA, k, 2, [.int .i64 0], by rw [List.length_map, q1], fun x hx => ?_, ?_, ?_⟩
      · obtain ⟨p, -, rfl⟩ := List.mem_map.1 hx
        rfl
      · simp [upd, cellsP, List.flatMap]
      · refine VSub.of_eq ?_
        simp [prs, encPr, encA]
end Go.Proofs.Ytobokfclaooloaa.Space
end
section
set_option linter.unusedSimpArgs false
set_option linter.unusedVariables false
set_option maxRecDepth 100000
namespace Go.Proofs.Ytobokfclaooloaa.Batch
open Go Go.Proofs Go.Lib Go.RowKit Go.Shelf
def sortS_ren : Go.Shelf.Ren := ⟨fun | 125 => 39 | 128 => 64 | 129 => 65 | 190 => 24 | 258 => 43 | 302 => 67 | 303 => 68 | 304 => 69 | 305 => 70 | 306 => 71 | 307 => 72 | 308 => 73 | 309 => 74 | 310 => 75 | 329 => 80 | 330 => 81 | 333 => 84 | 334 => 85 | 335 => 86 | 336 => 40 | 344 => 88 | n => n, fun | 0 => 0 | 3 => 3 | 4 => 4 | 5 => 5 | 9 => 9 | 31 => 62 | 46 => 84 | 51 => 111 | 53 => 88 | 131 => 108 | 182 => 103 | 183 => 104 | 218 => 120 | 222 => 124 | 228 => 128 | 229 => 129 | n => n, fun n => n⟩
theorem sortS_lays : Lays.n190 Try.prog sortS_ren where
  mixed := by kernel_rfl
  f125 := Try.func39.trans (congrArg some (by kernel_rfl))
  f128 := Try.func64.trans (congrArg some (by kernel_rfl))
  f129 := Try.func65.trans (congrArg some (by kernel_rfl))
  f190 := Try.func24.trans (congrArg some (by kernel_rfl))
  f258 := Try.func43.trans (congrArg some (by kernel_rfl))
  f302 := Try.func67.trans (congrArg some (by kernel_rfl))
  f303 := Try.func68.trans (congrArg some (by kernel_rfl))
  f304 := Try.func69.trans (congrArg some (by kernel_rfl))
  f305 := Try.func70.trans (congrArg some (by kernel_rfl))
  f306 := Try.func71.trans (congrArg some (by kernel_rfl))
  f307 := Try.func72.trans (congrArg some (by kernel_rfl))
  f308 := Try.func73.trans (congrArg some (by kernel_rfl))
  f309 := Try.func74.trans (congrArg some (by kernel_rfl))
  f310 := Try.func75.trans (congrArg some (by kernel_rfl))
  f329 := Try.func80.trans (congrArg some (by kernel_rfl))
  f330 := Try.func81.trans (congrArg some (by kernel_rfl))
  f333 := Try.func84.trans (congrArg some (by kernel_rfl))
  f334 := Try.func85.trans (congrArg some (by kernel_rfl))
  f335 := Try.func86.trans (congrArg some (by kernel_rfl))
  f336 := Try.func40.trans (congrArg some (by kernel_rfl))
  f344 := Try.func88.trans (congrArg some (by kernel_rfl))
  t0 := Try.underlying0
  a0 := Try.isAgg0
  z0 := Try.sizeOf0
  v0 := Try.zeroValue0
  t3 := Try.underlying3
  a3 := Try.isAgg3
  z3 := Try.sizeOf3
  v3 := Try.zeroValue3
  t4 := Try.underlying4
  a4 := Try.isAgg4
  z4 := Try.sizeOf4
  v4 := Try.zeroValue4
  t5 := Try.underlying5
  a5 := Try.isAgg5
  z5 := Try.sizeOf5
  v5 := Try.zeroValue5
  t9 := Try.underlying9
  a9 := Try.isAgg9
  z9 := Try.sizeOf9
  v9 := Try.zeroValue9
  t31 := Try.underlying62
  a31 := Try.isAgg62
  z31 := Try.sizeOf62
  v31 := Try.zeroValue62
  t46 := Try.underlying84
  a46 := Try.isAgg84
  z46 := Try.sizeOf84
  v46 := Try.zeroValue84
  t51 := Try.underlying111
  a51 := Try.isAgg111
  z51 := Try.sizeOf111
  v51 := Try.zeroValue111
  t53 := Try.underlying88
  a53 := Try.isAgg88
  z53 := Try.sizeOf88
  v53 := Try.zeroValue88
  t131 := Try.underlying108
  a131 := Try.isAgg108
  z131 := Try.sizeOf108
  v131 := Try.zeroValue108
  t182 := Try.underlying103
  a182 := Try.isAgg103
  z182 := Try.sizeOf103
  v182 := Try.zeroValue103
  t183 := Try.underlying104
  a183 := Try.isAgg104
  z183 := Try.sizeOf104
  v183 := Try.zeroValue104
  t218 := Try.underlying120
  a218 := Try.isAgg120
  z218 := Try.sizeOf120
  v218 := Try.zeroValue120
  t222 := Try.underlying124
  a222 := Try.isAgg124
  z222 := Try.sizeOf124
  v222 := Try.zeroValue124
  t228 := Try.underlying128
  a228 := Try.isAgg128
  z228 := Try.sizeOf128
  v228 := Try.zeroValue128
  t229 := Try.underlying129
  a229 := Try.isAgg129
  z229 := Try.sizeOf129
  v229 := Try.zeroValue129
end Go.Proofs.Ytobokfclaooloaa.Batch
end
section
set_option linter.unusedSimpArgs false
set_option linter.unusedVariables false
set_option maxRecDepth 100000
namespace Go.Av
open Go.Sort Go.Proofs
section
variable {α : Type} [Inhabited α]
theorem sort_t1 {P : Program} {f : Nat} {enc : α → List Value} {encA : α → List AV} {k : Nat} (k0 : 0 < k) (hk : ∀ x, (enc x).length = k) (hkA : ∀ l : List α, (l.flatMap encA).length = l.length * k)
    (hE : ∀ (l : List α) G w, VRels G w (l.flatMap encA) (l.flatMap enc)) (hD : ∀ (l : List α) G w vs, VRels G w (l.flatMap encA) vs → vs = l.flatMap enc) (h1 : ∀ l : List α, ∀ v ∈ l.flatMap enc, One v)
    (l l' : List α) (hln : 0 < l.length) (hll : l'.length = l.length)
    (hcon : ∀ (blk cap : Nat) (w : World), HoldsK enc k w blk 0 l.toArray → blk < w.heap.size → Calls P f #[.slice (some ⟨blk, 0, none⟩) l.length cap] w fun e w' => e = .returned (.tuple #[]) ∧ ∃ n os, w' = sortWorldK enc k w blk 0 n l'.toArray os)
    {id : Nat} {h : H} (ho : h.objs id = some (.cells (l.flatMap encA))) (htk : h.toks = []) :
    ACalls P f [.tsl k id 0 l.length none] h (.tup []) { h with objs := upd h.objs id (some (.cells (l'.flatMap encA))) } := by
  intro G w vs hv R F
  simp only [VRels, VRel] at hv
  obtain ⟨v1, _, rfl, ⟨hd1, hv1⟩, rfl⟩ := hv
  obtain ⟨C, c, T, fr, rfl, ⟨hnC, hc63⟩, -, hg, hroom⟩ | ⟨hz, -⟩ := hv1
  rotate_left
  · omega
  obtain ⟨-, hown, hB, us, rest, T', fr', hg', hvs, hfr, -⟩ := R.obj id _ ho
  have hus := hD l G w us hvs
  subst hus
  have hH : HoldsK enc k w (G.ι id) 0 l.toArray := by
    intro j hj
    rw [flat_eq k0 hk] at hj ⊢
    have hj' : j < (l.flatMap enc).length := by simpa using hj
    constructor
    · unfold World.cell?
      simp only [hg', Nat.zero_add]
      simp [List.getElem?_append_left hj', getElem!_def, hj', List.getElem?_eq_getElem hj']
    · unfold World.frozen?
      simp only [hg']
      have := hfr
      simp; omega
  refine (hcon (G.ι id) C w hH hB).mono fun e w' ⟨he, n, os, hw⟩ => ?_
  subst he hw
  obtain ⟨w1, w2, w3⟩ := sorted_world k0 hk (n := n) (os := os) hB hll hg'
  obtain ⟨T1, R1⟩ := row_put R ho htk w3 (by rfl) (by rfl) w2 (by rw [hg', w1]; exact ⟨_, _, rfl, by simp [flat_len hk, hll], fun _ _ h => h⟩) (by rw [hkA, flat_len hk]) (hE l') (h1 l') w1 hfr
  exact ⟨_, G, rfl, T1, R1, by simp [VRel, VRels]⟩
end
end Go.Av
namespace Go.Proofs.Ytobokfclaooloaa.Batch
open Go Go.Proofs Go.Lib Go.RowKit Go.Shelf Go.Sort Go.Av
theorem msort_one {l l' : List (List UInt8)} (nd : l.Nodup) (hp : l'.Pairwise fun x y => Op.bytesLess x y = true) (hm : ∀ x, x ∈ l' ↔ x ∈ l) : l.mergeSort (fun x y => decide (x ≤ y)) = l' := by
  have pm := List.mergeSort_perm l (fun x y => decide (x ≤ y))
  have pw := List.pairwise_mergeSort (le := fun x y : List UInt8 => decide (x ≤ y)) (fun a b c h1 h2 => decide_eq_true (List.le_trans (of_decide_eq_true h1) (of_decide_eq_true h2))) (fun a b => by simpa using List.le_total a b) l
  have nd' : (l.mergeSort (fun x y => decide (x ≤ y))).Nodup := pm.nodup_iff.2 nd
  refine pw_eq (r := fun x y => Op.bytesLess x y = true) (fun x => by rw [less_irrefl]; simp) (fun x y z h1 h2 => less_trans h1 h2) ?_ hp fun x => by rw [pm.mem_iff, hm]
  refine (List.pairwise_and_iff.2 ⟨pw, List.nodup_iff_pairwise_ne.1 nd'⟩).imp fun {a b} ⟨h1, h2⟩ => ?_
  rcases less_total a b with h | h | h
  · exact h
  · exact absurd h h2
  · rw [bytesLess_eq] at h
    exact absurd (of_decide_eq_true h) (of_decide_eq_true h1)
def encT (s : List UInt8) : List Value := [.string ⟨s.toArray⟩]
def encTA (s : List UInt8) : List AV := [.str s]
theorem flatT_eq (d : Array (List UInt8)) : flatK encT 1 d = d.map encStr := by
  refine ext_get! (by simp) fun t ht => ?_
  have ht' : t < d.size := by simpa using ht
  rw [get_flatK _ _ _ t (by simpa using ht')]
  simp [encT, Nat.mod_one, getElem!_def, ht', encStr]
theorem holdsT {w : World} {blk off : Nat} {d : Array (List UInt8)} (h : HoldsK encT 1 w blk off d) : Holds encStr w blk off d := by
  intro j hj
  have := h j (by simpa using hj)
  rw [flatT_eq] at this
  refine ⟨?_, this.2⟩
  rw [this.1]
  simp [getElem!_def, hj]
theorem putT (w : World) (blk off : Nat) (d : Array (List UInt8)) : putRow encStr w blk off d = putRowK encT 1 w blk off d := by
  unfold putRowK putRow
  rw [flatT_eq]
  congr 1
  funext c
  unfold putCells
  simp only [Array.size_map, id]
  congr 1
  funext k x
  split
  · rename_i h
    have hk : k - off < d.size := by omega
    simp [getElem!_def, hk]
  · rfl
theorem sortS_a (l l' : List (List UInt8)) (h0 : 0 < l.length) (hl : l.length < 4611686018427387904) (hll : l'.length = l.length)
    (nd : l.Nodup) (hp : l'.Pairwise fun x y => Op.bytesLess x y = true) (hm : ∀ x, x ∈ l' ↔ x ∈ l)
    {id : Nat} {h : H} (ho : h.objs id = some (.cells (strs l))) (htk : h.toks = []) :
    ACalls Try.prog 24 [.tsl 1 id 0 l.length none] h (.tup []) { h with objs := upd h.objs id (some (.cells (strs l'))) } := by
  have es : ∀ l : List (List UInt8), strs l = l.flatMap encTA := fun l => by
    induction l with
    | nil => rfl
    | cons x l ih => rw [List.flatMap_cons, ← ih]; rfl
  rw [es] at ho
  rw [es]
  refine sort_t1 (k := 1) (enc := encT) (encA := encTA) (by omega) (fun _ => rfl) (fun l => by rw [← es, strs_length]; omega) (fun l G w => ?_) (fun l G w vs h => ?_) (fun l v hv => ?_) l l' h0 hll (fun blk cap w hH hb => ?_) ho htk
  · induction l with
    | nil => simp [VRels]
    | cons x l ih => simp only [List.flatMap_cons]; exact (show VRels G w (encTA x) (encT x) by simp [encTA, encT, VRels, VRel]).append ih
  · induction l generalizing vs with
    | nil => simpa [VRels] using h
    | cons x l ih =>
      simp only [List.flatMap_cons, encTA, List.cons_append, List.nil_append, VRels, VRel] at h
      obtain ⟨v, us, rfl, rfl, h⟩ := h
      rw [ih us h]; rfl
  · obtain ⟨p, -, hp⟩ := List.mem_flatMap.1 hv
    simp only [encT, List.mem_cons, List.not_mem_nil, or_false] at hp
    subst hp
    exact ⟨(fun _ e => by cases e), (fun _ e => by cases e)⟩
  · refine (Any.slices_Sort_string sortS_lays blk 0 cap l w (holdsT hH) hb hl).mono fun e w' ⟨he, n, os, hw⟩ => ⟨he, n, os, ?_⟩
    rw [hw, msort_one nd hp hm, putT]; rfl
end Go.Proofs.Ytobokfclaooloaa.Batch
end
section
set_option linter.unusedSimpArgs false
set_option linter.unusedVariables false
set_option maxRecDepth 10000
namespace Go.Proofs.Ytobokfclaooloaa.Space
open Go Go.Av Go.Proofs Go.Proofs.Ytobokfclaooloaa.C Go.Proofs.Ytobokfclaooloaa.Batch
abbrev MT := Bs × (List Ver × Nat)
def encMt (M : List MT) : List (AV × AV) := M.map fun p => (.str p.1, .sl 3 (p.2.1.map encV) (.own p.2.2))
def ksT (M : List MT) : List Bs := M.map (·.1)
def mF (M : List MT) (k : Nat) : Nat → Option Av.Obj := if M = [] then upd none' 0 (some (.map [])) else upd (upd none' 0 (some (.map (encMt M)))) k (some (.cells (strs (ksT M))))
def keysV (M : List MT) (k : Nat) : AV := if M = [] then .sl 1 [] (.exact 0) else .tsl 1 k 0 M.length none
theorem mF_zero {M : List MT} {k : Nat} (h : M ≠ [] → k ≠ 0) : mF M k 0 = some (.map (encMt M)) := by
  unfold mF
  split
  · rename_i e; subst e; simp [upd, encMt]
  · rename_i e; simp [upd, Ne.symm (h e)]
theorem mF_row {M : List MT} {k : Nat} (h : M ≠ []) : mF M k k = some (.cells (strs (ksT M))) := by
  unfold mF
  rw [if_neg h]; simp [upd]
theorem mF_le {M : List MT} {k : Nat} {g : Nat → Option Av.Obj} (h0 : g 0 = some (.map (encMt M))) (hk : M ≠ [] → g k = some (.cells (strs (ksT M)))) : OLe g (mF M k) := by
  intro j p hp
  unfold mF at hp
  split at hp
  · rename_i e
    subst e
    simp only [upd, none'] at hp
    split at hp
    · rename_i e; subst e; cases hp; exact ⟨_, h0, OSub.refl _⟩
    · cases hp
  · rename_i hne
    simp only [upd, none'] at hp
    split at hp
    · rename_i e; subst e; cases hp; exact ⟨_, hk hne, OSub.refl _⟩
    · split at hp
      · rename_i e; subst e; cases hp; exact ⟨_, h0, OSub.refl _⟩
      · cases hp
theorem mfindT_none {q : Bs} : ∀ {M : List MT}, q ∉ ksT M → mfind q (encMt M) = some none
  | [], _ => rfl
  | p :: M, h => by
    simp only [ksT, List.map_cons, List.mem_cons, not_or] at h
    have ih := mfindT_none (q := q) (M := M) h.2
    simp only [encMt, List.map_cons, mfind] at ih ⊢
    rw [if_neg (fun e => h.1 e.symm), ih]; rfl
theorem mfindT_mid {q : Bs} {x : List Ver × Nat} {B : List MT} : ∀ {A : List MT}, q ∉ ksT A → mfind q (encMt (A ++ (q, x) :: B)) = some (some (A.length, .sl 3 (x.1.map encV) (.own x.2)))
  | [], _ => by simp [encMt, mfind]
  | p :: A, h => by
    simp only [ksT, List.map_cons, List.mem_cons, not_or] at h
    have ih := mfindT_mid (q := q) (x := x) (B := B) (A := A) h.2
    simp only [encMt, List.cons_append, List.map_cons, mfind] at ih ⊢
    rw [if_neg (fun e => h.1 e.symm), ih]; rfl
theorem putT_mid {q : Bs} {x : List Ver × Nat} {B : List MT} {v : List Ver} {t : Nat} (A : List MT) (y : AV) : putEs (encMt (A ++ (q, x) :: B)) q (.sl 3 (v.map encV) (.own t)) (some (A.length, y)) = encMt (A ++ (q, (v, t)) :: B) := by
  simp [putEs, encMt]
theorem putT_new {q : Bs} {M : List MT} {v : List Ver} {t : Nat} : putEs (encMt M) q (.sl 3 (v.map encV) (.own t)) none = encMt (M ++ [(q, (v, t))]) := by
  simp [putEs, encMt]
structure IT (P : List Pr) (M : List MT) (T : List Nat) (m : Nat) : Prop where
  nd : (ksT M).Nodup
  ch : ∀ p ∈ M, p.2.1 = chO P p.1
  key : ∀ q, q ∈ ksT M ↔ ∃ p ∈ P, vK p = q
  tk : ∀ p ∈ M, p.2.2 ∈ T
  td : (M.map (·.2.2)).Nodup
  tb : ∀ p ∈ M, p.2.2 < m
  len : ∀ p ∈ M, p.2.1.length ≤ P.length
  n : M.length ≤ P.length
theorem key_snoc (P : List Pr) (p : Pr) (q : Bs) : (∃ x ∈ P ++ [p], vK x = q) ↔ (∃ x ∈ P, vK x = q) ∨ vK p = q := by
  constructor
  · rintro ⟨x, hx, e⟩
    rcases List.mem_append.1 hx with hx | hx
    · exact .inl ⟨x, hx, e⟩
    · rw [List.mem_singleton.1 hx] at e; exact .inr e
  · rintro (⟨x, hx, e⟩ | e)
    · exact ⟨x, by simp [hx], e⟩
    · exact ⟨p, by simp, e⟩
theorem IT.new {P : List Pr} {M : List MT} {T : List Nat} {m : Nat} (h : IT P M T m) {p : Pr} (hq : vK p ∉ ksT M) : IT (P ++ [p]) (M ++ [(vK p, ([vV p], m))]) (m :: T) (m + 1) := by
  have hno : ¬ ∃ x ∈ P, vK x = vK p := fun e => hq ((h.key _).2 e)
  have hne : ∀ y ∈ M, vK p ≠ y.1 := fun y hy e => hq (by rw [e]; exact List.mem_map.2 ⟨y, hy, rfl⟩)
  refine ⟨?_, fun y hy => ?_, fun q => ?_, fun y hy => ?_, ?_, fun y hy => ?_, fun y hy => ?_, by have := h.n; simp; omega⟩
  · simp only [ksT, List.map_append, List.map_cons, List.map_nil]
    refine List.nodup_append.2 ⟨h.nd, by simp, fun a ha b hb => ?_⟩
    rw [List.mem_singleton.1 hb]; exact fun e => hq (by rw [← e]; exact ha)
  · rw [chO_snoc]
    rcases List.mem_append.1 hy with hy | hy
    · rw [if_neg (hne y hy), List.append_nil]; exact h.ch y hy
    · rw [List.mem_singleton.1 hy]; simp only []; rw [if_pos trivial, chO_none hno]; rfl
  · rw [key_snoc, ← h.key]
    simp only [ksT, List.map_append, List.map_cons, List.map_nil, List.mem_append, List.mem_singleton]
    exact ⟨fun h => h.imp_right fun h => h.symm, fun h => h.imp_right fun h => h.symm⟩
  · rcases List.mem_append.1 hy with hy | hy
    · exact List.mem_cons_of_mem _ (h.tk y hy)
    · rw [List.mem_singleton.1 hy]; simp
  · simp only [List.map_append, List.map_cons, List.map_nil]
    refine List.nodup_append.2 ⟨h.td, by simp, fun a ha b hb => ?_⟩
    obtain ⟨y, hy, rfl⟩ := List.mem_map.1 ha
    have := h.tb y hy
    rw [List.mem_singleton.1 hb]; omega
  · rcases List.mem_append.1 hy with hy | hy
    · have := h.tb y hy; omega
    · rw [List.mem_singleton.1 hy]; simp only []; omega
  · rcases List.mem_append.1 hy with hy | hy
    · have := h.len y hy; simp; omega
    · rw [List.mem_singleton.1 hy]; simp
theorem IT.old {P : List Pr} {A B : List MT} {T : List Nat} {m t : Nat} {vs : List Ver} {p : Pr} (h : IT P (A ++ (vK p, (vs, t)) :: B) T m) : IT (P ++ [p]) (A ++ (vK p, (vs ++ [vV p], m)) :: B) (m :: T.filter (· ≠ t)) (m + 1) := by
  have nd := h.nd
  simp only [ksT, List.map_append, List.map_cons] at nd
  have nd2 := List.nodup_append.1 nd
  have nd3 := List.nodup_cons.1 nd2.2.1
  have td := h.td
  simp only [List.map_append, List.map_cons] at td
  have td2 := List.nodup_append.1 td
  have td3 := List.nodup_cons.1 td2.2.1
  have oth : ∀ y, y ∈ A ∨ y ∈ B → y ∈ A ++ (vK p, (vs, t)) :: B ∧ y.1 ≠ vK p ∧ y.2.2 ≠ t := fun y hy => by
    rcases hy with hy | hy
    · exact ⟨by simp [hy], nd2.2.2 _ (List.mem_map.2 ⟨y, hy, rfl⟩) _ (by simp), td2.2.2 _ (List.mem_map.2 ⟨y, hy, rfl⟩) _ (by simp)⟩
    · refine ⟨by simp [hy], fun e => nd3.1 ?_, fun e => td3.1 ?_⟩
      · rw [← e]; exact List.mem_map.2 ⟨y, hy, rfl⟩
      · rw [← e]; exact List.mem_map.2 ⟨y, hy, rfl⟩
  have cs : ∀ {y : MT}, y ∈ A ++ (vK p, (vs ++ [vV p], m)) :: B → (y ∈ A ∨ y ∈ B) ∨ y = (vK p, (vs ++ [vV p], m)) := fun {y} hy => by
    rcases List.mem_append.1 hy with hy | hy
    · exact .inl (.inl hy)
    · rcases List.mem_cons.1 hy with hy | hy
      · exact .inr hy
      · exact .inl (.inr hy)
  refine ⟨?_, fun y hy => ?_, fun q => ?_, fun y hy => ?_, ?_, fun y hy => ?_, fun y hy => ?_, by have := h.n; simp at this ⊢; omega⟩
  · simp only [ksT, List.map_append, List.map_cons]; exact nd
  · rw [chO_snoc]
    rcases cs hy with hy | rfl
    · obtain ⟨a, b, c⟩ := oth y hy
      rw [if_neg (fun e => b e.symm), List.append_nil]; exact h.ch y a
    · simp only []; rw [if_pos trivial, ← h.ch (vK p, (vs, t)) (by simp)]
  · rw [key_snoc, ← h.key]
    simp only [ksT, List.map_append, List.map_cons, List.mem_append, List.mem_cons]
    constructor
    · exact .inl
    · rintro (h | h)
      · exact h
      · exact .inr (.inl h.symm)
  · rcases cs hy with hy | rfl
    · obtain ⟨a, b, c⟩ := oth y hy
      exact List.mem_cons_of_mem _ (List.mem_filter.2 ⟨h.tk y a, by simpa using c⟩)
    · simp
  · simp only [List.map_append, List.map_cons]
    refine List.nodup_append.2 ⟨td2.1, List.nodup_cons.2 ⟨fun e => ?_, td3.2⟩, fun a ha b hb => ?_⟩
    · obtain ⟨y, hy, e⟩ := List.mem_map.1 e
      have := h.tb y (by simp [hy]); omega
    · rcases List.mem_cons.1 hb with rfl | hb
      · obtain ⟨y, hy, rfl⟩ := List.mem_map.1 ha
        have := h.tb y (by simp [hy]); omega
      · exact td2.2.2 a ha b (by simp [hb])
  · rcases cs hy with hy | rfl
    · have := h.tb y (oth y hy).1; omega
    · simp only []; omega
  · rcases cs hy with hy | rfl
    · have := h.len y (oth y hy).1; simp; omega
    · have := h.len (vK p, (vs, t)) (by simp)
      simp at this ⊢; omega
theorem mid_of {M : List MT} {q : Bs} (h : q ∈ ksT M) (nd : (ksT M).Nodup) : ∃ A x B, M = A ++ (q, x) :: B ∧ q ∉ ksT A := by
  obtain ⟨y, hy, rfl⟩ := List.mem_map.1 h
  obtain ⟨A, B, rfl⟩ := List.append_of_mem hy
  refine ⟨A, y.2, B, rfl, fun e => ?_⟩
  simp only [ksT, List.map_append, List.map_cons] at nd
  exact (List.nodup_append.1 nd).2.2 _ e _ (by simp) rfl
def stepI (l : List Pr) (i : Nat) : Bool := vOkP (l.getD i default) && (decide (i = 0) || Op.bytesLess (l.getD (i - 1) default).k (l.getD i default).k)
def bOkI (l : List Pr) : Bool := (List.range l.length).all (stepI l) && okL (itR l)
theorem stepI_zero {l : List Pr} {j : Nat} (h : j = 0) : stepI l j = vOkP (l.getD j default) := by simp [stepI, h]
theorem stepI_pos {l : List Pr} {j : Nat} (h : j ≠ 0) : stepI l j = (vOkP (l.getD j default) && Op.bytesLess (l.getD (j - 1) default).k (l.getD j default).k) := by simp [stepI, h]
end Go.Proofs.Ytobokfclaooloaa.Space
end
section
set_option linter.unusedSimpArgs false
set_option linter.unusedVariables false
set_option maxRecDepth 10000
namespace Go.Proofs.Ytobokfclaooloaa.Space
open Go Go.Av Go.Proofs Go.Proofs.Ytobokfclaooloaa.C Go.Proofs.Ytobokfclaooloaa.Batch
theorem i64_time {t : Int} (h : 1 ≤ t ∧ t ≤ 1152921504606846976) : i64 (be 8 (1152921504606846976 - t).toNat) = 1152921504606846976 - t := by
  rw [i64_be _ (by omega)]; omega
theorem vT_pr {k : Bs} {v : Ver} (h : 1 ≤ v.t ∧ v.t ≤ 1152921504606846976) : vT (prV k v) = 1152921504606846976 - v.t := by
  have : (prV k v).k.drop (vN (prV k v)) = be 8 (1152921504606846976 - v.t).toNat := by
    unfold vN
    simp only [prV, List.length_append, be_length, Nat.add_sub_cancel]
    exact List.drop_left' rfl
  unfold vT
  rw [this, i64_time h]
end Go.Proofs.Ytobokfclaooloaa.Space
end
section
set_option linter.unusedSimpArgs false
set_option linter.unusedVariables false
set_option maxRecDepth 10000
namespace Go.Proofs.Ytobokfclaooloaa.Space
open Go Go.Av Go.Proofs Go.Proofs.Ytobokfclaooloaa.C Go.Proofs.Ytobokfclaooloaa.Batch
theorem prV_fwd {k : Bs} {v : Ver} (h : okV v = true) : vOkP (prV k v) = true ∧ vK (prV k v) = k ∧ vV (prV k v) = v := by
  obtain ⟨h1, h2, h3, h4⟩ := okV_iff.1 h
  have hT : vT (prV k v) = 1152921504606846976 - v.t := vT_pr ⟨h1, h2⟩
  have hn : vN (prV k v) = k.length := by simp [vN, prV, be_length]
  have hK : vK (prV k v) = k := by
    unfold vK
    rw [hn]
    exact List.take_left' rfl
  have hv0 : (prV k v).v = vval v := rfl
  have hvv : vval v ≠ [] ∧ ((vval v).getD 0 0).toNat ≤ 1 ∧ (vval v).drop 1 = v.v ∧ decide ((vval v).getD 0 0 = 0) = v.d := by
    unfold vval
    cases hd : v.d with
    | true => simp [h4 hd]
    | false => simp
  refine ⟨?_, hK, ?_⟩
  · rw [vOkP_iff, hv0, hT]
    exact ⟨by simp [prV, be_length], hvv.1, hvv.2.1, by omega, by omega⟩
  · unfold vV
    rw [hT, hv0, hvv.2.2.1, hvv.2.2.2]
    cases v
    simp only [Ver.mk.injEq, and_true]
    omega
theorem items_back {l : List It} (h : okL l = true) : bOkI (sortedP (prL l)) = true ∧ itR (sortedP (prL l)) = l := by
  obtain ⟨s1, s2⟩ := sorted_new (prL_keys h) (prL_shut h)
  have s3 := sorted_rise (prL l)
  have hov : ∀ y ∈ l, ∀ v ∈ y.2, okV v = true := fun y hy v hv => chB_all (mayI_iff.1 (okL_all h y hy)).2.2.1 v hv
  have mem : ∀ p, p ∈ sortedP (prL l) ↔ ∃ y ∈ l, ∃ v ∈ y.2, prV y.1 v = p := fun p => by
    rw [s2]; simp only [prL, prI, List.mem_flatMap, List.mem_map]
  have hall : ∀ p ∈ sortedP (prL l), vOkP p = true := fun p hp => by
    obtain ⟨y, hy, v, hv, rfl⟩ := (mem p).1 hp
    exact (prV_fwd (hov y hy v hv)).1
  generalize sortedP (prL l) = A at *
  have law := itR_law hall s3
  have hr := okL_rise h
  have one : ∀ x ∈ l, ∀ y ∈ l, x.1 = y.1 → x = y := fun x hx y hy e => by
    obtain ⟨i, hi, rfl⟩ := List.mem_iff_getElem.1 hx
    obtain ⟨j, hj, rfl⟩ := List.mem_iff_getElem.1 hy
    have hp := List.pairwise_iff_getElem.1 hr
    rcases Nat.lt_trichotomy i j with h1 | h1 | h1
    · exact absurd e (less_ne (hp i j hi hj h1))
    · subst h1; rfl
    · exact absurd e.symm (less_ne (hp j i hj hi h1))
  have hch : ∀ x ∈ l, chO A x.1 = x.2 := fun x hx => by
    refine Av.pw_eq (r := fun a b : Ver => b.t < a.t) (fun x => by omega) (fun x y z h1 h2 => by omega) ?_ (chB_desc (mayI_iff.1 (okL_all h x hx)).2.2.1) fun v => ?_
    · unfold chO
      rw [List.pairwise_map]
      refine (List.Pairwise.sublist List.filter_sublist s3).imp_of_mem fun {a b} ha hb hab => ?_
      have ha := List.mem_filter.1 ha
      have hb := List.mem_filter.1 hb
      have := later (hall a ha.1) (hall b hb.1) (by rw [of_decide_eq_true ha.2, of_decide_eq_true hb.2]) hab
      simp only [vV]; omega
    · unfold chO
      simp only [List.mem_map, List.mem_filter, decide_eq_true_eq]
      constructor
      · rintro ⟨p, ⟨hp, hk⟩, rfl⟩
        obtain ⟨y, hy, u, hu, rfl⟩ := (mem p).1 hp
        obtain ⟨-, f2, f3⟩ := prV_fwd (k := y.1) (hov y hy u hu)
        rw [f2] at hk
        rw [f3, ← one y hy x hx hk]
        exact hu
      · intro hv
        obtain ⟨-, f2, f3⟩ := prV_fwd (k := x.1) (hov x hx v hv)
        exact ⟨prV x.1 v, ⟨(mem _).2 ⟨x, hx, v, hv, rfl⟩, f2⟩, f3⟩
  have hkey : ∀ q, q ∈ (itR A).map (·.1) ↔ ∃ y ∈ l, y.1 = q := fun q => by
    rw [law.key]
    constructor
    · rintro ⟨p, hp, rfl⟩
      obtain ⟨y, hy, u, hu, rfl⟩ := (mem p).1 hp
      exact ⟨y, hy, (prV_fwd (hov y hy u hu)).2.1.symm⟩
    · rintro ⟨y, hy, rfl⟩
      have hpos := (mayI_iff.1 (okL_all h y hy)).2.1
      obtain ⟨v, vs, hv⟩ : ∃ v vs, y.2 = v :: vs := by
        cases hy2 : y.2 with
        | nil => rw [hy2] at hpos; simp at hpos
        | cons v vs => exact ⟨v, vs, rfl⟩
      have hvm : v ∈ y.2 := by rw [hv]; simp
      exact ⟨prV y.1 v, (mem _).2 ⟨y, hy, v, hvm, rfl⟩, (prV_fwd (hov y hy v hvm)).2.1⟩
  have hRl : itR A = l := by
    refine Av.pw_eq (r := fun a b : It => Op.bytesLess a.1 b.1 = true) (fun x => by rw [less_irrefl]; simp) (fun x y z h1 h2 => less_trans h1 h2) law.rise hr fun x => ?_
    constructor
    · intro hx
      obtain ⟨y, hy, e⟩ := (hkey x.1).1 (List.mem_map.2 ⟨x, hx, rfl⟩)
      have h2 := law.ch x hx
      rw [← e, hch y hy] at h2
      rw [show x = y from Prod.ext e.symm h2]
      exact hy
    · intro hx
      obtain ⟨z, hz, e⟩ := List.mem_map.1 ((hkey x.1).2 ⟨x, hx, rfl⟩)
      have h2 := law.ch z hz
      rw [show z.1 = x.1 from e, hch x hx] at h2
      rw [show x = z from Prod.ext (show z.1 = x.1 from e).symm h2.symm]
      exact hz
  refine ⟨?_, hRl⟩
  rw [bOkI, hRl, h, Bool.and_true]
  refine all_yes fun i hi => ?_
  have hv : vOkP (A.getD i default) = true := by rw [Av.getD_el hi]; exact hall _ (List.getElem_mem hi)
  by_cases hz : i = 0
  · rw [stepI_zero hz]; exact hv
  · rw [stepI_pos hz, hv, Bool.true_and, Av.getD_el hi, Av.getD_el (show i - 1 < A.length by omega)]
    exact List.pairwise_iff_getElem.1 s3 (i - 1) i (by omega) hi (by omega)
end Go.Proofs.Ytobokfclaooloaa.Space
end
section
set_option linter.unusedSimpArgs false
set_option linter.unusedVariables false
set_option maxRecDepth 10000
namespace Go.Proofs.Ytobokfclaooloaa.Space
open Go Go.Av Go.Proofs Go.Proofs.Ytobokfclaooloaa.C Go.Proofs.Ytobokfclaooloaa.Batch
theorem sub_len {α : Type} [DecidableEq α] : ∀ {a b : List α}, a.Nodup → (∀ x, x ∈ a → x ∈ b) → a.length ≤ b.length
  | [], b, _, _ => Nat.zero_le _
  | x :: a, b, h, hs => by
    have h' := List.nodup_cons.1 h
    have hx := hs x (by simp)
    have := sub_len (a := a) (b := b.erase x) h'.2 fun y hy => (List.mem_erase_of_ne (fun e => h'.1 (by rw [← e]; exact hy))).2 (hs y (by simp [hy]))
    rw [List.length_erase_of_mem hx] at this
    have := List.length_pos_of_mem hx
    simp only [List.length_cons]; omega
set_option maxHeartbeats 4000000 in
theorem items_p (l : List Pr) (hl : l.length ≤ 100000) (hsz : ∀ p ∈ l, p.k.length ≤ 140737488355328 ∧ p.v.length ≤ 140737488355328) : PCalls Try.prog 9 [.sl 2 (prs l) .any] (.tup [.sl 2 ((if bOkI l then itR l else []).map encI) .any, .int .i64 (if bOkI l then 0 else 4)]) := by
  refine f9.pcalls0 (by simp) (by simp [allPure, isPure, capPure, prs_pure]) (by simp [isPure, allPure, capPure, its_pure]) ?_
  unfold c9
  have bad : bOkI l = false → VSub (.tup [.sl 2 [] (.exact 0), .int .i64 4]) (.tup [.sl 2 ((if bOkI l then itR l else []).map encI) .any, .int .i64 (if bOkI l then 0 else 4)]) := fun h => by
    rw [h]; exact VSub.tup (VSubs.cons VSub.cap (VSubs.refl _))
  repeat (first
    | ((first | apply Wp.seqItemsR | apply Wp.itemsR); (· simp only [go_sem, reduceIte, Nat.reduceEqDiff, Nat.reduceAdd, bx, ax, if_true, if_false, Nat.reduceMul, Nat.reduceLeDiff, prs_length]; exact rfl))
    | (refine WpItems.nil ⟨?_, ?_⟩; (· first | trivial | simp [pairsQ, pairsOk, apart, ent0]))
    | (apply Wp.cond_lit; (· simp only [go_sem, reduceIte, Nat.reduceEqDiff, Nat.reduceAdd, bx, ax, if_true, if_false, Nat.reduceMul, Nat.reduceLeDiff, prs_length]; exact rfl); (· rfl))
    | refine Wp.skip ?_
    | refine Wp.label ?_
    | refine Wp.block ?_
    | refine Wp.exit ?_
    | refine Wp.seq ?_)
  refine Wp.loopH (β := Nat × List MT × List Nat × Nat × Nat × Nat) [0, 4, 18, 19] (by simp only [go_sem, reduceIte, Nat.reduceEqDiff, List.map]; exact rfl) (fun b => [(5, keysV b.2.1 b.2.2.2.1), (20, .int .i64 (b.1 : Nat))]) (fun b => ⟨mF b.2.1 b.2.2.2.1, b.2.2.2.2.1, b.2.2.1, b.2.2.2.2.2⟩) (fun b => b.1 ≤ l.length ∧ IT (l.take b.1) b.2.1 b.2.2.1 b.2.2.2.2.2 ∧ 0 < b.2.2.2.2.1 ∧ (b.2.1 ≠ [] → 0 < b.2.2.2.1 ∧ b.2.2.2.1 < b.2.2.2.2.1) ∧ ∀ i, i < b.1 → stepI l i = true) (fun b => l.length - b.1) (0, [], [], 0, 1, 0) ⟨Nat.zero_le _, ⟨by simp [ksT], by simp, by simp [ksT], by simp, by simp, by simp, by simp, by simp⟩, by simp, fun h => absurd rfl h, fun i h => absurd h (by simp)⟩ ?_ ?_ ?_
  · simp [mF, H0, H.only]
  · simp only [AllSub, go_sem, reduceIte, Nat.reduceEqDiff, Nat.reduceAdd, bx]; and_intros <;> first | exact trivial | exact VSub.refl _ | exact VSub.any _ | (refine VSub.int ?_; omega)
  rintro ⟨i, M, T, k, n, m⟩ ⟨hi, hI, hn, hk, hs⟩
  simp only at hi hI hn hk hs ⊢
  have hM := hI.n
  rw [List.length_take] at hM
  by_cases hc : i < l.length
  · have g1 : decide (((i : Nat) : Int) < ((l.length : Nat) : Int)) = true := decide_eq_true (by omega)
    have h2 : (0 : Int) ≤ ((i : Nat) : Int) := by omega
    have h3 : ((i : Nat) : Int) < ((l.length : Nat) : Int) := by omega
    have e1 : IntKind.i64.wrap (((i : Nat) : Int) + 1) = ((i + 1 : Nat) : Int) := by rw [IntWalk.i64_in _ (by omega)]; omega
    have hat : (prs l).getD i .any = encPr (l.getD i default) := prs_getD l i .any hc
    have hmem : l.getD i default ∈ l := by rw [Av.getD_el hc]; exact List.getElem_mem hc
    have no : stepI l i = false → bOkI l = false := fun h => by rw [bOkI, all_no hc h]; rfl
    obtain ⟨z1, z2⟩ := hsz _ hmem
    have hver := version_p (l.getD i default) z1 z2
    have htk : l.take (i + 1) = l.take i ++ [l.getD i default] := Av.take_snoc default hc
    have n1 : ¬ (n = 0) := by omega
    have n2 : ¬ (n = n + 1) := by omega
    have n3 : ¬ (n + 1 = 0) := by omega
    have n4 : ¬ (0 = n) := by omega
    have n5 : ¬ (0 = n + 1) := by omega
    cases hv : vOkP (l.getD i default) with
    | false =>
      have nm := no (by rw [stepI, hv]; rfl)
      rw [verR, hv] at hver
      simp only [Bool.false_eq_true, if_false] at hver
      generalize l.getD i default = p at *
      simp only [encPr] at hver
      repeat (first
        | ((first | apply Wp.seqItemsR | apply Wp.itemsR | ((first
            | (refine WpItems.pcall ?_ ?_ (hver) ?_; (· simp only [go_sem, reduceIte, Nat.reduceEqDiff, Nat.reduceAdd, bx]); (· simp only [go_sem, reduceIte, Nat.reduceEqDiff, Nat.reduceAdd, bx, List.map]; first | exact VSubs.refl _ | (repeat (first | exact VSubs.nil | refine VSubs.cons (by first | exact VSub.refl _ | assumption | exact VSub.cap | exact VSub.any _) ?_))))); apply WpItems.evR)); (· simp only [go_sem, reduceIte, Nat.reduceEqDiff, Nat.reduceAdd, bx, ax, if_true, if_false, Nat.reduceMul, Nat.reduceLeDiff, prs_length, g1, h2, h3, hat, encPr, n1, n2, n3, Bool.not_false]; exact rfl))
        | (refine WpItems.nil ⟨?_, ?_⟩; (· first | trivial | simp [pairsQ, pairsOk, apart, ent0]))
        | (apply Wp.cond_lit; (· simp only [go_sem, reduceIte, Nat.reduceEqDiff, Nat.reduceAdd, bx, ax, if_true, if_false, Nat.reduceMul, Nat.reduceLeDiff, prs_length, g1, h2, h3, hat, encPr, n1, n2, n3, Bool.not_false]; exact rfl); (· rfl))
        | refine Wp.skip ?_
        | refine Wp.label ?_
        | refine Wp.block ?_
        | refine Wp.exit ?_
        | refine Wp.seq ?_)
      refine Wp.ret ⟨trivial, _, rfl, ?_⟩
      simp only [go_sem, reduceIte, Nat.reduceEqDiff, Nat.reduceAdd, bx]
      exact bad nm
    | true =>
      rw [verR, hv] at hver
      simp only [if_true] at hver
      have hF0 := mF_zero (M := M) (k := k) (fun h => by have := (hk h).1; omega)
      have hFk := mF_row (M := M) (k := k)
      by_cases hz : i = 0
      · have g2 : decide ((0 : Int) < (i : Int)) = false := decide_eq_false (by omega)
        have hst : stepI l i = true := (stepI_zero hz).trans hv
        generalize l.getD i default = p at *
        simp only [encPr, encV] at hver
        have hL : (l.take i).length = i := by rw [List.length_take]; omega
        by_cases hq : vK p ∈ ksT M
        · obtain ⟨A, ⟨vs, t⟩, B, rfl, hA⟩ := mid_of hq hI.nd
          have hmf := mfindT_mid (q := vK p) (x := (vs, t)) (B := B) hA
          have ht : t ∈ T := hI.tk (vK p, (vs, t)) (by simp)
          have hvl := hI.len (vK p, (vs, t)) (by simp)
          rw [hL] at hvl
          simp only at hvl
          have hput := putT_mid (q := vK p) (x := (vs, t)) (B := B) (v := vs ++ [vV p]) (t := m) A (.sl 3 (vs.map encV) (.own t))
          have henc : vs.map encV ++ [.agg [.int .i64 (vV p).t, .str (vV p).v, .bool (vV p).d]] = (vs ++ [vV p]).map encV := encV_snoc vs (vV p)
          have hvm : (vs.map encV).length = vs.length := by simp
          have r1 : (vs.length + 1) * 32 ≤ 140737488355328 := by omega
          have r2 : vs.length + 1 < 4611686018427387904 := by omega
          have hnew := hI.old
          rw [← htk] at hnew
          have hkeys : ksT (A ++ (vK p, (vs ++ [vV p], m)) :: B) = ksT (A ++ (vK p, (vs, t)) :: B) := by simp [ksT]
          have hne : A ++ (vK p, (vs, t)) :: B ≠ [] := by simp
          obtain ⟨k1, k2⟩ := hk hne
          have hFk := hFk hne
          have k3 : ¬ (k = 0) := by omega
          have k4 : ¬ (k = n) := by omega
          have k5 : ¬ (k = n + 1) := by omega
          generalize hFd : mF (A ++ (vK p, (vs, t)) :: B) k = F at *
          repeat (first
            | ((first | apply Wp.seqItemsR | apply Wp.itemsR | ((first
                | (refine WpItems.pcall ?_ ?_ (hver) ?_; (· simp only [go_sem, reduceIte, Nat.reduceEqDiff, Nat.reduceAdd, bx]); (· simp only [go_sem, reduceIte, Nat.reduceEqDiff, Nat.reduceAdd, bx, List.map]; first | exact VSubs.refl _ | (repeat (first | exact VSubs.nil | refine VSubs.cons (by first | exact VSub.refl _ | assumption | exact VSub.cap | exact VSub.any _) ?_))))); apply WpItems.evR)); (· simp only [go_sem, reduceIte, Nat.reduceEqDiff, Nat.reduceAdd, bx, ax, if_true, if_false, Nat.reduceMul, Nat.reduceLeDiff, prs_length, g1, g2, h2, h3, hat, encPr, n1, n2, n3, n4, n5, Bool.not_true, Bool.not_false]; exact rfl))
            | (refine WpItems.nil ⟨?_, ?_⟩; (· first | trivial | simp [pairsQ, pairsOk, apart, ent0]))
            | (apply Wp.cond_lit; (· simp only [go_sem, reduceIte, Nat.reduceEqDiff, Nat.reduceAdd, bx, ax, if_true, if_false, Nat.reduceMul, Nat.reduceLeDiff, prs_length, g1, g2, h2, h3, hat, encPr, n1, n2, n3, n4, n5, Bool.not_true, Bool.not_false]; exact rfl); (· rfl))
            | refine Wp.skip ?_
            | refine Wp.label ?_
            | refine Wp.block ?_
            | refine Wp.exit ?_
            | refine Wp.seq ?_)
          repeat (first
            | ((first | apply Wp.seqItemsR | apply Wp.itemsR); (· simp only [go_sem, reduceIte, Nat.reduceEqDiff, Nat.reduceAdd, bx, ax, if_true, if_false, Nat.reduceMul, Nat.reduceLeDiff, hF0, hmf, n1, n2, n3, n4, n5, Bool.not_true]; exact rfl))
            | (refine WpItems.nil ⟨?_, ?_⟩; (· first | trivial | simp [pairsQ, pairsOk, apart, ent0]))
            | (apply Wp.cond_lit; (· simp only [go_sem, reduceIte, Nat.reduceEqDiff, Nat.reduceAdd, bx, ax, if_true, if_false, Nat.reduceMul, Nat.reduceLeDiff, hF0, hmf, n1, n2, n3, n4, n5, Bool.not_true]; exact rfl); (· rfl))
            | refine Wp.skip ?_
            | refine Wp.label ?_
            | refine Wp.block ?_
            | refine Wp.exit ?_
            | refine Wp.seq ?_)
          repeat (first
            | ((first | apply Wp.seqItemsR | apply Wp.itemsR); (· simp only [go_sem, reduceIte, Nat.reduceEqDiff, Nat.reduceAdd, bx, ax, if_true, if_false, Nat.reduceMul, Nat.reduceLeDiff, hF0, hmf, n1, n2, n3, n4, n5, ht, hvm, List.length_cons, List.length_nil, Nat.zero_add, r1, r2, henc, hput, e1]; exact rfl))
            | (refine WpItems.nil ⟨?_, ?_⟩; (· first | trivial | simp [pairsQ, pairsOk, apart, ent0]))
            | (apply Wp.cond_lit; (· simp only [go_sem, reduceIte, Nat.reduceEqDiff, Nat.reduceAdd, bx, ax, if_true, if_false, Nat.reduceMul, Nat.reduceLeDiff, hF0, hmf, n1, n2, n3, n4, n5, ht, hvm, List.length_cons, List.length_nil, Nat.zero_add, r1, r2, henc, hput, e1]; exact rfl); (· rfl))
            | refine Wp.skip ?_
            | refine Wp.label ?_
            | refine Wp.block ?_
            | refine Wp.exit ?_
            | refine Wp.seq ?_)
          refine ⟨(i + 1, A ++ (vK p, (vs ++ [vV p], m)) :: B, m :: T.filter (· ≠ t), k, n + 2, m + 1), ⟨by simp only; omega, hnew, by simp only; omega, fun _ => ⟨by simp only; omega, by simp only; omega⟩, all_step hs hst⟩, by simp only; omega, ?_⟩
          refine StLe.of (tm_le ?_) (mF_le ?_ fun _ => ?_) (fun _ h => h) (Nat.le_refl _) (Nat.le_refl _)
          · have e1 : keysV (A ++ (vK p, (vs ++ [vV p], m)) :: B) k = keysV (A ++ (vK p, (vs, t)) :: B) k := by simp [keysV]
            simp only [e1]
            simp only [AllSub, go_sem, reduceIte, Nat.reduceEqDiff, Nat.reduceAdd, bx]; and_intros <;> first | exact trivial | exact VSub.refl _ | exact VSub.any _ | (refine VSub.int ?_; omega)
          · have hset : (encMt (A ++ (vK p, (vs, t)) :: B)).set A.length (.str (vK p), .sl 3 (vs.map encV ++ [encV (vV p)]) (.own m)) = encMt (A ++ (vK p, (vs ++ [vV p], m)) :: B) := by simp [encMt]
            simp [upd]; exact hset
          · simp only [upd, k3, k4, k5, if_false, hkeys]; exact hFk
        · have hmf := mfindT_none hq
          have hput : putEs (encMt M) (vK p) (.sl 3 [.agg [.int .i64 (vV p).t, .str (vV p).v, .bool (vV p).d]] (.own m)) none = encMt (M ++ [(vK p, ([vV p], m))]) := putT_new (q := vK p) (M := M) (v := [vV p]) (t := m)
          have hnew := hI.new hq
          rw [← htk] at hnew
          have hcell : ∀ M : List MT, strs (ksT M) ++ ([AV.str (vK p)] : List AV).flatMap cellsOf = strs (ksT (M ++ [(vK p, ([vV p], m))])) := fun M => by simp [ksT, strs, cellsOf]
          have m6 : ¬ (n + 1 = n + 1 + 1) := by omega
          have m7 : ¬ (n = n + 1 + 1) := by omega
          have m8 : ¬ (0 = n + 1 + 1) := by omega
          have m9 : ¬ (n + 1 + 1 = 0) := by omega
          generalize hFd : mF M k = F at *
          repeat (first
            | ((first | apply Wp.seqItemsR | apply Wp.itemsR | ((first
                | (refine WpItems.pcall ?_ ?_ (hver) ?_; (· simp only [go_sem, reduceIte, Nat.reduceEqDiff, Nat.reduceAdd, bx]); (· simp only [go_sem, reduceIte, Nat.reduceEqDiff, Nat.reduceAdd, bx, List.map]; first | exact VSubs.refl _ | (repeat (first | exact VSubs.nil | refine VSubs.cons (by first | exact VSub.refl _ | assumption | exact VSub.cap | exact VSub.any _) ?_))))); apply WpItems.evR)); (· simp only [go_sem, reduceIte, Nat.reduceEqDiff, Nat.reduceAdd, bx, ax, if_true, if_false, Nat.reduceMul, Nat.reduceLeDiff, prs_length, g1, g2, h2, h3, hat, encPr, n1, n2, n3, n4, n5, Bool.not_true, Bool.not_false]; exact rfl))
            | (refine WpItems.nil ⟨?_, ?_⟩; (· first | trivial | simp [pairsQ, pairsOk, apart, ent0]))
            | (apply Wp.cond_lit; (· simp only [go_sem, reduceIte, Nat.reduceEqDiff, Nat.reduceAdd, bx, ax, if_true, if_false, Nat.reduceMul, Nat.reduceLeDiff, prs_length, g1, g2, h2, h3, hat, encPr, n1, n2, n3, n4, n5, Bool.not_true, Bool.not_false]; exact rfl); (· rfl))
            | refine Wp.skip ?_
            | refine Wp.label ?_
            | refine Wp.block ?_
            | refine Wp.exit ?_
            | refine Wp.seq ?_)
          refine Wp.reg1 (by simp only [go_sem, reduceIte, Nat.reduceEqDiff, Nat.reduceAdd, bx, ax, hF0, hmf, n1, n2, n3, n4, n5, if_true, if_false]; exact rfl) (by trivial) ?_
          refine Wp.seq ?_
          refine Wp.seqReg (by simp only [go_sem, reduceIte, Nat.reduceEqDiff, Nat.reduceAdd, bx, Bool.not_false]; exact rfl) (by trivial) ?_
          refine Wp.cond_true (by simp only [go_sem, reduceIte, Nat.reduceEqDiff, Nat.reduceAdd, bx]) ?_
          by_cases hM0 : M = []
          · subst hM0
            have hv0 : keysV [] k = .sl 1 [] (.exact 0) := rfl
            rw [hv0]
            refine Wp.reg ?_
            refine WpItems.part 3 (by simp only [go_sem, reduceIte, Nat.reduceEqDiff, Nat.reduceAdd, bx]; exact rfl) ?_
            simp only [List.drop_succ_cons, List.drop_zero, List.drop_nil]
            refine WpItems.opT (by simp only [go_sem, reduceIte, Nat.reduceEqDiff, Nat.reduceAdd, bx]) (by simp only [aopT, go_sem, reduceIte, Nat.reduceEqDiff, Nat.reduceAdd, bx, List.all_cons, List.all_nil, List.length_cons, List.length_nil, Nat.reduceMul, Nat.reduceLeDiff, Nat.reduceLT, Nat.zero_lt_succ, and_self, if_true, decide_true, Bool.and_self]; exact rfl) rfl ?_
            refine WpItems.part 1 (by simp only [go_sem, reduceIte, Nat.reduceEqDiff, Nat.reduceAdd, bx]; exact rfl) ?_
            simp only [List.drop_succ_cons, List.drop_zero, List.drop_nil]
            refine WpItems.nil ⟨by simp [pairsQ, pairsOk, apart, ent0], ?_⟩
            refine Wp.reg1 (by simp only [go_sem, reduceIte, Nat.reduceEqDiff, Nat.reduceAdd, bx, ax, if_true, if_false, hF0, n1, n2, n3, n4, n5, m6, m7, m8, m9, List.length_cons, List.length_nil, Nat.zero_add, Nat.reduceMul, Nat.reduceLeDiff, Nat.reduceLT, List.nil_append, hmf, hput]; exact rfl) (by trivial) ?_
            refine Wp.reg1 (by simp only [go_sem, reduceIte, Nat.reduceEqDiff, Nat.reduceAdd, bx, e1]; exact rfl) (by trivial) ?_
            refine ⟨(i + 1, [(vK p, ([vV p], m))], m :: T, n + 2, n + 3, m + 1), ⟨by simp only; omega, hnew, by simp only; omega, fun _ => ⟨by simp only; omega, by simp only; omega⟩, all_step hs hst⟩, by simp only; omega, ?_⟩
            refine StLe.of (tm_le ?_) (mF_le ?_ fun _ => ?_) (fun _ h => h) (Nat.le_refl _) (Nat.le_refl _)
            · simp only [keysV, List.cons_ne_nil, if_false, List.length_cons, List.length_nil]
              simp only [AllSub, go_sem, reduceIte, Nat.reduceEqDiff, Nat.reduceAdd, bx]; and_intros <;> first | exact trivial | exact VSub.refl _ | exact VSub.any _ | (refine VSub.int ?_; omega)
            · simp [upd, encMt, encV]
            · simp [upd, ksT, cellsOf, strs]
          · obtain ⟨k1, k2⟩ := hk hM0
            have hFk := hFk hM0
            have hv0 : keysV M k = .tsl 1 k 0 M.length none := by rw [keysV, if_neg hM0]
            have k3 : ¬ (k = 0) := by omega
            have k4 : ¬ (k = n) := by omega
            have k5 : ¬ (k = n + 1) := by omega
            have k6 : ¬ (0 = k) := by omega
            have k7 : ¬ (n = k) := by omega
            have k8 : ¬ (n + 1 = k) := by omega
            have hcl : (strs (ksT M)).length = M.length := by rw [strs_length]; simp [ksT]
            have r1 : (M.length + 1) * 16 ≤ 140737488355328 := by omega
            have r2 : M.length + 1 < 4611686018427387904 := by omega
            have hcellM := hcell M
            rw [hv0]
            refine Wp.reg ?_
            refine WpItems.part 3 (by simp only [go_sem, reduceIte, Nat.reduceEqDiff, Nat.reduceAdd, bx]; exact rfl) ?_
            simp only [List.drop_succ_cons, List.drop_zero, List.drop_nil]
            refine WpItems.opK (by simp only [go_sem, reduceIte, Nat.reduceEqDiff, Nat.reduceAdd, bx]) (by simp only [aopK, go_sem, reduceIte, Nat.reduceEqDiff, Nat.reduceAdd, bx, List.all_cons, List.all_nil, List.length_cons, List.length_nil, Nat.mul_one, k3, k4, k5, hFk, hcl, r1, r2, and_self, if_true, if_false, decide_true, Bool.and_self, hcellM]; exact rfl) rfl ?_
            refine WpItems.part 1 (by simp only [go_sem, reduceIte, Nat.reduceEqDiff, Nat.reduceAdd, bx]; exact rfl) ?_
            simp only [List.drop_succ_cons, List.drop_zero, List.drop_nil]
            refine WpItems.nil ⟨by simp [pairsQ, pairsOk, apart, ent0], ?_⟩
            refine Wp.reg1 (by simp only [go_sem, reduceIte, Nat.reduceEqDiff, Nat.reduceAdd, bx, ax, if_true, if_false, hF0, k6, k7, k8, n1, n2, n3, n4, n5, m6, m7, m8, m9, List.length_cons, List.length_nil, Nat.zero_add, Nat.reduceMul, Nat.reduceLeDiff, Nat.reduceLT, List.nil_append, hmf, hput]; exact rfl) (by trivial) ?_
            refine Wp.reg1 (by simp only [go_sem, reduceIte, Nat.reduceEqDiff, Nat.reduceAdd, bx, e1]; exact rfl) (by trivial) ?_
            refine ⟨(i + 1, M ++ [(vK p, ([vV p], m))], m :: T, n + 2, n + 3, m + 1), ⟨by simp only; omega, hnew, by simp only; omega, fun _ => ⟨by simp only; omega, by simp only; omega⟩, all_step hs hst⟩, by simp only; omega, ?_⟩
            refine StLe.of (tm_le ?_) (mF_le ?_ fun _ => ?_) (fun _ h => h) (Nat.le_refl _) (Nat.le_refl _)
            · have : M ++ [(vK p, ([vV p], m))] ≠ [] := by simp
              simp only [keysV, this, if_false, List.length_append, List.length_cons, List.length_nil]
              simp only [AllSub, go_sem, reduceIte, Nat.reduceEqDiff, Nat.reduceAdd, bx]; and_intros <;> first | exact trivial | exact VSub.refl _ | exact VSub.any _ | (refine VSub.int ?_; omega)
            · simp [upd, encMt, encV]
            · simp [upd]
      · have g2 : decide ((0 : Int) < (i : Int)) = true := decide_eq_true (by omega)
        have e2 : IntKind.i64.wrap ((i : Int) - 1) = ((i - 1 : Nat) : Int) := by rw [IntWalk.i64_in _ (by omega)]; omega
        have h4 : (0 : Int) ≤ ((i - 1 : Nat) : Int) := by omega
        have h5 : ((i - 1 : Nat) : Int) < (l.length : Int) := by omega
        have hat2 : (prs l).getD (i - 1) .any = encPr (l.getD (i - 1) default) := prs_getD l (i - 1) .any (by omega)
        cases hb : Op.bytesLess (l.getD (i - 1) default).k (l.getD i default).k with
        | false =>
          have hit := no ((stepI_pos hz).trans (by rw [hb, Bool.and_false]))
          generalize l.getD i default = p at *
          generalize l.getD (i - 1) default = y at *
          simp only [encPr, encV] at hver
          generalize hFd : mF M k = F at *
          repeat (first
            | ((first | apply Wp.seqItemsR | apply Wp.itemsR | ((first
                | (refine WpItems.pcall ?_ ?_ (hver) ?_; (· simp only [go_sem, reduceIte, Nat.reduceEqDiff, Nat.reduceAdd, bx]); (· simp only [go_sem, reduceIte, Nat.reduceEqDiff, Nat.reduceAdd, bx, List.map]; first | exact VSubs.refl _ | (repeat (first | exact VSubs.nil | refine VSubs.cons (by first | exact VSub.refl _ | assumption | exact VSub.cap | exact VSub.any _) ?_))))); apply WpItems.evR)); (· simp only [go_sem, reduceIte, Nat.reduceEqDiff, Nat.reduceAdd, bx, ax, if_true, if_false, Nat.reduceMul, Nat.reduceLeDiff, prs_length, g1, g2, h2, h3, e2, h4, h5, hat, hat2, hb, encPr, n1, n2, n3, n4, n5, Bool.not_true, Bool.not_false]; exact rfl))
            | (refine WpItems.nil ⟨?_, ?_⟩; (· first | trivial | simp [pairsQ, pairsOk, apart, ent0]))
            | (apply Wp.cond_lit; (· simp only [go_sem, reduceIte, Nat.reduceEqDiff, Nat.reduceAdd, bx, ax, if_true, if_false, Nat.reduceMul, Nat.reduceLeDiff, prs_length, g1, g2, h2, h3, e2, h4, h5, hat, hat2, hb, encPr, n1, n2, n3, n4, n5, Bool.not_true, Bool.not_false]; exact rfl); (· rfl))
            | refine Wp.skip ?_
            | refine Wp.label ?_
            | refine Wp.block ?_
            | refine Wp.exit ?_
            | refine Wp.seq ?_)
          refine Wp.ret ⟨trivial, _, rfl, ?_⟩
          simp only [go_sem, reduceIte, Nat.reduceEqDiff, Nat.reduceAdd, bx]
          exact bad hit
        | true =>
          have hst : stepI l i = true := (stepI_pos hz).trans (by rw [hb, hv]; rfl)
          generalize l.getD i default = p at *
          generalize l.getD (i - 1) default = y at *
          simp only [encPr, encV] at hver
          have hL : (l.take i).length = i := by rw [List.length_take]; omega
          by_cases hq : vK p ∈ ksT M
          · obtain ⟨A, ⟨vs, t⟩, B, rfl, hA⟩ := mid_of hq hI.nd
            have hmf := mfindT_mid (q := vK p) (x := (vs, t)) (B := B) hA
            have ht : t ∈ T := hI.tk (vK p, (vs, t)) (by simp)
            have hvl := hI.len (vK p, (vs, t)) (by simp)
            rw [hL] at hvl
            simp only at hvl
            have hput := putT_mid (q := vK p) (x := (vs, t)) (B := B) (v := vs ++ [vV p]) (t := m) A (.sl 3 (vs.map encV) (.own t))
            have henc : vs.map encV ++ [.agg [.int .i64 (vV p).t, .str (vV p).v, .bool (vV p).d]] = (vs ++ [vV p]).map encV := encV_snoc vs (vV p)
            have hvm : (vs.map encV).length = vs.length := by simp
            have r1 : (vs.length + 1) * 32 ≤ 140737488355328 := by omega
            have r2 : vs.length + 1 < 4611686018427387904 := by omega
            have hnew := hI.old
            rw [← htk] at hnew
            have hkeys : ksT (A ++ (vK p, (vs ++ [vV p], m)) :: B) = ksT (A ++ (vK p, (vs, t)) :: B) := by simp [ksT]
            have hne : A ++ (vK p, (vs, t)) :: B ≠ [] := by simp
            obtain ⟨k1, k2⟩ := hk hne
            have hFk := hFk hne
            have k3 : ¬ (k = 0) := by omega
            have k4 : ¬ (k = n) := by omega
            have k5 : ¬ (k = n + 1) := by omega
            generalize hFd : mF (A ++ (vK p, (vs, t)) :: B) k = F at *
            repeat (first
              | ((first | apply Wp.seqItemsR | apply Wp.itemsR | ((first
                  | (refine WpItems.pcall ?_ ?_ (hver) ?_; (· simp only [go_sem, reduceIte, Nat.reduceEqDiff, Nat.reduceAdd, bx]); (· simp only [go_sem, reduceIte, Nat.reduceEqDiff, Nat.reduceAdd, bx, List.map]; first | exact VSubs.refl _ | (repeat (first | exact VSubs.nil | refine VSubs.cons (by first | exact VSub.refl _ | assumption | exact VSub.cap | exact VSub.any _) ?_))))); apply WpItems.evR)); (· simp only [go_sem, reduceIte, Nat.reduceEqDiff, Nat.reduceAdd, bx, ax, if_true, if_false, Nat.reduceMul, Nat.reduceLeDiff, prs_length, g1, g2, e2, h4, h5, hat2, hb, h2, h3, hat, encPr, n1, n2, n3, n4, n5, Bool.not_true, Bool.not_false]; exact rfl))
              | (refine WpItems.nil ⟨?_, ?_⟩; (· first | trivial | simp [pairsQ, pairsOk, apart, ent0]))
              | (apply Wp.cond_lit; (· simp only [go_sem, reduceIte, Nat.reduceEqDiff, Nat.reduceAdd, bx, ax, if_true, if_false, Nat.reduceMul, Nat.reduceLeDiff, prs_length, g1, g2, e2, h4, h5, hat2, hb, h2, h3, hat, encPr, n1, n2, n3, n4, n5, Bool.not_true, Bool.not_false]; exact rfl); (· rfl))
              | refine Wp.skip ?_
              | refine Wp.label ?_
              | refine Wp.block ?_
              | refine Wp.exit ?_
              | refine Wp.seq ?_)
            repeat (first
              | ((first | apply Wp.seqItemsR | apply Wp.itemsR); (· simp only [go_sem, reduceIte, Nat.reduceEqDiff, Nat.reduceAdd, bx, ax, if_true, if_false, Nat.reduceMul, Nat.reduceLeDiff, hF0, hmf, n1, n2, n3, n4, n5, Bool.not_true]; exact rfl))
              | (refine WpItems.nil ⟨?_, ?_⟩; (· first | trivial | simp [pairsQ, pairsOk, apart, ent0]))
              | (apply Wp.cond_lit; (· simp only [go_sem, reduceIte, Nat.reduceEqDiff, Nat.reduceAdd, bx, ax, if_true, if_false, Nat.reduceMul, Nat.reduceLeDiff, hF0, hmf, n1, n2, n3, n4, n5, Bool.not_true]; exact rfl); (· rfl))
              | refine Wp.skip ?_
              | refine Wp.label ?_
              | refine Wp.block ?_
              | refine Wp.exit ?_
              | refine Wp.seq ?_)
            repeat (first
              | ((first | apply Wp.seqItemsR | apply Wp.itemsR); (· simp only [go_sem, reduceIte, Nat.reduceEqDiff, Nat.reduceAdd, bx, ax, if_true, if_false, Nat.reduceMul, Nat.reduceLeDiff, hF0, hmf, n1, n2, n3, n4, n5, ht, hvm, List.length_cons, List.length_nil, Nat.zero_add, r1, r2, henc, hput, e1]; exact rfl))
              | (refine WpItems.nil ⟨?_, ?_⟩; (· first | trivial | simp [pairsQ, pairsOk, apart, ent0]))
              | (apply Wp.cond_lit; (· simp only [go_sem, reduceIte, Nat.reduceEqDiff, Nat.reduceAdd, bx, ax, if_true, if_false, Nat.reduceMul, Nat.reduceLeDiff, hF0, hmf, n1, n2, n3, n4, n5, ht, hvm, List.length_cons, List.length_nil, Nat.zero_add, r1, r2, henc, hput, e1]; exact rfl); (· rfl))
              | refine Wp.skip ?_
              | refine Wp.label ?_
              | refine Wp.block ?_
              | refine Wp.exit ?_
              | refine Wp.seq ?_)
            refine ⟨(i + 1, A ++ (vK p, (vs ++ [vV p], m)) :: B, m :: T.filter (· ≠ t), k, n + 2, m + 1), ⟨by simp only; omega, hnew, by simp only; omega, fun _ => ⟨by simp only; omega, by simp only; omega⟩, all_step hs hst⟩, by simp only; omega, ?_⟩
            refine StLe.of (tm_le ?_) (mF_le ?_ fun _ => ?_) (fun _ h => h) (Nat.le_refl _) (Nat.le_refl _)
            · have e1 : keysV (A ++ (vK p, (vs ++ [vV p], m)) :: B) k = keysV (A ++ (vK p, (vs, t)) :: B) k := by simp [keysV]
              simp only [e1]
              simp only [AllSub, go_sem, reduceIte, Nat.reduceEqDiff, Nat.reduceAdd, bx]; and_intros <;> first | exact trivial | exact VSub.refl _ | exact VSub.any _ | (refine VSub.int ?_; omega)
            · have hset : (encMt (A ++ (vK p, (vs, t)) :: B)).set A.length (.str (vK p), .sl 3 (vs.map encV ++ [encV (vV p)]) (.own m)) = encMt (A ++ (vK p, (vs ++ [vV p], m)) :: B) := by simp [encMt]
              simp [upd]; exact hset
            · simp only [upd, k3, k4, k5, if_false, hkeys]; exact hFk
          · have hmf := mfindT_none hq
            have hput : putEs (encMt M) (vK p) (.sl 3 [.agg [.int .i64 (vV p).t, .str (vV p).v, .bool (vV p).d]] (.own m)) none = encMt (M ++ [(vK p, ([vV p], m))]) := putT_new (q := vK p) (M := M) (v := [vV p]) (t := m)
            have hnew := hI.new hq
            rw [← htk] at hnew
            have hcell : ∀ M : List MT, strs (ksT M) ++ ([AV.str (vK p)] : List AV).flatMap cellsOf = strs (ksT (M ++ [(vK p, ([vV p], m))])) := fun M => by simp [ksT, strs, cellsOf]
            have m6 : ¬ (n + 1 = n + 1 + 1) := by omega
            have m7 : ¬ (n = n + 1 + 1) := by omega
            have m8 : ¬ (0 = n + 1 + 1) := by omega
            have m9 : ¬ (n + 1 + 1 = 0) := by omega
            generalize hFd : mF M k = F at *
            repeat (first
              | ((first | apply Wp.seqItemsR | apply Wp.itemsR | ((first
                  | (refine WpItems.pcall ?_ ?_ (hver) ?_; (· simp only [go_sem, reduceIte, Nat.reduceEqDiff, Nat.reduceAdd, bx]); (· simp only [go_sem, reduceIte, Nat.reduceEqDiff, Nat.reduceAdd, bx, List.map]; first | exact VSubs.refl _ | (repeat (first | exact VSubs.nil | refine VSubs.cons (by first | exact VSub.refl _ | assumption | exact VSub.cap | exact VSub.any _) ?_))))); apply WpItems.evR)); (· simp only [go_sem, reduceIte, Nat.reduceEqDiff, Nat.reduceAdd, bx, ax, if_true, if_false, Nat.reduceMul, Nat.reduceLeDiff, prs_length, g1, g2, e2, h4, h5, hat2, hb, h2, h3, hat, encPr, n1, n2, n3, n4, n5, Bool.not_true, Bool.not_false]; exact rfl))
              | (refine WpItems.nil ⟨?_, ?_⟩; (· first | trivial | simp [pairsQ, pairsOk, apart, ent0]))
              | (apply Wp.cond_lit; (· simp only [go_sem, reduceIte, Nat.reduceEqDiff, Nat.reduceAdd, bx, ax, if_true, if_false, Nat.reduceMul, Nat.reduceLeDiff, prs_length, g1, g2, e2, h4, h5, hat2, hb, h2, h3, hat, encPr, n1, n2, n3, n4, n5, Bool.not_true, Bool.not_false]; exact rfl); (· rfl))
              | refine Wp.skip ?_
              | refine Wp.label ?_
              | refine Wp.block ?_
              | refine Wp.exit ?_
              | refine Wp.seq ?_)
            refine Wp.reg1 (by simp only [go_sem, reduceIte, Nat.reduceEqDiff, Nat.reduceAdd, bx, ax, hF0, hmf, n1, n2, n3, n4, n5, if_true, if_false]; exact rfl) (by trivial) ?_
            refine Wp.seq ?_
            refine Wp.seqReg (by simp only [go_sem, reduceIte, Nat.reduceEqDiff, Nat.reduceAdd, bx, Bool.not_false]; exact rfl) (by trivial) ?_
            refine Wp.cond_true (by simp only [go_sem, reduceIte, Nat.reduceEqDiff, Nat.reduceAdd, bx]) ?_
            by_cases hM0 : M = []
            · subst hM0
              have hv0 : keysV [] k = .sl 1 [] (.exact 0) := rfl
              rw [hv0]
              refine Wp.reg ?_
              refine WpItems.part 3 (by simp only [go_sem, reduceIte, Nat.reduceEqDiff, Nat.reduceAdd, bx]; exact rfl) ?_
              simp only [List.drop_succ_cons, List.drop_zero, List.drop_nil]
              refine WpItems.opT (by simp only [go_sem, reduceIte, Nat.reduceEqDiff, Nat.reduceAdd, bx]) (by simp only [aopT, go_sem, reduceIte, Nat.reduceEqDiff, Nat.reduceAdd, bx, List.all_cons, List.all_nil, List.length_cons, List.length_nil, Nat.reduceMul, Nat.reduceLeDiff, Nat.reduceLT, Nat.zero_lt_succ, and_self, if_true, decide_true, Bool.and_self]; exact rfl) rfl ?_
              refine WpItems.part 1 (by simp only [go_sem, reduceIte, Nat.reduceEqDiff, Nat.reduceAdd, bx]; exact rfl) ?_
              simp only [List.drop_succ_cons, List.drop_zero, List.drop_nil]
              refine WpItems.nil ⟨by simp [pairsQ, pairsOk, apart, ent0], ?_⟩
              refine Wp.reg1 (by simp only [go_sem, reduceIte, Nat.reduceEqDiff, Nat.reduceAdd, bx, ax, if_true, if_false, hF0, n1, n2, n3, n4, n5, m6, m7, m8, m9, List.length_cons, List.length_nil, Nat.zero_add, Nat.reduceMul, Nat.reduceLeDiff, Nat.reduceLT, List.nil_append, hmf, hput]; exact rfl) (by trivial) ?_
              refine Wp.reg1 (by simp only [go_sem, reduceIte, Nat.reduceEqDiff, Nat.reduceAdd, bx, e1]; exact rfl) (by trivial) ?_
              refine ⟨(i + 1, [(vK p, ([vV p], m))], m :: T, n + 2, n + 3, m + 1), ⟨by simp only; omega, hnew, by simp only; omega, fun _ => ⟨by simp only; omega, by simp only; omega⟩, all_step hs hst⟩, by simp only; omega, ?_⟩
              refine StLe.of (tm_le ?_) (mF_le ?_ fun _ => ?_) (fun _ h => h) (Nat.le_refl _) (Nat.le_refl _)
              · simp only [keysV, List.cons_ne_nil, if_false, List.length_cons, List.length_nil]
                simp only [AllSub, go_sem, reduceIte, Nat.reduceEqDiff, Nat.reduceAdd, bx]; and_intros <;> first | exact trivial | exact VSub.refl _ | exact VSub.any _ | (refine VSub.int ?_; omega)
              · simp [upd, encMt, encV]
              · simp [upd, ksT, cellsOf, strs]
            · obtain ⟨k1, k2⟩ := hk hM0
              have hFk := hFk hM0
              have hv0 : keysV M k = .tsl 1 k 0 M.length none := by rw [keysV, if_neg hM0]
              have k3 : ¬ (k = 0) := by omega
              have k4 : ¬ (k = n) := by omega
              have k5 : ¬ (k = n + 1) := by omega
              have k6 : ¬ (0 = k) := by omega
              have k7 : ¬ (n = k) := by omega
              have k8 : ¬ (n + 1 = k) := by omega
              have hcl : (strs (ksT M)).length = M.length := by rw [strs_length]; simp [ksT]
              have r1 : (M.length + 1) * 16 ≤ 140737488355328 := by omega
              have r2 : M.length + 1 < 4611686018427387904 := by omega
              have hcellM := hcell M
              rw [hv0]
              refine Wp.reg ?_
              refine WpItems.part 3 (by simp only [go_sem, reduceIte, Nat.reduceEqDiff, Nat.reduceAdd, bx]; exact rfl) ?_
              simp only [List.drop_succ_cons, List.drop_zero, List.drop_nil]
              refine WpItems.opK (by simp only [go_sem, reduceIte, Nat.reduceEqDiff, Nat.reduceAdd, bx]) (by simp only [aopK, go_sem, reduceIte, Nat.reduceEqDiff, Nat.reduceAdd, bx, List.all_cons, List.all_nil, List.length_cons, List.length_nil, Nat.mul_one, k3, k4, k5, hFk, hcl, r1, r2, and_self, if_true, if_false, decide_true, Bool.and_self, hcellM]; exact rfl) rfl ?_
              refine WpItems.part 1 (by simp only [go_sem, reduceIte, Nat.reduceEqDiff, Nat.reduceAdd, bx]; exact rfl) ?_
              simp only [List.drop_succ_cons, List.drop_zero, List.drop_nil]
              refine WpItems.nil ⟨by simp [pairsQ, pairsOk, apart, ent0], ?_⟩
              refine Wp.reg1 (by simp only [go_sem, reduceIte, Nat.reduceEqDiff, Nat.reduceAdd, bx, ax, if_true, if_false, hF0, k6, k7, k8, n1, n2, n3, n4, n5, m6, m7, m8, m9, List.length_cons, List.length_nil, Nat.zero_add, Nat.reduceMul, Nat.reduceLeDiff, Nat.reduceLT, List.nil_append, hmf, hput]; exact rfl) (by trivial) ?_
              refine Wp.reg1 (by simp only [go_sem, reduceIte, Nat.reduceEqDiff, Nat.reduceAdd, bx, e1]; exact rfl) (by trivial) ?_
              refine ⟨(i + 1, M ++ [(vK p, ([vV p], m))], m :: T, n + 2, n + 3, m + 1), ⟨by simp only; omega, hnew, by simp only; omega, fun _ => ⟨by simp only; omega, by simp only; omega⟩, all_step hs hst⟩, by simp only; omega, ?_⟩
              refine StLe.of (tm_le ?_) (mF_le ?_ fun _ => ?_) (fun _ h => h) (Nat.le_refl _) (Nat.le_refl _)
              · have : M ++ [(vK p, ([vV p], m))] ≠ [] := by simp
                simp only [keysV, this, if_false, List.length_append, List.length_cons, List.length_nil]
                simp only [AllSub, go_sem, reduceIte, Nat.reduceEqDiff, Nat.reduceAdd, bx]; and_intros <;> first | exact trivial | exact VSub.refl _ | exact VSub.any _ | (refine VSub.int ?_; omega)
              · simp [upd, encMt, encV]
              · simp [upd]
  · obtain rfl : i = l.length := by omega
    have g1 : decide (((l.length : Nat) : Int) < ((l.length : Nat) : Int)) = false := decide_eq_false (by omega)
    rw [List.take_length] at hI
    have hall : ∀ p ∈ l, vOkP p = true := fun p hp => by
      obtain ⟨j, hj, rfl⟩ := List.mem_iff_getElem.1 hp
      have := hs j hj
      rw [stepI, Bool.and_eq_true, Av.getD_el hj] at this
      exact this.1
    have hrise : l.Pairwise fun x y => Op.bytesLess x.k y.k = true := pw_adj (r := fun x y : Pr => Op.bytesLess x.k y.k = true) (fun x y z h1 h2 => less_trans h1 h2) fun j hj => by
      have := hs (j + 1) hj
      rw [stepI_pos (by omega), Bool.and_eq_true, Nat.add_sub_cancel] at this
      exact this.2
    have law := itR_law hall hrise
    have hb : bOkI l = okL (itR l) := by rw [bOkI, all_yes hs, Bool.true_and]
    have hRl : (itR l).length ≤ l.length := (itR_sm l fun p hp => by have := (hsz p hp).1; unfold Ls; omega).1
    have hRv : ∀ x ∈ itR l, x.2.length ≤ l.length := (itR_sm l fun p hp => by have := (hsz p hp).1; unfold Ls; omega).2.2.1
    by_cases hM0 : M = []
    · subst hM0
      have hl0 : l = [] := by
        cases l with
        | nil => rfl
        | cons p l =>
          have := (hI.key (vK p)).2 ⟨p, by simp, rfl⟩
          simp [ksT] at this
      subst hl0
      have hv0 : keysV [] k = .sl 1 [] (.exact 0) := rfl
      rw [hv0]
      have hlt0 : decide (((0 : Nat) : Int) < ((0 : Nat) : Int)) = false := rfl
      repeat (first
        | ((first | apply Wp.seqItemsR | apply Wp.itemsR | ((first
            | (refine WpItems.pcall ?_ ?_ (sortS0_p) ?_; (· simp only [go_sem, reduceIte, Nat.reduceEqDiff, Nat.reduceAdd, bx]); (· simp only [go_sem, reduceIte, Nat.reduceEqDiff, Nat.reduceAdd, bx, List.map]; exact VSubs.cons VSub.cap (VSubs.refl _)))); apply WpItems.evR)); (· simp only [go_sem, reduceIte, Nat.reduceEqDiff, Nat.reduceAdd, bx, ax, if_true, if_false, Nat.reduceMul, Nat.reduceLeDiff, g1, List.length_nil]; exact rfl))
        | (refine WpItems.nil ⟨?_, ?_⟩; (· first | trivial | simp [pairsQ, pairsOk, apart, ent0]))
        | (apply Wp.cond_lit; (· simp only [go_sem, reduceIte, Nat.reduceEqDiff, Nat.reduceAdd, bx, ax, if_true, if_false, Nat.reduceMul, Nat.reduceLeDiff, g1, List.length_nil]; exact rfl); (· rfl))
        | refine Wp.skip ?_
        | refine Wp.label ?_
        | refine Wp.block ?_
        | refine Wp.exit ?_
        | refine Wp.seq ?_)
      refine Wp.le (s' := ⟨_, ⟨none', n, [], m⟩⟩) (StLe.of (fun _ => VSub.refl _) (OLe.none _) (fun _ h => by simp at h) (Nat.le_refl _) (Nat.le_refl _)) ?_
      refine Wp.loopK [13, 69, 70] (by simp only [go_sem, reduceIte, Nat.reduceEqDiff, Nat.reduceAdd, bx, List.map]; exact rfl) (fun j : Nat => [(71, .int .i64 (j : Nat))]) (fun j => j = 0) (fun j => j) 0 rfl ?_ ?_
      · simp only [AllSub, go_sem, reduceIte, Nat.reduceEqDiff, Nat.reduceAdd, bx]; and_intros <;> first | exact trivial | exact VSub.refl _ | exact VSub.any _ | (refine VSub.int ?_; omega)
      rintro j rfl
      repeat (first
        | ((first | apply Wp.seqItemsR | apply Wp.itemsR); (· simp only [go_sem, reduceIte, Nat.reduceEqDiff, Nat.reduceAdd, bx, ax, if_true, if_false, Nat.reduceMul, Nat.reduceLeDiff, hlt0]; exact rfl))
        | (refine WpItems.nil ⟨?_, ?_⟩; (· first | trivial | simp [pairsQ, pairsOk, apart, ent0]))
        | (apply Wp.cond_lit; (· simp only [go_sem, reduceIte, Nat.reduceEqDiff, Nat.reduceAdd, bx, ax, if_true, if_false, Nat.reduceMul, Nat.reduceLeDiff, hlt0]; exact rfl); (· rfl))
        | refine Wp.skip ?_
        | refine Wp.label ?_
        | refine Wp.block ?_
        | refine Wp.exit ?_
        | refine Wp.seq ?_)
      refine Wp.ret ⟨trivial, _, rfl, ?_⟩
      simp only [go_sem, reduceIte, Nat.reduceEqDiff, Nat.reduceAdd, bx]
      exact VSub.tup (VSubs.cons VSub.cap (VSubs.refl _))
    · obtain ⟨k1, k2⟩ := hk hM0
      have hF0 := mF_zero (M := M) (k := k) (fun h => by omega)
      have hFk := mF_row (M := M) (k := k) hM0
      have hv0 : keysV M k = .tsl 1 k 0 (ksT M).length none := by rw [keysV, if_neg hM0]; simp [ksT]
      have hkl : (ksT M).length = M.length := by simp [ksT]
      have hMl : 0 < M.length := List.length_pos_iff.2 hM0
      have hrk : ((itR l).map (·.1)).Pairwise fun x y => Op.bytesLess x y = true := by rw [List.pairwise_map]; exact law.rise
      have hmem : ∀ x, x ∈ (itR l).map (·.1) ↔ x ∈ ksT M := fun x => by rw [law.key, hI.key]
      have hndR : ((itR l).map (·.1)).Nodup := hrk.imp fun h => less_ne h
      have hlen : ((itR l).map (·.1)).length = (ksT M).length := by
        refine Nat.le_antisymm ?_ ?_
        · exact sub_len hndR fun x hx => (hmem x).1 hx
        · exact sub_len hI.nd fun x hx => (hmem x).2 hx
      have hsort := sortS_a (ksT M) ((itR l).map (·.1)) (by omega) (by omega) hlen hI.nd hrk hmem (id := k) (h := .only (upd none' k (some (.cells (strs (ksT M))))) [] n m) (by simp [H.only, upd]) rfl
      have hsort' : ACalls Try.prog 24 [.tsl 1 k 0 (ksT M).length none] (.only (upd none' k (some (.cells (strs (ksT M))))) [] n m) (.tup []) (.only (upd none' k (some (.cells (strs ((itR l).map (·.1)))))) [] n m) := by
        simpa only [H.only, upd_upd'] using hsort
      rw [hv0]
      generalize hFd : mF M k = F at *
      repeat (first
        | ((first | apply Wp.seqItemsR | apply Wp.itemsR); (· simp only [go_sem, reduceIte, Nat.reduceEqDiff, Nat.reduceAdd, bx, ax, if_true, if_false, Nat.reduceMul, Nat.reduceLeDiff, g1]; exact rfl))
        | (refine WpItems.nil ⟨?_, ?_⟩; (· first | trivial | simp [pairsQ, pairsOk, apart, ent0]))
        | (apply Wp.cond_lit; (· simp only [go_sem, reduceIte, Nat.reduceEqDiff, Nat.reduceAdd, bx, ax, if_true, if_false, Nat.reduceMul, Nat.reduceLeDiff, g1]; exact rfl); (· rfl))
        | refine Wp.skip ?_
        | refine Wp.label ?_
        | refine Wp.block ?_
        | refine Wp.exit ?_
        | refine Wp.seq ?_)
      refine WpItems.acall (by simp only [go_sem]) (by simp only [go_sem, reduceIte, Nat.reduceEqDiff, List.map]; exact VSubs.refl _) hsort' (touch_write _ hFk) ?_
      refine WpItems.eval (by simp only [go_sem, reduceIte, Nat.reduceEqDiff, Nat.reduceAdd, bx]; exact rfl) ?_
      refine WpItems.nil ⟨by trivial, ?_⟩
      have kk : ¬ (0 = k) := by omega
      have hG0 : upd F k (some (Av.Obj.cells (strs ((itR l).map (·.1))))) 0 = some (.map (encMt M)) := by simp only [upd, kk, if_false]; exact hF0
      have hGk : upd F k (some (Av.Obj.cells (strs ((itR l).map (·.1))))) k = some (.cells (strs ((itR l).map (·.1)))) := by simp [upd]
      have hE : ∀ j, n ≤ j → upd F k (some (Av.Obj.cells (strs ((itR l).map (·.1))))) j = none := fun j hj => by
        rw [← hFd]
        simp only [upd, mF, if_neg hM0, none', show ¬ (j = k) by omega, show ¬ (j = 0) by omega, if_false]
      generalize upd F k (some (Av.Obj.cells (strs ((itR l).map (·.1))))) = E at *
      repeat (first
        | ((first | apply Wp.seqItemsR | apply Wp.itemsR); (· simp only [go_sem, reduceIte, Nat.reduceEqDiff, Nat.reduceAdd, bx, ax, if_true, if_false, Nat.reduceMul, Nat.reduceLeDiff]; exact rfl))
        | (refine WpItems.nil ⟨?_, ?_⟩; (· first | trivial | simp [pairsQ, pairsOk, apart, ent0]))
        | (apply Wp.cond_lit; (· simp only [go_sem, reduceIte, Nat.reduceEqDiff, Nat.reduceAdd, bx, ax, if_true, if_false, Nat.reduceMul, Nat.reduceLeDiff]; exact rfl); (· rfl))
        | refine Wp.skip ?_
        | refine Wp.label ?_
        | refine Wp.block ?_
        | refine Wp.exit ?_
        | refine Wp.seq ?_)
      refine Wp.le (s' := ⟨_, ⟨E, n, [], m⟩⟩) (StLe.of (fun _ => VSub.refl _) (OLe.refl' _) (fun _ h => by simp at h) (Nat.le_refl _) (Nat.le_refl _)) ?_
      refine Wp.le (StLe.tok _ _) ?_
      rw [← hlen]
      refine Wp.loopTokN [4, 69, 70] (by simp only [go_sem, reduceIte, Nat.reduceEqDiff, List.map]; exact rfl) (fun (j : Nat) tk => [(13, .sl 2 (((itR l).take j).map encI) (.own tk)), (71, .int .i64 (j : Nat))]) (fun j => j ≤ (itR l).length ∧ ∀ i, i < j → mayI ((itR l).getD i default) = true) (fun j => (itR l).length - j) 0 _ ⟨Nat.zero_le _, fun i h => absurd h (by omega)⟩ rfl ?_ ?_
      · simp only [AllSub, go_sem, reduceIte, Nat.reduceEqDiff, Nat.reduceAdd, bx]; and_intros <;> first | exact trivial | exact VSub.refl _ | exact VSub.any _ | exact VSub.own_of rfl | (refine VSub.int ?_; omega)
      rintro j tk n2 m2 hn2 ⟨hj, hms⟩
      have hn2' : n ≤ n2 := hn2
      have d0 : ¬ (0 = n2) := by omega
      have d1 : ¬ (k = n2) := by omega
      have hol : ((itR l).take j).length ≤ 100000 := by rw [List.length_take]; omega
      obtain ⟨g0, g0', -, -⟩ := rooms40 (show ((itR l).take j).length ≤ 2000000 by omega)
      by_cases hjc : j < (itR l).length
      · have kg1 : decide (((j : Nat) : Int) < (((itR l).map (·.1)).length : Int)) = true := decide_eq_true (by rw [List.length_map]; omega)
        have kh2 : (0 : Int) ≤ ((j : Nat) : Int) := by omega
        have kh3 : j < ((itR l).map (·.1)).length := by rw [List.length_map]; exact hjc
        have kh4 : ((j : Nat) : Int) < (((itR l).map (·.1)).length : Int) := by omega
        have ke1 : IntKind.i64.wrap (((j : Nat) : Int) + 1) = ((j + 1 : Nat) : Int) := by rw [IntWalk.i64_in _ (by omega)]; omega
        have hxm : (itR l).getD j default ∈ itR l := by rw [Av.getD_el hjc]; exact List.getElem_mem hjc
        have hsj : (strs ((itR l).map (·.1)))[j]? = some (.str ((itR l).getD j default).1) := by
          rw [Av.getD_el hjc]; simp [strs, hjc]
        have hq : ((itR l).getD j default).1 ∈ ksT M := (hmem _).1 (List.mem_map.2 ⟨_, hxm, rfl⟩)
        obtain ⟨A, ⟨vs, t⟩, B, hMe, hA⟩ := mid_of hq hI.nd
        have hvs : vs = ((itR l).getD j default).2 := by
          rw [law.ch _ hxm]
          exact hI.ch (((itR l).getD j default).1, (vs, t)) (by rw [hMe]; simp)
        have hmf : mfind ((itR l).getD j default).1 (encMt M) = some (some (A.length, .sl 3 (((itR l).getD j default).2.map encV) (.own t))) := by
          rw [← hvs, hMe]; exact mfindT_mid hA
        have hvl := hRv _ hxm
        have hmy := bmay_p ((itR l).getD j default) (by omega)
        have htk : (itR l).take (j + 1) = (itR l).take j ++ [(itR l).getD j default] := Av.take_snoc default hjc
        have hok : mayI ((itR l).getD j default) = false → bOkI l = false := fun h => by rw [hb]; exact all_no hjc (itOk_may h)
        cases hmm : mayI ((itR l).getD j default) with
        | false =>
          have nm := hok hmm
          rw [hmm] at hmy
          generalize (itR l).getD j default = x at *
          repeat (first
            | ((first | apply Wp.seqItemsR | apply Wp.itemsR); (· simp only [go_sem, reduceIte, Nat.reduceEqDiff, Nat.reduceAdd, bx, ax, if_true, if_false, Nat.reduceMul, Nat.reduceLeDiff, kg1, kh2, kh4, Int.toNat_natCast, Nat.mul_one, Nat.zero_add, hGk, hsj, hG0, hmf, d0, d1]; exact rfl))
            | (refine WpItems.nil ⟨?_, ?_⟩; (· first | trivial | simp [pairsQ, pairsOk, apart, ent0]))
            | (apply Wp.cond_lit; (· simp only [go_sem, reduceIte, Nat.reduceEqDiff, Nat.reduceAdd, bx, ax, if_true, if_false, Nat.reduceMul, Nat.reduceLeDiff, kg1, kh2, kh4, Int.toNat_natCast, Nat.mul_one, Nat.zero_add, hGk, hsj, hG0, hmf, d0, d1]; exact rfl); (· rfl))
            | refine Wp.skip ?_
            | refine Wp.label ?_
            | refine Wp.block ?_
            | refine Wp.exit ?_
            | refine Wp.seq ?_)
          refine WpItems.pcall (by simp only [go_sem, reduceIte, Nat.reduceEqDiff, Nat.reduceAdd, bx]) (by simp only [go_sem, reduceIte, Nat.reduceEqDiff, Nat.reduceAdd, bx, List.map]; exact VSubs.cons (subI _ _ _) VSubs.nil) (hmy) ?_
          refine WpItems.eval (by simp only [go_sem, reduceIte, Nat.reduceEqDiff, Nat.reduceAdd, bx, Bool.not_false]; exact rfl) ?_
          refine WpItems.nil ⟨by trivial, ?_⟩
          repeat (first
            | ((first | apply Wp.seqItemsR | apply Wp.itemsR); (· simp only [go_sem, reduceIte, Nat.reduceEqDiff, Nat.reduceAdd, bx, ax, if_true, if_false, Nat.reduceMul, Nat.reduceLeDiff]; exact rfl))
            | (refine WpItems.nil ⟨?_, ?_⟩; (· first | trivial | simp [pairsQ, pairsOk, apart, ent0]))
            | (apply Wp.cond_lit; (· simp only [go_sem, reduceIte, Nat.reduceEqDiff, Nat.reduceAdd, bx, ax, if_true, if_false, Nat.reduceMul, Nat.reduceLeDiff]; exact rfl); (· rfl))
            | refine Wp.skip ?_
            | refine Wp.label ?_
            | refine Wp.block ?_
            | refine Wp.exit ?_
            | refine Wp.seq ?_)
          refine Wp.ret ⟨trivial, _, rfl, ?_⟩
          simp only [go_sem, reduceIte, Nat.reduceEqDiff, Nat.reduceAdd, bx]
          exact bad nm
        | true =>
          rw [hmm] at hmy
          have hmsn : ∀ i, i < j + 1 → mayI ((itR l).getD i default) = true := fun i hi => by
            rcases Nat.lt_or_ge i j with h | h
            · exact hms i h
            · rw [show i = j by omega]; exact hmm
          generalize (itR l).getD j default = x at *
          repeat (first
            | ((first | apply Wp.seqItemsR | apply Wp.itemsR); (· simp only [go_sem, reduceIte, Nat.reduceEqDiff, Nat.reduceAdd, bx, ax, if_true, if_false, Nat.reduceMul, Nat.reduceLeDiff, kg1, kh2, kh4, Int.toNat_natCast, Nat.mul_one, Nat.zero_add, hGk, hsj, hG0, hmf, d0, d1]; exact rfl))
            | (refine WpItems.nil ⟨?_, ?_⟩; (· first | trivial | simp [pairsQ, pairsOk, apart, ent0]))
            | (apply Wp.cond_lit; (· simp only [go_sem, reduceIte, Nat.reduceEqDiff, Nat.reduceAdd, bx, ax, if_true, if_false, Nat.reduceMul, Nat.reduceLeDiff, kg1, kh2, kh4, Int.toNat_natCast, Nat.mul_one, Nat.zero_add, hGk, hsj, hG0, hmf, d0, d1]; exact rfl); (· rfl))
            | refine Wp.skip ?_
            | refine Wp.label ?_
            | refine Wp.block ?_
            | refine Wp.exit ?_
            | refine Wp.seq ?_)
          refine WpItems.pcall (by simp only [go_sem, reduceIte, Nat.reduceEqDiff, Nat.reduceAdd, bx]) (by simp only [go_sem, reduceIte, Nat.reduceEqDiff, Nat.reduceAdd, bx, List.map]; exact VSubs.cons (subI _ _ _) VSubs.nil) (hmy) ?_
          refine WpItems.eval (by simp only [go_sem, reduceIte, Nat.reduceEqDiff, Nat.reduceAdd, bx, Bool.not_true]; exact rfl) ?_
          refine WpItems.nil ⟨by trivial, ?_⟩
          repeat (first
            | ((first | apply Wp.seqItemsR | apply Wp.itemsR); (· simp only [go_sem, reduceIte, Nat.reduceEqDiff, Nat.reduceAdd, bx, ax, if_true, if_false, Nat.reduceMul, Nat.reduceLeDiff, d0, d1, List.length_map, List.length_cons, List.length_nil, Nat.zero_add, g0, g0', ke1]; exact rfl))
            | (refine WpItems.nil ⟨?_, ?_⟩; (· first | trivial | simp [pairsQ, pairsOk, apart, ent0]))
            | (apply Wp.cond_lit; (· simp only [go_sem, reduceIte, Nat.reduceEqDiff, Nat.reduceAdd, bx, ax, if_true, if_false, Nat.reduceMul, Nat.reduceLeDiff, d0, d1, List.length_map, List.length_cons, List.length_nil, Nat.zero_add, g0, g0', ke1]; exact rfl); (· rfl))
            | refine Wp.skip ?_
            | refine Wp.label ?_
            | refine Wp.block ?_
            | refine Wp.exit ?_
            | refine Wp.seq ?_)
          refine ⟨j + 1, m2, n2 + 1, m2 + 1, by omega, ⟨by omega, hmsn⟩, by omega, ?_⟩
          refine StLe.tmN (by omega) ?_ ?_
          · intro i o hi
            replace hi : E i = some o := hi
            refine ⟨o, ?_, OSub.refl _⟩
            have hne : ¬ (i = n2) := fun e => by rw [e, hE n2 hn2'] at hi; cases hi
            simp only [upd, hne, if_false]; exact hi
          · have hRm : ((itR l).map (·.1)).length = (itR l).length := List.length_map _
            simp only [AllSub, go_sem, reduceIte, Nat.reduceEqDiff, Nat.reduceAdd, bx]; and_intros <;> first | exact trivial | exact VSub.refl _ | exact VSub.any _ | (rw [htk]; exact rowI _ (subI _ _ _) _) | exact VSub.of_eq (by rw [hRm]) | (refine VSub.int ?_; omega)
      · obtain rfl : j = (itR l).length := by omega
        have kg1 : decide ((((itR l).length : Nat) : Int) < (((itR l).map (·.1)).length : Int)) = false := decide_eq_false (by rw [List.length_map]; omega)
        have hok : bOkI l = true := by
          rw [hb]
          refine okL_of law.rise fun x hx => ?_
          obtain ⟨i, hi, rfl⟩ := List.mem_iff_getElem.1 hx
          have := hms i hi
          rwa [Av.getD_el hi] at this
        repeat (first
          | ((first | apply Wp.seqItemsR | apply Wp.itemsR); (· simp only [go_sem, reduceIte, Nat.reduceEqDiff, Nat.reduceAdd, bx, ax, if_true, if_false, Nat.reduceMul, Nat.reduceLeDiff, kg1]; exact rfl))
          | (refine WpItems.nil ⟨?_, ?_⟩; (· first | trivial | simp [pairsQ, pairsOk, apart, ent0]))
          | (apply Wp.cond_lit; (· simp only [go_sem, reduceIte, Nat.reduceEqDiff, Nat.reduceAdd, bx, ax, if_true, if_false, Nat.reduceMul, Nat.reduceLeDiff, kg1]; exact rfl); (· rfl))
          | refine Wp.skip ?_
          | refine Wp.label ?_
          | refine Wp.block ?_
          | refine Wp.exit ?_
          | refine Wp.seq ?_)
        refine Wp.ret ⟨trivial, _, rfl, ?_⟩
        simp only [go_sem, reduceIte, Nat.reduceEqDiff, Nat.reduceAdd, bx]
        rw [hok, List.take_length]; exact VSub.tup (VSubs.cons VSub.cap (VSubs.refl _))
end Go.Proofs.Ytobokfclaooloaa.Space
end
section
set_option linter.unusedSimpArgs false
set_option linter.unusedVariables false
set_option maxRecDepth 100000
namespace Go.Proofs.Ytobokfclaooloaa.Space
open Go Go.Av Go.Proofs Go.Proofs.Ytobokfclaooloaa.C Go.Proofs.Ytobokfclaooloaa.Batch
theorem laid : laidOutB Try.prog = true := by kernel_rfl
theorem rowed : mapsRowed Try.prog = true := by kernel_rfl
theorem full : ∀ t e, t < Try.prog.types.size → Try.prog.underlying t = some (.slice e) → 0 < Try.prog.cellsOf e := slices_full_of Try.prog (by kernel_rfl)
theorem own : ownKnob Try.prog.godebug = none := by kernel_rfl
theorem bulk {H : Type} : Bulk (H := H) Rows.uptoBulk Rows.uptoBulkAll :=
  ⟨fun l => by simp [Rows.uptoBulk], fun k n => by simp [Rows.uptoBulk], fun b => by simp [Rows.uptoBulk], by simp [Rows.uptoBulk], fun a b => by simp [Rows.uptoBulk], fun a => by simp [Rows.uptoBulk], by simp [Rows.uptoBulkAll], fun d l => by simp [Rows.uptoBulkAll]⟩
theorem all_of {α : Type} {t : TypeId} {k : Nat} {enc : α → AV} {Q : α → Prop} (h1 : ∀ cs, Fits Try.prog k t cs → ∃ x, wrapE Try.prog t cs = enc x ∧ Q x) : ∀ {ys : List AV}, (∀ y ∈ ys, ∃ cs, Fits Try.prog k t cs ∧ y = wrapE Try.prog t cs) → ∃ l : List α, ys = l.map enc ∧ ∀ x ∈ l, Q x
  | [], _ => ⟨[], rfl, by simp⟩
  | y :: ys, h => by
    obtain ⟨l, rfl, hl⟩ := all_of h1 (ys := ys) (fun z hz => h z (by simp [hz]))
    obtain ⟨cs, g1, g2⟩ := h y (by simp)
    obtain ⟨x, e, q⟩ := h1 cs g1
    refine ⟨x :: l, by simp [g2, e], fun z hz => ?_⟩
    rcases List.mem_cons.1 hz with rfl | hz
    · exact q
    · exact hl z hz
theorem row_len {n b : Nat} (hb : 8 ≤ b) (h : n * b ≤ reachBytes) : n ≤ 35184372088832 := by
  have : n * 8 ≤ n * b := Nat.mul_le_mul_left n hb
  have e : reachBytes = 140737488351232 := rfl
  omega
theorem ver_fits {k : Nat} {cs : List AV} (h : Fits Try.prog (k + 2) 51 cs) : ∃ p : Ver, wrapE Try.prog 51 cs = encV p ∧ True := by
  have hw : ∀ cs, wrapE Try.prog 51 cs = .agg cs := fun cs => by
    unfold wrapE; rw [if_pos (by kernel_rfl)]
  rw [hw]
  unfold Fits at h
  rw [Try.underlying51] at h
  obtain ⟨xss, rfl, h⟩ := h
  cases h with | cons h0 h => cases h with | cons h1 h => cases h with | cons h2 h =>
  cases h
  unfold Fits at h0 h1 h2
  simp only at h0 h1 h2
  rw [Try.underlying3] at h0
  rw [Try.underlying9] at h1
  rw [Try.underlying4] at h2
  obtain ⟨n, rfl, hn⟩ := h0
  obtain ⟨v, rfl, hv⟩ := h1
  obtain ⟨d, rfl⟩ := h2
  exact ⟨⟨n, v, d⟩, rfl, trivial⟩
def ItOk (p : It) : Prop := p.1.length ≤ reachBytes ∧ p.2.length ≤ 4398046510976
theorem item_fits {k : Nat} {cs : List AV} (h : Fits Try.prog (k + 4) 40 cs) : ∃ p : It, wrapE Try.prog 40 cs = encI p ∧ ItOk p := by
  have hw : ∀ cs, wrapE Try.prog 40 cs = .agg cs := fun cs => by
    unfold wrapE; rw [if_pos (by kernel_rfl)]
  rw [hw]
  unfold Fits at h
  rw [Try.underlying40] at h
  obtain ⟨xss, rfl, h⟩ := h
  cases h with | cons h0 h => cases h with | cons h1 h =>
  cases h
  unfold Fits at h0 h1
  simp only at h0 h1
  rw [Try.underlying9] at h0
  rw [Try.underlying38] at h1
  obtain ⟨q, rfl, hq⟩ := h0
  obtain ⟨xs, rfl, hlx, hx⟩ := h1
  obtain ⟨l, rfl, -⟩ := all_of (fun cs h => ver_fits h) hx
  have c1 : Try.prog.cellsOf 51 = 3 := by kernel_rfl
  have c2 : Try.prog.bytesOf 51 = 32 := by kernel_rfl
  rw [List.length_map, c2] at hlx
  refine ⟨(q, l), ?_, hq, by have e : reachBytes = 140737488351232 := rfl; simp only; omega⟩
  simp [encI, vAV, c1]
theorem open_items {a : AV} (h : ArgFits Try.prog 5 22 a) : ∃ l : List It, a = .sl 2 (l.map encI) .any ∧ l.length ≤ 35184372088832 ∧ ∀ p ∈ l, ItOk p := by
  obtain ⟨cs, h, rfl⟩ := h
  unfold Fits at h
  rw [Try.underlying22] at h
  obtain ⟨xs, rfl, hlx, hx⟩ := h
  obtain ⟨l, rfl, hl⟩ := all_of (fun cs h => item_fits h) hx
  have c1 : Try.prog.cellsOf 40 = 2 := by kernel_rfl
  have c2 : Try.prog.bytesOf 40 = 40 := by kernel_rfl
  rw [List.length_map, c2] at hlx
  refine ⟨l, ?_, row_len (by decide) hlx, hl⟩
  unfold wrapE; rw [if_neg (by rw [show isAggT Try.prog 22 = false by kernel_rfl]; simp), c1]; rfl
end Go.Proofs.Ytobokfclaooloaa.Space
end
section
set_option linter.unusedSimpArgs false
set_option linter.unusedVariables false
set_option maxRecDepth 10000
namespace Go.Proofs.Ytobokfclaooloaa.Space
open Go Go.Av Go.Proofs Go.Proofs.Ytobokfclaooloaa.C Go.Proofs.Ytobokfclaooloaa.Batch
def fewB (l : List It) : Bool := decide (l.length + (prL l).length < 300)
set_option maxHeartbeats 1000000 in
theorem fewI_p (l : List It) (hl : l.length ≤ 35184372088832) (hv : ∀ x ∈ l, x.2.length ≤ 4398046511104) : PCalls Try.prog 5 [.sl 2 (l.map encI) .any] (.bool (fewB l)) := by
  refine f5.pcalls0 (by simp) (by simp [allPure, isPure, capPure, its_pure]) rfl ?_
  unfold c5
  have hil : (l.map encI).length = l.length := by simp
  repeat (first
    | ((first | apply Wp.seqItemsR | apply Wp.itemsR); (· simp only [go_sem, reduceIte, Nat.reduceEqDiff, Nat.reduceAdd, bx, ax, if_true, if_false, Nat.reduceMul, Nat.reduceLeDiff, hil]; exact rfl))
    | (refine WpItems.nil ⟨?_, ?_⟩; (· first | trivial | simp [pairsQ, pairsOk, apart, ent0]))
    | (apply Wp.cond_lit; (· simp only [go_sem, reduceIte, Nat.reduceEqDiff, Nat.reduceAdd, bx, ax, if_true, if_false, Nat.reduceMul, Nat.reduceLeDiff, hil]; exact rfl); (· rfl))
    | refine Wp.skip ?_
    | refine Wp.label ?_
    | refine Wp.block ?_
    | refine Wp.exit ?_
    | refine Wp.seq ?_)
  refine Wp.loopK [0] (by simp only [go_sem, reduceIte, Nat.reduceEqDiff, Nat.reduceAdd, bx, List.map]; exact rfl) (fun j : Nat => [(3, .int .i64 ((l.length + (prL (l.take j)).length : Nat) : Int)), (4, .int .i64 (j : Nat))]) (fun j => j ≤ l.length ∧ (0 < j → l.length + (prL (l.take (j - 1))).length < 300)) (fun j => l.length - j) 0 ⟨Nat.zero_le _, fun h => absurd h (by omega)⟩ ?_ ?_
  · simp only [AllSub, go_sem, reduceIte, Nat.reduceEqDiff, Nat.reduceAdd, bx]; and_intros <;> first | exact trivial | exact VSub.refl _ | exact VSub.any _ | exact VSub.of_eq (by simp [prL]) | (refine VSub.int ?_; omega)
  rintro j ⟨hj, hs⟩
  by_cases hc : j < l.length
  · have g1 : decide (((j : Nat) : Int) < ((l.length : Nat) : Int)) = true := decide_eq_true (by omega)
    have h2 : (0 : Int) ≤ ((j : Nat) : Int) := by omega
    have h3 : ((j : Nat) : Int) < ((l.length : Nat) : Int) := by omega
    have e1 : IntKind.i64.wrap (((j : Nat) : Int) + 1) = ((j + 1 : Nat) : Int) := by rw [IntWalk.i64_in _ (by omega)]; omega
    have hat := enc_at encI l j .any hc
    have htk := prL_take hc
    have hle := prL_le l (j + 1)
    have hpi : (prI (l.getD j default)).length = (l.getD j default).2.length := by simp [prI]
    have hvj : (l.getD j default).2.length ≤ 4398046511104 := hv _ (by rw [Av.getD_el hc]; exact List.getElem_mem hc)
    by_cases h3 : l.length + (prL (l.take j)).length < 300
    · have d1 : decide (((l.length + (prL (l.take j)).length : Nat) : Int) < 300) = true := decide_eq_true (by omega)
      have w1 : IntKind.i64.wrap (((l.length + (prL (l.take j)).length : Nat) : Int) + ((l.getD j default).2.length : Int)) = ((l.length + (prL (l.take (j + 1))).length : Nat) : Int) := by
        rw [htk, List.length_append, hpi, IntWalk.i64_in _ (by omega)]; omega
      generalize l.getD j default = x at *
      have h3' : ((j : Nat) : Int) < ((l.length : Nat) : Int) := by omega
      repeat (first
        | ((first | apply Wp.seqItemsR | apply Wp.itemsR); (· simp only [go_sem, reduceIte, Nat.reduceEqDiff, Nat.reduceAdd, bx, ax, if_true, if_false, Nat.reduceMul, Nat.reduceLeDiff, hil, g1, h2, h3', d1, hat, encI, vAV, List.length_map, w1, e1]; exact rfl))
        | (refine WpItems.nil ⟨?_, ?_⟩; (· first | trivial | simp [pairsQ, pairsOk, apart, ent0]))
        | (apply Wp.cond_lit; (· simp only [go_sem, reduceIte, Nat.reduceEqDiff, Nat.reduceAdd, bx, ax, if_true, if_false, Nat.reduceMul, Nat.reduceLeDiff, hil, g1, h2, h3', d1, hat, encI, vAV, List.length_map, w1, e1]; exact rfl); (· rfl))
        | refine Wp.skip ?_
        | refine Wp.label ?_
        | refine Wp.block ?_
        | refine Wp.exit ?_
        | refine Wp.seq ?_)
      refine ⟨j + 1, ⟨by omega, fun _ => by simpa using h3⟩, by omega, ?_⟩
      refine StLe.tm (by simp only [AllSub, go_sem, reduceIte, Nat.reduceEqDiff, Nat.reduceAdd, bx]; and_intros <;> first | exact trivial | exact VSub.refl _ | exact VSub.any _ | (refine VSub.int ?_; omega))
    · have d1 : decide (((l.length + (prL (l.take j)).length : Nat) : Int) < 300) = false := decide_eq_false (by omega)
      have hf : fewB l = false := by
        have := prL_le l j
        simp [fewB]; omega
      repeat (first
        | ((first | apply Wp.seqItemsR | apply Wp.itemsR); (· simp only [go_sem, reduceIte, Nat.reduceEqDiff, Nat.reduceAdd, bx, ax, if_true, if_false, Nat.reduceMul, Nat.reduceLeDiff, hil, g1, d1]; exact rfl))
        | (refine WpItems.nil ⟨?_, ?_⟩; (· first | trivial | simp [pairsQ, pairsOk, apart, ent0]))
        | (apply Wp.cond_lit; (· simp only [go_sem, reduceIte, Nat.reduceEqDiff, Nat.reduceAdd, bx, ax, if_true, if_false, Nat.reduceMul, Nat.reduceLeDiff, hil, g1, d1]; exact rfl); (· rfl))
        | refine Wp.skip ?_
        | refine Wp.label ?_
        | refine Wp.block ?_
        | refine Wp.exit ?_
        | refine Wp.seq ?_)
      refine Wp.ret ⟨trivial, _, rfl, ?_⟩
      simp only [go_sem, reduceIte, Nat.reduceEqDiff, Nat.reduceAdd, bx]
      rw [hf]; exact VSub.refl _
  · obtain rfl : j = l.length := by omega
    have g1 : decide (((l.length : Nat) : Int) < ((l.length : Nat) : Int)) = false := decide_eq_false (by omega)
    have hf : decide (((l.length + (prL (l.take l.length)).length : Nat) : Int) < 300) = fewB l := by
      rw [List.take_length]; unfold fewB
      by_cases h : l.length + (prL l).length < 300
      · rw [decide_eq_true h, decide_eq_true (by omega)]
      · rw [decide_eq_false h, decide_eq_false (by omega)]
    repeat (first
      | ((first | apply Wp.seqItemsR | apply Wp.itemsR); (· simp only [go_sem, reduceIte, Nat.reduceEqDiff, Nat.reduceAdd, bx, ax, if_true, if_false, Nat.reduceMul, Nat.reduceLeDiff, hil, g1, hf]; exact rfl))
      | (refine WpItems.nil ⟨?_, ?_⟩; (· first | trivial | simp [pairsQ, pairsOk, apart, ent0]))
      | (apply Wp.cond_lit; (· simp only [go_sem, reduceIte, Nat.reduceEqDiff, Nat.reduceAdd, bx, ax, if_true, if_false, Nat.reduceMul, Nat.reduceLeDiff, hil, g1, hf]; exact rfl); (· rfl))
      | refine Wp.skip ?_
      | refine Wp.label ?_
      | refine Wp.block ?_
      | refine Wp.exit ?_
      | refine Wp.seq ?_)
    refine Wp.ret ⟨trivial, _, rfl, ?_⟩
    simp only [go_sem, reduceIte, Nat.reduceEqDiff, Nat.reduceAdd, bx]
    exact VSub.refl _
theorem sm_few {l : List It} (h : fewB l = true) (hk : ∀ x ∈ l, Ls x.1) : SmI l ∧ (prL l).length < 300 ∧ l.length < 300 := by
  simp only [fewB, decide_eq_true_eq] at h
  refine ⟨⟨by omega, hk, fun x hx => ?_⟩, by omega, by omega⟩
  obtain ⟨i, hi, rfl⟩ := List.mem_iff_getElem.1 hx
  have h1 := prL_take hi
  have h2 := prL_le l (i + 1)
  have hpi : (prI (l.getD i default)).length = (l.getD i default).2.length := by simp [prI]
  rw [h1, List.length_append, hpi, Av.getD_el hi] at h2
  omega
set_option maxHeartbeats 2000000 in
theorem itemsLaw_p (l : List It) (hl : l.length ≤ 35184372088832) (hk : ∀ x ∈ l, Ls x.1) (hv : ∀ x ∈ l, x.2.length ≤ 4398046511104) (lp : PCalls Try.prog 6 [] (.bool true)) :
    PCalls Try.prog 4 [.sl 2 (l.map encI) .any] (.bool true) := by
  refine f4.pcalls0 (by simp) (by simp [allPure, isPure, capPure, its_pure, prs_pure]) rfl ?_
  unfold c4
  have hf := fewI_p l hl hv
  have hil : (l.map encI).length = l.length := by simp
  cases hb : fewB l with
  | false =>
    rw [hb] at hf
    repeat (first
      | ((first | apply Wp.seqItemsR | apply Wp.itemsR | ((first
          | (refine WpItems.pcall ?_ ?_ (hf) ?_; (· simp only [go_sem, reduceIte, Nat.reduceEqDiff, Nat.reduceAdd, bx]); (· simp only [go_sem, reduceIte, Nat.reduceEqDiff, Nat.reduceAdd, bx, List.map]; first | exact VSubs.refl _ | (repeat (first | exact VSubs.nil | refine VSubs.cons (by first | exact VSub.refl _ | assumption | exact VSub.cap | exact VSub.any _) ?_))))
          | (refine WpItems.pcall ?_ ?_ (lp) ?_; (· simp only [go_sem, reduceIte, Nat.reduceEqDiff, Nat.reduceAdd, bx]); (· simp only [go_sem, reduceIte, Nat.reduceEqDiff, Nat.reduceAdd, bx, List.map]; first | exact VSubs.refl _ | (repeat (first | exact VSubs.nil | refine VSubs.cons (by first | exact VSub.refl _ | assumption | exact VSub.cap | exact VSub.any _) ?_))))); apply WpItems.evR)); (· simp only [go_sem, reduceIte, Nat.reduceEqDiff, Nat.reduceAdd, bx, ax, if_true, if_false, Nat.reduceMul, Nat.reduceLeDiff, Bool.not_false]; exact rfl))
      | (refine WpItems.nil ⟨?_, ?_⟩; (· first | trivial | simp [pairsQ, pairsOk, apart, ent0]))
      | (apply Wp.cond_lit; (· simp only [go_sem, reduceIte, Nat.reduceEqDiff, Nat.reduceAdd, bx, ax, if_true, if_false, Nat.reduceMul, Nat.reduceLeDiff, Bool.not_false]; exact rfl); (· rfl))
      | refine Wp.skip ?_
      | refine Wp.label ?_
      | refine Wp.block ?_
      | refine Wp.exit ?_
      | refine Wp.seq ?_)
    refine Wp.ret ⟨trivial, _, rfl, ?_⟩
    simp only [go_sem, reduceIte, Nat.reduceEqDiff, Nat.reduceAdd, bx]
    exact VSub.refl _
  | true =>
    rw [hb] at hf
    obtain ⟨sl, h1, h2⟩ := sm_few hb hk
    have hA := pairs_p l sl (by omega)
    cases hok : okL l with
    | false =>
      rw [hok] at hA
      simp only [Bool.false_eq_true, if_false] at hA
      have d1 : decide ((2 : Int) = 0) = false := rfl
      have d2 : decide ((2 : Int) = 2) = true := rfl
      have d3 : decide (((0 : Nat) : Int) = 0) = true := rfl
      repeat (first
        | ((first | apply Wp.seqItemsR | apply Wp.itemsR | ((first
            | (refine WpItems.pcall ?_ ?_ (hf) ?_; (· simp only [go_sem, reduceIte, Nat.reduceEqDiff, Nat.reduceAdd, bx]); (· simp only [go_sem, reduceIte, Nat.reduceEqDiff, Nat.reduceAdd, bx, List.map]; first | exact VSubs.refl _ | (repeat (first | exact VSubs.nil | refine VSubs.cons (by first | exact VSub.refl _ | assumption | exact VSub.cap | exact VSub.any _) ?_))))
            | (refine WpItems.pcall ?_ ?_ (hA) ?_; (· simp only [go_sem, reduceIte, Nat.reduceEqDiff, Nat.reduceAdd, bx]); (· simp only [go_sem, reduceIte, Nat.reduceEqDiff, Nat.reduceAdd, bx, List.map]; first | exact VSubs.refl _ | (repeat (first | exact VSubs.nil | refine VSubs.cons (by first | exact VSub.refl _ | assumption | exact VSub.cap | exact VSub.any _) ?_))))
            | (refine WpItems.pcall ?_ ?_ (lp) ?_; (· simp only [go_sem, reduceIte, Nat.reduceEqDiff, Nat.reduceAdd, bx]); (· simp only [go_sem, reduceIte, Nat.reduceEqDiff, Nat.reduceAdd, bx, List.map]; first | exact VSubs.refl _ | (repeat (first | exact VSubs.nil | refine VSubs.cons (by first | exact VSub.refl _ | assumption | exact VSub.cap | exact VSub.any _) ?_))))); apply WpItems.evR)); (· simp only [go_sem, reduceIte, Nat.reduceEqDiff, Nat.reduceAdd, bx, ax, if_true, if_false, Nat.reduceMul, Nat.reduceLeDiff, Bool.not_true, Bool.not_false, d1, d2, d3, prs, List.map_nil, List.length_nil]; exact rfl))
        | (refine WpItems.nil ⟨?_, ?_⟩; (· first | trivial | simp [pairsQ, pairsOk, apart, ent0]))
        | (apply Wp.cond_lit; (· simp only [go_sem, reduceIte, Nat.reduceEqDiff, Nat.reduceAdd, bx, ax, if_true, if_false, Nat.reduceMul, Nat.reduceLeDiff, Bool.not_true, Bool.not_false, d1, d2, d3, prs, List.map_nil, List.length_nil]; exact rfl); (· rfl))
        | refine Wp.skip ?_
        | refine Wp.label ?_
        | refine Wp.block ?_
        | refine Wp.exit ?_
        | refine Wp.seq ?_)
      refine Wp.ret ⟨trivial, _, rfl, ?_⟩
      simp only [go_sem, reduceIte, Nat.reduceEqDiff, Nat.reduceAdd, bx]
      exact VSub.refl _
    | true =>
      rw [hok] at hA
      simp only [if_true] at hA
      have d1 : decide ((0 : Int) = 0) = true := rfl
      obtain ⟨s1, s2⟩ := sorted_new (prL_keys hok) (prL_shut hok)
      have s3 := sorted_rise (prL l)
      have s4 : ∀ x ∈ sortedP (prL l), 8 ≤ x.k.length ∧ x.k.length ≤ 128 ∧ 1 ≤ x.v.length ∧ x.v.length ≤ 200 := fun x hx => by
        have := (s2 x).1 hx
        simp only [prL, prI, List.mem_flatMap, List.mem_map] at this
        obtain ⟨y, hy, v, hv, rfl⟩ := this
        obtain ⟨m1, m2, m3, m4⟩ := mayI_iff.1 (okL_all hok y hy)
        have := m4 v hv
        simp only [prV, List.length_append, be_length, vval]
        refine ⟨by omega, by omega, ?_⟩
        split <;> simp <;> omega
      have hI := items_p (sortedP (prL l)) (by omega) fun x hx => by have := s4 x hx; omega
      have hbk : bOkI (sortedP (prL l)) = true ∧ itR (sortedP (prL l)) = l := items_back hok
      rw [hbk.1, hbk.2] at hI
      simp only [if_true] at hI
      have hS2 := sameI_p l l (by omega) sl.v
      rw [decide_eq_true rfl] at hS2
      generalize sortedP (prL l) = A at *
      repeat (first
        | ((first | apply Wp.seqItemsR | apply Wp.itemsR | ((first
            | (refine WpItems.pcall ?_ ?_ (hf) ?_; (· simp only [go_sem, reduceIte, Nat.reduceEqDiff, Nat.reduceAdd, bx]); (· simp only [go_sem, reduceIte, Nat.reduceEqDiff, Nat.reduceAdd, bx, List.map]; first | exact VSubs.refl _ | (repeat (first | exact VSubs.nil | refine VSubs.cons (by first | exact VSub.refl _ | assumption | exact VSub.cap | exact VSub.any _) ?_))))
            | (refine WpItems.pcall ?_ ?_ (hA) ?_; (· simp only [go_sem, reduceIte, Nat.reduceEqDiff, Nat.reduceAdd, bx]); (· simp only [go_sem, reduceIte, Nat.reduceEqDiff, Nat.reduceAdd, bx, List.map]; first | exact VSubs.refl _ | (repeat (first | exact VSubs.nil | refine VSubs.cons (by first | exact VSub.refl _ | assumption | exact VSub.cap | exact VSub.any _) ?_))))); apply WpItems.evR)); (· simp only [go_sem, reduceIte, Nat.reduceEqDiff, Nat.reduceAdd, bx, ax, if_true, if_false, Nat.reduceMul, Nat.reduceLeDiff, Bool.not_true, d1, hil]; exact rfl))
        | (refine WpItems.nil ⟨?_, ?_⟩; (· first | trivial | simp [pairsQ, pairsOk, apart, ent0]))
        | (apply Wp.cond_lit; (· simp only [go_sem, reduceIte, Nat.reduceEqDiff, Nat.reduceAdd, bx, ax, if_true, if_false, Nat.reduceMul, Nat.reduceLeDiff, Bool.not_true, d1, hil]; exact rfl); (· rfl))
        | refine Wp.skip ?_
        | refine Wp.label ?_
        | refine Wp.block ?_
        | refine Wp.exit ?_
        | refine Wp.seq ?_)
      refine Wp.loopK [0, 3, 4] (by simp only [go_sem, reduceIte, Nat.reduceEqDiff, Nat.reduceAdd, bx, List.map]; exact rfl) (fun j : Nat => [(5, .int .i64 (((prL (l.take j)).length : Nat) : Int)), (6, .int .i64 (j : Nat))]) (fun j => j ≤ l.length) (fun j => l.length - j) 0 (Nat.zero_le _) ?_ ?_
      · simp only [AllSub, go_sem, reduceIte, Nat.reduceEqDiff, Nat.reduceAdd, bx]; and_intros <;> first | exact trivial | exact VSub.refl _ | exact VSub.any _ | exact VSub.of_eq (by simp [prL]) | (refine VSub.int ?_; omega)
      intro j hj
      by_cases hc : j < l.length
      · have g1 : decide (((j : Nat) : Int) < ((l.length : Nat) : Int)) = true := decide_eq_true (by omega)
        have h2 : (0 : Int) ≤ ((j : Nat) : Int) := by omega
        have h3 : ((j : Nat) : Int) < ((l.length : Nat) : Int) := by omega
        have e1 : IntKind.i64.wrap (((j : Nat) : Int) + 1) = ((j + 1 : Nat) : Int) := by rw [IntWalk.i64_in _ (by omega)]; omega
        have hat := enc_at encI l j .any hc
        have htk := prL_take hc
        have hle := prL_le l (j + 1)
        have hpi : (prI (l.getD j default)).length = (l.getD j default).2.length := by simp [prI]
        have w1 : IntKind.i64.wrap ((((prL (l.take j)).length : Nat) : Int) + ((l.getD j default).2.length : Int)) = (((prL (l.take (j + 1))).length : Nat) : Int) := by
          rw [htk, List.length_append] at hle ⊢
          rw [hpi] at hle ⊢
          rw [IntWalk.i64_in _ (by omega)]; omega
        generalize l.getD j default = x at *
        repeat (first
          | ((first | apply Wp.seqItemsR | apply Wp.itemsR); (· simp only [go_sem, reduceIte, Nat.reduceEqDiff, Nat.reduceAdd, bx, ax, if_true, if_false, Nat.reduceMul, Nat.reduceLeDiff, hil, g1, h2, h3, hat, encI, vAV, List.length_map, w1, e1]; exact rfl))
          | (refine WpItems.nil ⟨?_, ?_⟩; (· first | trivial | simp [pairsQ, pairsOk, apart, ent0]))
          | (apply Wp.cond_lit; (· simp only [go_sem, reduceIte, Nat.reduceEqDiff, Nat.reduceAdd, bx, ax, if_true, if_false, Nat.reduceMul, Nat.reduceLeDiff, hil, g1, h2, h3, hat, encI, vAV, List.length_map, w1, e1]; exact rfl); (· rfl))
          | refine Wp.skip ?_
          | refine Wp.label ?_
          | refine Wp.block ?_
          | refine Wp.exit ?_
          | refine Wp.seq ?_)
        refine ⟨j + 1, by omega, by omega, ?_⟩
        refine StLe.tm (by simp only [AllSub, go_sem, reduceIte, Nat.reduceEqDiff, Nat.reduceAdd, bx]; and_intros <;> first | exact trivial | exact VSub.refl _ | exact VSub.any _ | (refine VSub.int ?_; omega))
      obtain rfl : j = l.length := by omega
      have g1 : decide (((l.length : Nat) : Int) < ((l.length : Nat) : Int)) = false := decide_eq_false (by omega)
      rw [List.take_length]
      repeat (first
        | ((first | apply Wp.seqItemsR | apply Wp.itemsR); (· simp only [go_sem, reduceIte, Nat.reduceEqDiff, Nat.reduceAdd, bx, ax, if_true, if_false, Nat.reduceMul, Nat.reduceLeDiff, hil, g1]; exact rfl))
        | (refine WpItems.nil ⟨?_, ?_⟩; (· first | trivial | simp [pairsQ, pairsOk, apart, ent0]))
        | (apply Wp.cond_lit; (· simp only [go_sem, reduceIte, Nat.reduceEqDiff, Nat.reduceAdd, bx, ax, if_true, if_false, Nat.reduceMul, Nat.reduceLeDiff, hil, g1]; exact rfl); (· rfl))
        | refine Wp.skip ?_
        | refine Wp.label ?_
        | refine Wp.block ?_
        | refine Wp.exit ?_
        | refine Wp.seq ?_)
      refine Wp.loopK [0, 3, 4, 5] (by simp only [go_sem, reduceIte, Nat.reduceEqDiff, Nat.reduceAdd, bx, List.map]; exact rfl) (fun j : Nat => [(7, .int .i64 (j : Nat))]) (fun j => j ≤ A.length) (fun j => A.length - j) 0 (Nat.zero_le _) ?_ ?_
      · simp only [AllSub, go_sem, reduceIte, Nat.reduceEqDiff, Nat.reduceAdd, bx]; and_intros <;> first | exact trivial | exact VSub.refl _ | exact VSub.any _ | (refine VSub.int ?_; omega)
      intro j hj
      by_cases hc : j < A.length
      · have g1 : decide (((j : Nat) : Int) < ((A.length : Nat) : Int)) = true := decide_eq_true (by omega)
        have h2 : (0 : Int) ≤ ((j : Nat) : Int) := by omega
        have h3 : ((j : Nat) : Int) < ((A.length : Nat) : Int) := by omega
        have e1 : IntKind.i64.wrap (((j : Nat) : Int) + 1) = ((j + 1 : Nat) : Int) := by rw [IntWalk.i64_in _ (by omega)]; omega
        have hat : (prs A).getD j .any = encPr (A.getD j default) := prs_getD A j .any hc
        have hx := s4 (A.getD j default) (by rw [Av.getD_el hc]; exact List.getElem_mem hc)
        have t1 : decide (((A.getD j default).k.length : Int) < 8) = false := decide_eq_false (by omega)
        have t2 : decide ((128 : Int) < ((A.getD j default).k.length : Int)) = false := decide_eq_false (by omega)
        have t3 : decide (((A.getD j default).v.length : Int) < 1) = false := decide_eq_false (by omega)
        have t4 : decide ((200 : Int) < ((A.getD j default).v.length : Int)) = false := decide_eq_false (by omega)
        by_cases hz : j = 0
        · have g2 : decide ((0 : Int) < (j : Int)) = false := decide_eq_false (by omega)
          generalize A.getD j default = x at *
          repeat (first
            | ((first | apply Wp.seqItemsR | apply Wp.itemsR); (· simp only [go_sem, reduceIte, Nat.reduceEqDiff, Nat.reduceAdd, bx, ax, if_true, if_false, Nat.reduceMul, Nat.reduceLeDiff, prs_length, g1, g2, h2, h3, hat, encPr, t1, t2, t3, t4, e1]; exact rfl))
            | (refine WpItems.nil ⟨?_, ?_⟩; (· first | trivial | simp [pairsQ, pairsOk, apart, ent0]))
            | (apply Wp.cond_lit; (· simp only [go_sem, reduceIte, Nat.reduceEqDiff, Nat.reduceAdd, bx, ax, if_true, if_false, Nat.reduceMul, Nat.reduceLeDiff, prs_length, g1, g2, h2, h3, hat, encPr, t1, t2, t3, t4, e1]; exact rfl); (· rfl))
            | refine Wp.skip ?_
            | refine Wp.label ?_
            | refine Wp.block ?_
            | refine Wp.exit ?_
            | refine Wp.seq ?_)
          refine ⟨j + 1, by omega, by omega, ?_⟩
          refine StLe.tm (by simp only [AllSub, go_sem, reduceIte, Nat.reduceEqDiff, Nat.reduceAdd, bx]; and_intros <;> first | exact trivial | exact VSub.refl _ | exact VSub.any _ | (refine VSub.int ?_; omega))
        · have g2 : decide ((0 : Int) < (j : Int)) = true := decide_eq_true (by omega)
          have e2 : IntKind.i64.wrap ((j : Int) - 1) = ((j - 1 : Nat) : Int) := by rw [IntWalk.i64_in _ (by omega)]; omega
          have h4 : (0 : Int) ≤ ((j - 1 : Nat) : Int) := by omega
          have h5 : ((j - 1 : Nat) : Int) < (A.length : Int) := by omega
          have hat2 : (prs A).getD (j - 1) .any = encPr (A.getD (j - 1) default) := prs_getD A (j - 1) .any (by omega)
          have hlt : Op.bytesLess (A.getD (j - 1) default).k (A.getD j default).k = true := by
            rw [Av.getD_el hc, Av.getD_el (show j - 1 < A.length by omega)]
            exact List.pairwise_iff_getElem.1 s3 (j - 1) j (by omega) hc (by omega)
          generalize A.getD j default = x at *
          generalize A.getD (j - 1) default = y at *
          repeat (first
            | ((first | apply Wp.seqItemsR | apply Wp.itemsR); (· simp only [go_sem, reduceIte, Nat.reduceEqDiff, Nat.reduceAdd, bx, ax, if_true, if_false, Nat.reduceMul, Nat.reduceLeDiff, prs_length, g1, g2, h2, h3, hat, hat2, e2, h4, h5, encPr, t1, t2, t3, t4, hlt, Bool.not_true, e1]; exact rfl))
            | (refine WpItems.nil ⟨?_, ?_⟩; (· first | trivial | simp [pairsQ, pairsOk, apart, ent0]))
            | (apply Wp.cond_lit; (· simp only [go_sem, reduceIte, Nat.reduceEqDiff, Nat.reduceAdd, bx, ax, if_true, if_false, Nat.reduceMul, Nat.reduceLeDiff, prs_length, g1, g2, h2, h3, hat, hat2, e2, h4, h5, encPr, t1, t2, t3, t4, hlt, Bool.not_true, e1]; exact rfl); (· rfl))
            | refine Wp.skip ?_
            | refine Wp.label ?_
            | refine Wp.block ?_
            | refine Wp.exit ?_
            | refine Wp.seq ?_)
          refine ⟨j + 1, by omega, by omega, ?_⟩
          refine StLe.tm (by simp only [AllSub, go_sem, reduceIte, Nat.reduceEqDiff, Nat.reduceAdd, bx]; and_intros <;> first | exact trivial | exact VSub.refl _ | exact VSub.any _ | (refine VSub.int ?_; omega))
      obtain rfl : j = A.length := by omega
      have gA : decide ((A.length : Int) < (A.length : Int)) = false := decide_eq_false (by omega)
      have gE : decide ((A.length : Int) = (((prL l).length : Nat) : Int)) = true := decide_eq_true (by omega)
      repeat (first
        | ((first | apply Wp.seqItemsR | apply Wp.itemsR | ((first
            | (refine WpItems.pcall ?_ ?_ (hI) ?_; (· simp only [go_sem, reduceIte, Nat.reduceEqDiff, Nat.reduceAdd, bx]); (· simp only [go_sem, reduceIte, Nat.reduceEqDiff, Nat.reduceAdd, bx, List.map]; first | exact VSubs.refl _ | (repeat (first | exact VSubs.nil | refine VSubs.cons (by first | exact VSub.refl _ | assumption | exact VSub.cap | exact VSub.any _) ?_))))
            | (refine WpItems.pcall ?_ ?_ (hS2) ?_; (· simp only [go_sem, reduceIte, Nat.reduceEqDiff, Nat.reduceAdd, bx]); (· simp only [go_sem, reduceIte, Nat.reduceEqDiff, Nat.reduceAdd, bx, List.map]; first | exact VSubs.refl _ | (repeat (first | exact VSubs.nil | refine VSubs.cons (by first | exact VSub.refl _ | assumption | exact VSub.cap | exact VSub.any _) ?_))))
            | (refine WpItems.pcall ?_ ?_ (lp) ?_; (· simp only [go_sem, reduceIte, Nat.reduceEqDiff, Nat.reduceAdd, bx]); (· simp only [go_sem, reduceIte, Nat.reduceEqDiff, Nat.reduceAdd, bx, List.map]; first | exact VSubs.refl _ | (repeat (first | exact VSubs.nil | refine VSubs.cons (by first | exact VSub.refl _ | assumption | exact VSub.cap | exact VSub.any _) ?_))))); apply WpItems.evR)); (· simp only [go_sem, reduceIte, Nat.reduceEqDiff, Nat.reduceAdd, bx, ax, if_true, if_false, Nat.reduceMul, Nat.reduceLeDiff, prs_length, gA, gE, d1]; exact rfl))
        | (refine WpItems.nil ⟨?_, ?_⟩; (· first | trivial | simp [pairsQ, pairsOk, apart, ent0]))
        | (apply Wp.cond_lit; (· simp only [go_sem, reduceIte, Nat.reduceEqDiff, Nat.reduceAdd, bx, ax, if_true, if_false, Nat.reduceMul, Nat.reduceLeDiff, prs_length, gA, gE, d1]; exact rfl); (· rfl))
        | refine Wp.skip ?_
        | refine Wp.label ?_
        | refine Wp.block ?_
        | refine Wp.exit ?_
        | refine Wp.seq ?_)
      refine Wp.ret ⟨trivial, _, rfl, ?_⟩
      simp only [go_sem, reduceIte, Nat.reduceEqDiff, Nat.reduceAdd, bx]
      exact VSub.refl _
theorem law_BatchItems {b : Nat} (avs : List AV) (h : All2 (ArgFits Try.prog 5) Try.f4.params.toList avs) (_ : bulkAs avs ≤ b) : PCalls Try.prog 4 avs (.bool true) := by
  rw [Try.params4] at h
  cases h with | cons h0 h =>
  cases h
  obtain ⟨l, rfl, hl, ha⟩ := open_items h0
  have e : reachBytes = 140737488351232 := rfl
  exact itemsLaw_p l hl (fun x hx => by have := (ha x hx).1; unfold Ls; omega) (fun x hx => by have := (ha x hx).2; omega) lives_p
end Go.Proofs.Ytobokfclaooloaa.Space
end
section
set_option linter.unusedSimpArgs false
set_option linter.unusedVariables false
namespace Go.Proofs.Ytobokfclaooloaa.Space
open Go Go.Av Go.Proofs Go.Proofs.Ytobokfclaooloaa.C
open Go.ChangeShapes Go.WideShapes Go.ChangeAt Go.RowKit
set_option maxRecDepth 100000 in
theorem lifted_BatchItems (os : Os) (started : os.Started) (H : Type) (enc : TypeId × Value → H) :
    ReturnsInHanded {} Try.checked os 4 .any (Rows.batchItemsSpec.pre6 enc Try.prog Try.f4 Rows.batchItemsRow.domain false) (Rows.batchItemsSpec.post enc Try.prog Try.f4 false true false false) := by
  refine returnsInHanded_of_change_sized (C := Try.checked) own started (by kernel_rfl) Try.func4
    (ChangeSpec.witness6 (enc := enc) (C := Try.checked) false ⟨#[], #[.slice none 0 0], []⟩ 8 (by kernel_rfl) (by kernel_rfl) (by kernel_rfl) (by kernel_rfl)) ?_
  intro W base args ds gs before hval hW _ hwt _
  exact calls_row laid bulk rowed full rfl (fun l hl => by match l, hl with | [_], _ => rfl) rfl Try.underlying4 (by kernel_rfl) (by kernel_rfl) hval hW hwt (fun avs h hb => law_BatchItems avs h hb)
theorem said_BatchItems : Rows.BatchItemsSaid :=
  OpenClaim.holds_of_wide 4 Try.f4 rfl rfl rfl rfl rfl rfl rfl ⟨rfl, rfl, rfl, rfl, rfl⟩ rfl rfl rfl rfl rfl (by kernel_rfl) Try.func4 (by kernel_rfl)
    (of_decide_eq_true (by kernel_rfl)) (by unfold Func.isWrapper; first | (rw [if_pos (by decide +kernel)]; kernel_rfl) | (rw [if_neg (by decide +kernel)]; exact ⟨rfl, rfl⟩))
    (fun os started H enc _ => lifted_BatchItems os started H enc)
#print axioms said_BatchItems
end Go.Proofs.Ytobokfclaooloaa.Space
end
