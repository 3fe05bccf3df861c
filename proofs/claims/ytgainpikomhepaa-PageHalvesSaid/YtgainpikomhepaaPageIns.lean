/- slices.Insert and slices.Delete of texts, at tracked rows. -/
import Derived.Test.YtgainpikomhepaaPageLay
import Derived.Test.YtgainpikomhepaaAvTrk
import Derived.Test.YtgainpikomhepaaPageC
import Derived.Shelf.Slices.Cells
set_option linter.unusedSimpArgs false
set_option linter.unusedVariables false
set_option maxRecDepth 10000
namespace Go.Proofs.Ytgainpikomhepaa.Page
open Go Go.Av Go.Proofs Go.Proofs.Ytgainpikomhepaa.C

def sv (l : List (List UInt8)) : List Value := l.map fun s => .string ⟨s.toArray⟩

theorem sv_length (l : List (List UInt8)) : (sv l).length = l.length := by simp [sv]

theorem sv_of {G : Ghost} {w : World} : ∀ {l : List (List UInt8)} {vs : List Value}, VRels G w (strs l) vs → vs = sv l
  | [], vs, h => by simpa [strs, VRels, sv] using h
  | s :: l, vs, h => by
    simp only [strs, List.map_cons, VRels, VRel] at h
    obtain ⟨v, us, rfl, rfl, h⟩ := h
    rw [sv_of (l := l) h]
    rfl

theorem sv_elems (l : List (List UInt8)) (G : Ghost) (w : World) : VElems G w 1 (strs l) (sv l) := by
  induction l with
  | nil => simp [strs, sv, VElems]
  | cons s l ih =>
    simp only [strs, sv, List.map_cons, VElems]
    exact ⟨.string ⟨s.toArray⟩, sv l, rfl, rfl, by simp [VRel], ih⟩

theorem sv_one {l : List (List UInt8)} {v : Value} (h : v ∈ sv l) : One v := by
  obtain ⟨s, _, rfl⟩ := List.mem_map.1 h
  exact ⟨(fun _ e => by cases e), (fun _ e => by cases e)⟩

theorem sv_one' {l : List (List UInt8)} {v : Value} (h : v ∈ sv l) : v.oneCell' = true := by
  obtain ⟨s, _, rfl⟩ := List.mem_map.1 h
  rfl

theorem cell_of {w : World} {B : Nat} {T : TypeId} {fr : Nat × Nat} {L R : List Value} (hg : w.heap[B]? = some (.cells (L ++ R).toArray T fr)) (j : Nat) (v : Value) (h : L[j]? = some v) : w.cell? ⟨B, 0 + j, none⟩ = some v := by
  have hj := (List.getElem?_eq_some_iff.1 h).1
  unfold World.cell?
  simp only [hg, Nat.zero_add]
  simpa [List.getElem?_append_left hj] using h

theorem sv_insert (l : List (List UInt8)) (i : Nat) (x : List UInt8) : sv (l.take i ++ x :: l.drop i) = (sv l).take i ++ .string ⟨x.toArray⟩ :: (sv l).drop i := by simp [sv]

theorem ins_end {A R : List Value} {X : Value} {n : Nat} (hn : A.length = n) : (A ++ R).take (0 + n) ++ [X] ++ (A ++ R).drop (0 + n + 1) = A.take n ++ X :: A.drop n ++ R.drop 1 := by
  subst hn
  rw [Nat.zero_add, List.take_left, List.take_length, List.drop_length, List.drop_append, List.drop_eq_nil_of_le (by omega)]
  simp

theorem ins_mid {A R : List Value} {X : Value} {n i : Nat} (hn : A.length = n) (hi : i < n) :
    ((A ++ R).take (0 + (i + 1)) ++ A.drop i ++ (A ++ R).drop (0 + (i + 1) + (A.drop i).length)).take (0 + i) ++ [X] ++ ((A ++ R).take (0 + (i + 1)) ++ A.drop i ++ (A ++ R).drop (0 + (i + 1) + (A.drop i).length)).drop (0 + i + 1) = A.take i ++ X :: A.drop i ++ (A ++ R).drop (n + 1) := by
  subst hn
  have e2 : ((A ++ R).take (i + 1)).length = i + 1 := by simp; omega
  have e1 : ((A ++ R).take (i + 1)).take i = A.take i := by
    rw [List.take_take, Nat.min_eq_left (by omega), List.take_append_of_le_length (by omega)]
  have e3 : i + 1 + (A.drop i).length = A.length + 1 := by simp; omega
  rw [Nat.zero_add, Nat.zero_add, e3]
  have c1 : ((A ++ R).take (i + 1) ++ A.drop i ++ (A ++ R).drop (A.length + 1)).take i = A.take i := by
    rw [List.append_assoc, List.take_append_of_le_length (by omega), e1]
  have c2 : ((A ++ R).take (i + 1) ++ A.drop i ++ (A ++ R).drop (A.length + 1)).drop (i + 1) = A.drop i ++ (A ++ R).drop (A.length + 1) := by
    rw [List.append_assoc, List.drop_append, e2, List.drop_eq_nil_of_le (by omega), Nat.sub_self, List.drop_zero, List.nil_append]
  rw [c1, c2]
  simp

theorem ins_grow {A Z : List Value} {X : Value} {n i : Nat} (hn : A.length = n) (hi : i < n) :
    ((A.take i ++ Z).take i ++ [X] ++ (A.take i ++ Z).drop (i + 1)).take (i + 1) ++ A.drop i ++ ((A.take i ++ Z).take i ++ [X] ++ (A.take i ++ Z).drop (i + 1)).drop (i + 1 + (A.drop i).length) = A.take i ++ X :: A.drop i ++ ((A.take i ++ Z).take i ++ [X] ++ (A.take i ++ Z).drop (i + 1)).drop (i + 1 + (A.drop i).length) := by
  subst hn
  have e2 : (A.take i).length = i := by simp; omega
  have e1 : (A.take i ++ Z).take i = A.take i := by
    rw [List.take_append_of_le_length (by omega), List.take_take, Nat.min_self]
  have e4 : ((A.take i ++ Z).take i ++ [X] ++ (A.take i ++ Z).drop (i + 1)).take (i + 1) = A.take i ++ [X] := by
    rw [e1, List.take_append_of_le_length (by simp; omega), List.take_of_length_le (by simp; omega)]
  rw [e4]
  simp

/-- slices.Insert of one text into a tracked row: the row is used up -/
theorem insert_a (l : List (List UInt8)) (i : Nat) (x : List UInt8) (hi : i ≤ l.length) (hl : l.length < 1099511627776) (h0 : 0 < l.length) {id id2 : Nat} (hne : id ≠ id2) {h : H} (ho : h.objs id = some (.cells (strs l))) (ho2 : h.objs id2 = some (.cells [.str x])) (htk : h.toks = []) :
    ACalls Try.prog 64 [.tsl 1 id 0 l.length none, .int .i64 i, .tsl 1 id2 0 1 none] h (.sl 1 (strs (l.take i ++ x :: l.drop i)) .any) (h.less id) := by
  intro G w vs hv R F
  simp only [VRels, VRel] at hv
  obtain ⟨v1, _, rfl, ⟨hd1, hv1⟩, v2, _, rfl, rfl, v3, _, rfl, ⟨hd2, hv3⟩, rfl⟩ := hv
  obtain ⟨C, c, T, fr, rfl, ⟨hnC, hc63⟩, -, hg, hroom⟩ | ⟨hz, -⟩ := hv1
  rotate_left
  · omega
  obtain ⟨C2, c2, T2, fr2, rfl, ⟨hnC2, -⟩, -, hg2, hroom2⟩ | ⟨hz, -⟩ := hv3
  rotate_left
  · omega
  obtain ⟨-, hown, hB, us, rest, T', fr', hg', hvs, hfr, -⟩ := R.obj id _ ho
  obtain ⟨-, hown2, hB2, us2, rest2, T2', fr2', hg2', hvs2, hfr2, -⟩ := R.obj id2 _ ho2
  have hus := sv_of hvs
  subst hus
  have hus2 : us2 = [.string ⟨x.toArray⟩] := by
    simp only [VRels, VRel] at hvs2
    obtain ⟨v, _, rfl, rfl, rfl⟩ := hvs2
    rfl
  subst hus2
  have hbb : G.ι id2 ≠ G.ι id := fun e => hne (R.inj _ _ _ _ ho ho2 e.symm)
  rw [hg] at hg'
  obtain ⟨rfl, rfl, rfl⟩ : c = (sv l ++ rest).toArray ∧ T = T' ∧ fr = fr' := by simpa using hg'
  rw [hg2] at hg2'
  obtain ⟨rfl, rfl, rfl⟩ : c2 = ([Value.string ⟨x.toArray⟩] ++ rest2).toArray ∧ T2 = T2' ∧ fr2 = fr2' := by simpa using hg2'
  have hsl := sv_length l
  have hrl : C ≤ l.length + rest.length := by simpa [hsl] using hroom
  have hcs : ∀ (j : Nat) v, (sv l)[j]? = some v → w.cell? ⟨G.ι id, 0 + j, none⟩ = some v := fun j v => cell_of hg j v
  have hvs' : ∀ (j : Nat) v, ([Value.string ⟨x.toArray⟩] : List Value)[j]? = some v → w.cell? ⟨G.ι id2, 0 + j, none⟩ = some v := fun j v => cell_of hg2 j v
  have h1v : ∀ v ∈ ([Value.string ⟨x.toArray⟩] : List Value), v.oneCell' = true := by simp [Value.oneCell']
  have hsome : ∀ j, j < C → (w.cell? ⟨G.ι id, 0 + j, none⟩).isSome = true := fun j hj => by
    unfold World.cell?; simp only [hg]; simp [hsl]; omega
  have hfz : ∀ j, w.frozen? ⟨G.ι id, j, none⟩ = false := fun j => by
    unfold World.frozen?; simp only [hg]
    have := hfr j
    simp; omega
  have hfz2 : ∀ j, w.frozen? ⟨G.ι id2, j, none⟩ = false := fun j => by
    unfold World.frozen?; simp only [hg2]
    have := hfr2 j
    simp; omega
  have hout : (strs (l.take i ++ x :: l.drop i)).length = l.length + 1 := by simp [strs]; omega
  have hso : (sv (l.take i ++ x :: l.drop i)).length = l.length + 1 := by rw [sv_length]; simp; omega
  -- a world in which the row stands in a new block
  have newb : ∀ (w' : World) (L2 : List Value) (T0 : TypeId) (C0 : Nat), l.length + 1 ≤ C0 → w'.heap[w.heap.size]? = some (.cells (sv (l.take i ++ x :: l.drop i) ++ L2).toArray T0 (0, 0)) → w.heap.size ≤ w'.heap.size → w'.os = w.os → w'.output = w.output → (∀ b, b < w.heap.size → w'.heap[b]? = w.heap[b]?) →
      ∃ v G', Ending.returned (.slice (some ⟨w.heap.size, 0, none⟩) (l.length + 1) C0) = .returned v ∧ Trans G w h G' w' (h.less id) ∧ RepH G' (h.less id) w' ∧ VRel G' w' (.sl 1 (strs (l.take i ++ x :: l.drop i)) .any) v := by
    intro w' L2 T0 C0 q1 q2 q3 q4 q5 q6
    obtain ⟨G', T1, R1, V⟩ := row_end (B := w.heap.size) (off := 0) (C := C0) (w' := w') R ho htk q3 q4 q5 (fun b hb _ => q6 b hb) (by rw [q6 _ hB]; exact SameForm.refl _) (.inr (Nat.le_refl _)) (by rw [hout]; exact q1) (by rw [hso, hout]) (sv_elems _) (fun v hv => sv_one hv) (cell_of q2)
    exact ⟨_, G', rfl, T1, R1, by rw [hout] at V; exact V⟩
  -- a world in which it stands in its own block
  have inpl : ∀ (w' : World) (L2 : List Value), w'.heap[G.ι id]? = some (.cells (sv (l.take i ++ x :: l.drop i) ++ L2).toArray T fr) → (sv (l.take i ++ x :: l.drop i) ++ L2).length = (sv l ++ rest).length → w'.heap.size = w.heap.size → w'.os = w.os → w'.output = w.output → (∀ b, b ≠ G.ι id → w'.heap[b]? = w.heap[b]?) → l.length + 1 ≤ C →
      ∃ v G', Ending.returned (.slice (some ⟨G.ι id, 0, none⟩) (l.length + 1) C) = .returned v ∧ Trans G w h G' w' (h.less id) ∧ RepH G' (h.less id) w' ∧ VRel G' w' (.sl 1 (strs (l.take i ++ x :: l.drop i)) .any) v := by
    intro w' L2 q1 q2 q3 q4 q5 q6 q7
    obtain ⟨G', T1, R1, V⟩ := row_end (B := G.ι id) (off := 0) (C := C) (w' := w') R ho htk (Nat.le_of_eq q3.symm) q4 q5 (fun b _ hb => q6 b hb) (by rw [hg, q1]; exact ⟨_, rfl, by simpa using q2⟩) (.inl rfl) (by rw [hout]; exact q7) (by rw [hso, hout]) (sv_elems _) (fun v hv => sv_one hv) (cell_of q1)
    exact ⟨_, G', rfl, T1, R1, by rw [hout] at V; exact V⟩
  by_cases hfit : l.length + 1 ≤ C
  · by_cases hie : i = l.length
    · subst hie
      refine (Any2.slices_Insert_string_end_room lays22 (G.ι id) 0 l.length C (G.ι id2) 0 1 C2 [.string ⟨x.toArray⟩] w (by omega) hfit hc63 rfl (fun j hj => by have := hsome (l.length + j) (by omega); rwa [← Nat.add_assoc] at this) (fun j hj => hfz _) hvs' h1v).mono ?_
      rintro e w' ⟨rfl, rfl⟩
      obtain ⟨a1, a2, a3, a4, a5⟩ := setCells_heap (G.ι id) T fr [.string ⟨x.toArray⟩] (0 + l.length) (sv l ++ rest) w hg (by simp [hsl]; omega)
      refine inpl _ (rest.drop 1) ?_ ?_ a3 a4 a5 a2 hfit
      · rw [a1, sv_insert, List.length_singleton, ins_end hsl]
      · rw [List.length_append, List.length_append, hso, hsl, List.length_drop]; omega
    · have hlt : i < l.length := by omega
      refine (Any2.slices_Insert_string_shift lays22 (G.ι id) 0 l.length C i (G.ι id2) 0 1 C2 (sv l) [.string ⟨x.toArray⟩] w hlt (by omega) hfit hc63 hbb hsl rfl hcs (fun j hj => hsome j (by omega)) (fun j hj => hfz _) hvs' (fun v hv => sv_one' hv) h1v T2 T ([Value.string ⟨x.toArray⟩] ++ rest2).toArray.size (sv l ++ rest).toArray.size (by unfold World.shape?; simp only [hg2]) (by unfold World.shape?; simp only [hg]) (by rw [List.size_toArray, List.length_append, hsl]; omega) (hfz2 _) (hfz2 _)).mono ?_
      rintro e w' ⟨rfl, rfl⟩
      obtain ⟨a1, a2, a3, a4, a5⟩ := setCells_heap (G.ι id) T fr ((sv l).drop i) (0 + (i + 1)) (sv l ++ rest) w.drew hg (by simp [hsl]; omega)
      obtain ⟨b1, b2, b3, b4, b5⟩ := setCells_heap (G.ι id) T fr [.string ⟨x.toArray⟩] (0 + i) _ _ a1 (by simp [hsl]; omega)
      refine inpl _ ((sv l ++ rest).drop (l.length + 1)) ?_ ?_ (b3.trans a3) (b4.trans a4) (b5.trans a5) (fun b hb => (b2 b hb).trans (a2 b hb)) hfit
      · rw [b1, sv_insert, List.length_singleton, ins_mid hsl hlt]
      · rw [List.length_append, hso, List.length_drop, List.length_append, hsl]; omega
  · have hCl : C = l.length := by omega
    subst hCl
    have hbig : (l.length + 1) * 16 ≤ 140737488355328 := by omega
    have hgc : ∀ e, l.length + 1 ≤ grownCap w (l.length + 1) l.length e := fun e => by simp [grownCap, Question.cut]
    by_cases hie : i = l.length
    · subst hie
      refine (Any2.slices_Insert_string_end_grow lays22 (some ⟨G.ι id, 0, none⟩) l.length l.length (G.ι id2) 0 1 C2 (sv l) [.string ⟨x.toArray⟩] w (by omega) (Nat.le_refl _) (by omega) hbig hsl rfl (fun e => by cases e) (fun a ha j v hj => by cases ha; rw [Addr.add_lit]; exact hcs j v hj) hvs' h1v).mono ?_
      rintro e w' ⟨rfl, rfl⟩
      have hgc' := hgc (lays22_ren.t 9)
      generalize grownCap w (l.length + 1) l.length (lays22_ren.t 9) = C0 at hgc' ⊢
      generalize Builtin.zeroCells (Value.string ⟨#[]⟩).cells (C0 - (l.length + 1)) = Zc
      refine newb _ Zc.toList (lays22_ren.t 9) _ hgc' ?_ ?_ rfl rfl ?_
      · show (w.heap.push _)[w.heap.size]? = _
        rw [Array.getElem?_push_size]
        refine congrArg some (congrArg (fun c => Go.Obj.cells c _ (0, 0)) (Array.ext' ?_))
        simp only [Array.toList_append, sv_insert, ← hsl, List.take_length, List.drop_length]
      · show _ ≤ (w.heap.push _).size
        rw [Array.size_push]; omega
      · intro b hb
        show (w.heap.push _)[b]? = _
        rw [Array.getElem?_push, if_neg (Nat.ne_of_lt hb)]
    · have hlt : i < l.length := by omega
      refine (Any2.slices_Insert_string_grow lays22 (G.ι id) 0 l.length l.length i (G.ι id2) 0 1 C2 (sv l) [.string ⟨x.toArray⟩] w hlt (by omega) (Nat.le_refl _) (by omega) hbig hsl rfl hcs hvs' (fun v hv => sv_one' hv) h1v).mono ?_
      rintro e w' ⟨rfl, rfl⟩
      generalize hC0 : grownCap w (l.length + 1) l.length (lays22_ren.t 9) = C0
      have hC1 : l.length + 1 ≤ C0 := hC0 ▸ hgc _
      generalize hA : w.alloc (.cells (((sv l).take i).toArray ++ Builtin.zeroCells (Value.string ⟨#[]⟩).cells (l.length + 1 - i) ++ Builtin.zeroCells (Value.string ⟨#[]⟩).cells (C0 - (l.length + 1))) (lays22_ren.t 9)) = A0
      obtain ⟨Z, hZl, g1⟩ : ∃ Z : List Value, Z.length = C0 - i ∧ A0.drew.heap[w.heap.size]? = some (.cells ((sv l).take i ++ Z).toArray (lays22_ren.t 9) (0, 0)) := by
        refine ⟨(Builtin.zeroCells (Value.string ⟨#[]⟩).cells (l.length + 1 - i) ++ Builtin.zeroCells (Value.string ⟨#[]⟩).cells (C0 - (l.length + 1))).toList, ?_, ?_⟩
        · have hz : (Value.string ⟨#[]⟩).cells.size = 1 := rfl
          generalize (Value.string ⟨#[]⟩).cells = zc at hz
          simp [Builtin.zeroCells, hz]; omega
        · subst hA
          show (w.heap.push _)[w.heap.size]? = _
          rw [Array.getElem?_push_size]
          refine congrArg some (congrArg (fun c => Go.Obj.cells c _ (0, 0)) (Array.ext' ?_))
          simp only [Array.toList_append, List.append_assoc]
      have k3 : A0.heap.size = w.heap.size + 1 := by
        rw [← hA]
        show (w.heap.push _).size = _
        rw [Array.size_push]
      have k4 : A0.os = w.os := by rw [← hA]; rfl
      have k5 : A0.output = w.output := by rw [← hA]; rfl
      have k2 : ∀ b, b < w.heap.size → A0.heap[b]? = w.heap[b]? := fun b hb => by
        rw [← hA]
        show (w.heap.push _)[b]? = _
        rw [Array.getElem?_push, if_neg (Nat.ne_of_lt hb)]
      clear hA
      have hT' : ((sv l).take i).length = i := by rw [List.length_take, hsl]; omega
      have hD : ((sv l).drop i).length = l.length - i := by rw [List.length_drop, hsl]
      obtain ⟨a1, a2, a3, a4, a5⟩ := setCells_heap w.heap.size _ (0, 0) [.string ⟨x.toArray⟩] i _ A0.drew g1 (by rw [List.length_append, hT', hZl, List.length_singleton]; omega)
      obtain ⟨b1, b2, b3, b4, b5⟩ := setCells_heap w.heap.size _ (0, 0) ((sv l).drop i) (i + 1) _ (World.setCells A0.drew w.heap.size i [.string ⟨x.toArray⟩]).drew a1 (by simp only [List.length_append, List.length_take, List.length_drop, hsl, hZl, List.length_singleton]; omega)
      rw [List.length_singleton, ins_grow hsl hlt, ← sv_insert] at b1
      refine newb _ _ _ _ hC1 b1 ?_ ?_ ?_ ?_
      · rw [b3]; show _ ≤ (World.setCells A0.drew _ _ _).heap.size; rw [a3]; show _ ≤ A0.heap.size; omega
      · rw [b4]; show (World.setCells A0.drew _ _ _).os = _; rw [a4]; exact k4
      · rw [b5]; show (World.setCells A0.drew _ _ _).output = _; rw [a5]; exact k5
      · intro b hb
        rw [b2 b (Nat.ne_of_lt hb)]; show (World.setCells A0.drew _ _ _).heap[b]? = _
        rw [a2 b (Nat.ne_of_lt hb)]
        exact k2 b hb

/-- slices.Delete of one text of a tracked row: the row is used up -/
theorem delete_a (l : List (List UInt8)) (i : Nat) (hi : i < l.length) (hl : l.length < 1099511627776) {id : Nat} {h : H} (ho : h.objs id = some (.cells (strs l))) (htk : h.toks = []) :
    ACalls Try.prog 65 [.tsl 1 id 0 l.length none, .int .i64 i, .int .i64 ((i + 1 : Nat) : Int)] h (.sl 1 (strs (l.take i ++ l.drop (i + 1))) .any) (h.less id) := by
  intro G w vs hv R F
  simp only [VRels, VRel] at hv
  obtain ⟨v1, _, rfl, ⟨hd1, hv1⟩, v2, _, rfl, rfl, v3, _, rfl, rfl, rfl⟩ := hv
  obtain ⟨C, c, T, fr, rfl, ⟨hnC, hc63⟩, -, hg, hroom⟩ | ⟨hz, -⟩ := hv1
  rotate_left
  · omega
  obtain ⟨-, hown, hB, us, rest, T', fr', hg', hvs, hfr, -⟩ := R.obj id _ ho
  have hus := sv_of hvs
  subst hus
  rw [hg] at hg'
  obtain ⟨rfl, rfl, rfl⟩ : c = (sv l ++ rest).toArray ∧ T = T' ∧ fr = fr' := by simpa using hg'
  have hsl := sv_length l
  have hfz : ∀ j, w.frozen? ⟨G.ι id, j, none⟩ = false := fun j => by
    unfold World.frozen?; simp only [hg]
    have := hfr j
    simp; omega
  have hout : (strs (l.take i ++ l.drop (i + 1))).length = l.length - (i + 1 - i) := by simp [strs]; omega
  have hcell : ∀ j, j < l.length → w.cell? ⟨G.ι id, 0 + j, none⟩ = some (.string (⟨(l.getD j []).toArray⟩ : ByteArray)) := fun j hj => cell_of hg j _ (by
    simp [sv, List.getElem?_map, List.getElem?_eq_getElem hj, List.getD_eq_getElem?_getD])
  have hS : Lib.strsOf (fun j => (⟨(l.getD j []).toArray⟩ : ByteArray)) l.length = l := by
    refine List.ext_getElem (Lib.strsOf_length _ _) fun j h1 h2 => ?_
    simp [Lib.strsOf, List.getD_eq_getElem?_getD, List.getElem?_eq_getElem h2]
  refine (Any.slices_Delete_string_cells lays24 (G.ι id) 0 l.length C i (i + 1) (fun j => (⟨(l.getD j []).toArray⟩ : ByteArray)) w hnC hc63 (by omega) (by omega) hcell (fun j hj => hfz _)).mono ?_
  rintro e w' ⟨rfl, q, rfl⟩
  rw [hS]
  have hm : ∀ m : List (List UInt8), m.map encStr = sv m := fun m => rfl
  rw [hm]
  have hsv : sv (l.take i ++ l.drop (i + 1) ++ List.replicate (i + 1 - i) []) = sv (l.take i ++ l.drop (i + 1)) ++ [.string ⟨#[]⟩] := by
    rw [show i + 1 - i = 1 by omega]; simp [sv]
  have hlen : (sv (l.take i ++ l.drop (i + 1) ++ List.replicate (i + 1 - i) [])).length = l.length := by rw [sv_length]; simp; omega
  obtain ⟨a1, a2, a3, a4, a5⟩ := setCells_heap (G.ι id) T fr (sv (l.take i ++ l.drop (i + 1) ++ List.replicate (i + 1 - i) [])) 0 (sv l ++ rest) (w.drewN q) hg (by rw [hlen, List.length_append, hsl]; omega)
  have e1 : (sv l ++ rest).take 0 ++ sv (l.take i ++ l.drop (i + 1) ++ List.replicate (i + 1 - i) []) ++ (sv l ++ rest).drop (0 + (sv (l.take i ++ l.drop (i + 1) ++ List.replicate (i + 1 - i) [])).length) = sv (l.take i ++ l.drop (i + 1)) ++ (Value.string ⟨#[]⟩ :: rest) := by
    rw [hlen, hsv, Nat.zero_add, ← hsl, List.drop_left, List.take_zero]; simp
  rw [e1] at a1
  obtain ⟨G', T1, R1, V⟩ := row_end (B := G.ι id) (off := 0) (C := C) (xs := strs (l.take i ++ l.drop (i + 1))) (vs := sv (l.take i ++ l.drop (i + 1))) R ho htk (Nat.le_of_eq a3.symm) a4 a5 (fun b _ hb => a2 b hb) (by
    rw [hg, a1]
    refine ⟨_, rfl, ?_⟩
    simp only [List.size_toArray, List.length_append, sv_length, List.length_cons, List.length_take, List.length_drop]
    omega) (.inl rfl) (by rw [hout]; omega) (by rw [hout, sv_length]; simp; omega) (sv_elems _) (fun v hv => sv_one hv) (cell_of a1)
  exact ⟨_, G', rfl, T1, R1, by rw [hout] at V; exact V⟩
end Go.Proofs.Ytgainpikomhepaa.Page
