/- EngineNil: the statement 'EngineNilSaid', closed by the law that the walk shows. No condition. -/
import Derived.Deep.CondSized
import Derived.Defers
import Derived.IntWalk
import Derived.KernelRfl
import Derived.Laws.Append
import Derived.Laws.AppendOwn
import Derived.Laws.BytesArg
import Derived.Laws.ComplexArith
import Derived.Laws.Cover3
import Derived.Laws.Entries
import Derived.Laws.IdiomCopy
import Derived.Laws.IdiomStrings
import Derived.Laws.Pointers
import Derived.Laws.Small
import Derived.Laws.Strings
import Derived.Laws.StructEq
import Derived.MapKept
import Derived.OpenShut
import Derived.Orders
import Derived.OrdersIn
import Derived.ProofKit
import Derived.RangeFuncRecord
import Derived.RangeFuncSeq
import Derived.ReadAgain
import Derived.Recover
import Derived.Scope
import Derived.Shelf.Slices.Cells
import Derived.Shelf.Slices.Clone
import Derived.Shelf.Slices.Delete
import Derived.Shelf.Spec.SlicesInsertGrow
import Derived.SizedLaws
import Derived.Tactics
import Derived.Tactics2
import Derived.Test.YtehhdhadmapplaaGreatProg
import Derived.Test.YtehhdhadmapplaaGreatRows
import Derived.WalkSmall
import Derived.Test.YtehhdhadmapplaaGreatENilE
section
set_option linter.unusedSimpArgs false
set_option linter.unusedVariables false
set_option maxRecDepth 10000
namespace Go.Proofs.YtehhdhadmapplaaGreat.Page
open Go Go.Av Go.Proofs Go.Proofs.YtehhdhadmapplaaGreat.C
def sv (l : List (List UInt8)) : List Value := l.map fun s => .string ⟨s.toArray⟩
theorem sv_length (l : List (List UInt8)) : (sv l).length = l.length := by simp [sv]
theorem sv_of {G : Ghost} {w : World} : ∀ {l : List (List UInt8)} {vs : List Value}, VRels G w (strs l) vs → vs = sv l
  | [], vs, h => by simpa [strs, VRels, sv] using h
  | s :: l, vs, h => by
    simp only [strs, List.map_cons, VRels, VRel] at h
    obtain ⟨v, us, rfl, rfl, h⟩ := h
    rw [sv_of (l := l) h]
    rfl
theorem sv_elems (l : List (List UInt8)) (G : Ghost) (w : World) : VElems G w 1 (strs l) (sv l) := by
  induction l with
  | nil => simp [strs, sv, VElems]
  | cons s l ih =>
    simp only [strs, sv, List.map_cons, VElems]
    exact ⟨.string ⟨s.toArray⟩, sv l, rfl, rfl, by simp [VRel], ih⟩
theorem sv_one {l : List (List UInt8)} {v : Value} (h : v ∈ sv l) : One v := by
  obtain ⟨s, _, rfl⟩ := List.mem_map.1 h
  exact ⟨(fun _ e => by cases e), (fun _ e => by cases e)⟩
theorem sv_one' {l : List (List UInt8)} {v : Value} (h : v ∈ sv l) : v.oneCell' = true := by
  obtain ⟨s, _, rfl⟩ := List.mem_map.1 h
  rfl
theorem cell_of {w : World} {B : Nat} {T : TypeId} {fr : Nat × Nat} {L R : List Value} (hg : w.heap[B]? = some (.cells (L ++ R).toArray T fr)) (j : Nat) (v : Value) (h : L[j]? = some v) : w.cell? ⟨B, 0 + j, none⟩ = some v := by
  have hj := (List.getElem?_eq_some_iff.1 h).1
  unfold World.cell?
  simp only [hg, Nat.zero_add]
  simpa [List.getElem?_append_left hj] using h
theorem sv_insert (l : List (List UInt8)) (i : Nat) (x : List UInt8) : sv (l.take i ++ x :: l.drop i) = (sv l).take i ++ .string ⟨x.toArray⟩ :: (sv l).drop i := by simp [sv]
theorem ins_end {A R : List Value} {X : Value} {n : Nat} (hn : A.length = n) : (A ++ R).take (0 + n) ++ [X] ++ (A ++ R).drop (0 + n + 1) = A.take n ++ X :: A.drop n ++ R.drop 1 := by
  subst hn
  rw [Nat.zero_add, List.take_left, List.take_length, List.drop_length, List.drop_append, List.drop_eq_nil_of_le (by omega)]
  simp
theorem ins_mid {A R : List Value} {X : Value} {n i : Nat} (hn : A.length = n) (hi : i < n) :
    ((A ++ R).take (0 + (i + 1)) ++ A.drop i ++ (A ++ R).drop (0 + (i + 1) + (A.drop i).length)).take (0 + i) ++ [X] ++ ((A ++ R).take (0 + (i + 1)) ++ A.drop i ++ (A ++ R).drop (0 + (i + 1) + (A.drop i).length)).drop (0 + i + 1) = A.take i ++ X :: A.drop i ++ (A ++ R).drop (n + 1) := by
  subst hn
  have e2 : ((A ++ R).take (i + 1)).length = i + 1 := by simp; omega
  have e1 : ((A ++ R).take (i + 1)).take i = A.take i := by
    rw [List.take_take, Nat.min_eq_left (by omega), List.take_append_of_le_length (by omega)]
  have e3 : i + 1 + (A.drop i).length = A.length + 1 := by simp; omega
  rw [Nat.zero_add, Nat.zero_add, e3]
  have c1 : ((A ++ R).take (i + 1) ++ A.drop i ++ (A ++ R).drop (A.length + 1)).take i = A.take i := by
    rw [List.append_assoc, List.take_append_of_le_length (by omega), e1]
  have c2 : ((A ++ R).take (i + 1) ++ A.drop i ++ (A ++ R).drop (A.length + 1)).drop (i + 1) = A.drop i ++ (A ++ R).drop (A.length + 1) := by
    rw [List.append_assoc, List.drop_append, e2, List.drop_eq_nil_of_le (by omega), Nat.sub_self, List.drop_zero, List.nil_append]
  rw [c1, c2]
  simp
theorem ins_grow {A Z : List Value} {X : Value} {n i : Nat} (hn : A.length = n) (hi : i < n) :
    ((A.take i ++ Z).take i ++ [X] ++ (A.take i ++ Z).drop (i + 1)).take (i + 1) ++ A.drop i ++ ((A.take i ++ Z).take i ++ [X] ++ (A.take i ++ Z).drop (i + 1)).drop (i + 1 + (A.drop i).length) = A.take i ++ X :: A.drop i ++ ((A.take i ++ Z).take i ++ [X] ++ (A.take i ++ Z).drop (i + 1)).drop (i + 1 + (A.drop i).length) := by
  subst hn
  have e2 : (A.take i).length = i := by simp; omega
  have e1 : (A.take i ++ Z).take i = A.take i := by
    rw [List.take_append_of_le_length (by omega), List.take_take, Nat.min_self]
  have e4 : ((A.take i ++ Z).take i ++ [X] ++ (A.take i ++ Z).drop (i + 1)).take (i + 1) = A.take i ++ [X] := by
    rw [e1, List.take_append_of_le_length (by simp; omega), List.take_of_length_le (by simp; omega)]
  rw [e4]
  simp
theorem insert_a (l : List (List UInt8)) (i : Nat) (x : List UInt8) (hi : i ≤ l.length) (hl : l.length < 1099511627776) (h0 : 0 < l.length) {id id2 : Nat} (hne : id ≠ id2) {h : H} (ho : h.objs id = some (.cells (strs l))) (ho2 : h.objs id2 = some (.cells [.str x])) (htk : h.toks = []) :
    ACalls Tryz.prog 154 [.tsl 1 id 0 l.length none, .int .i64 i, .tsl 1 id2 0 1 none] h (.sl 1 (strs (l.take i ++ x :: l.drop i)) .any) (h.less id) := by
  intro G w vs hv R F
  simp only [VRels, VRel] at hv
  obtain ⟨v1, _, rfl, ⟨hd1, hv1⟩, v2, _, rfl, rfl, v3, _, rfl, ⟨hd2, hv3⟩, rfl⟩ := hv
  obtain ⟨C, c, T, fr, rfl, ⟨hnC, hc63⟩, -, hg, hroom⟩ | ⟨hz, -⟩ := hv1
  rotate_left
  · omega
  obtain ⟨C2, c2, T2, fr2, rfl, ⟨hnC2, -⟩, -, hg2, hroom2⟩ | ⟨hz, -⟩ := hv3
  rotate_left
  · omega
  obtain ⟨-, hown, hB, us, rest, T', fr', hg', hvs, hfr, -⟩ := R.obj id _ ho
  obtain ⟨-, hown2, hB2, us2, rest2, T2', fr2', hg2', hvs2, hfr2, -⟩ := R.obj id2 _ ho2
  have hus := sv_of hvs
  subst hus
  have hus2 : us2 = [.string ⟨x.toArray⟩] := by
    simp only [VRels, VRel] at hvs2
    obtain ⟨v, _, rfl, rfl, rfl⟩ := hvs2
    rfl
  subst hus2
  have hbb : G.ι id2 ≠ G.ι id := fun e => hne (R.inj _ _ _ _ ho ho2 e.symm)
  rw [hg] at hg'
  obtain ⟨rfl, rfl, rfl⟩ : c = (sv l ++ rest).toArray ∧ T = T' ∧ fr = fr' := by simpa using hg'
  rw [hg2] at hg2'
  obtain ⟨rfl, rfl, rfl⟩ : c2 = ([Value.string ⟨x.toArray⟩] ++ rest2).toArray ∧ T2 = T2' ∧ fr2 = fr2' := by simpa using hg2'
  have hsl := sv_length l
  have hrl : C ≤ l.length + rest.length := by simpa [hsl] using hroom
  have hcs : ∀ (j : Nat) v, (sv l)[j]? = some v → w.cell? ⟨G.ι id, 0 + j, none⟩ = some v := fun j v => cell_of hg j v
  have hvs' : ∀ (j : Nat) v, ([Value.string ⟨x.toArray⟩] : List Value)[j]? = some v → w.cell? ⟨G.ι id2, 0 + j, none⟩ = some v := fun j v => cell_of hg2 j v
  have h1v : ∀ v ∈ ([Value.string ⟨x.toArray⟩] : List Value), v.oneCell' = true := by simp [Value.oneCell']
  have hsome : ∀ j, j < C → (w.cell? ⟨G.ι id, 0 + j, none⟩).isSome = true := fun j hj => by
    unfold World.cell?; simp only [hg]; simp [hsl]; omega
  have hfz : ∀ j, w.frozen? ⟨G.ι id, j, none⟩ = false := fun j => by
    unfold World.frozen?; simp only [hg]
    have := hfr
    simp; omega
  have hfz2 : ∀ j, w.frozen? ⟨G.ι id2, j, none⟩ = false := fun j => by
    unfold World.frozen?; simp only [hg2]
    have := hfr2
    simp; omega
  have hout : (strs (l.take i ++ x :: l.drop i)).length = l.length + 1 := by simp [strs]; omega
  have hso : (sv (l.take i ++ x :: l.drop i)).length = l.length + 1 := by rw [sv_length]; simp; omega
  -- a world in which the row stands in a new block
  have newb : ∀ (w' : World) (L2 : List Value) (T0 : TypeId) (C0 : Nat), l.length + 1 ≤ C0 → w'.heap[w.heap.size]? = some (.cells (sv (l.take i ++ x :: l.drop i) ++ L2).toArray T0 (0, 0)) → w.heap.size ≤ w'.heap.size → w'.os = w.os → w'.output = w.output → (∀ b, b < w.heap.size → w'.heap[b]? = w.heap[b]?) →
      ∃ v G', Ending.returned (.slice (some ⟨w.heap.size, 0, none⟩) (l.length + 1) C0) = .returned v ∧ Trans G w h G' w' (h.less id) ∧ RepH G' (h.less id) w' ∧ VRel G' w' (.sl 1 (strs (l.take i ++ x :: l.drop i)) .any) v := by
    intro w' L2 T0 C0 q1 q2 q3 q4 q5 q6
    obtain ⟨G', T1, R1, V⟩ := row_end (B := w.heap.size) (off := 0) (C := C0) (w' := w') R ho htk q3 q4 q5 (fun b hb _ => q6 b hb) (by rw [q6 _ hB]; exact SameForm.refl _) (.inr (Nat.le_refl _)) (by rw [hout]; exact q1) (by rw [hso, hout]) (sv_elems _) (fun v hv => sv_one hv) (cell_of q2)
    exact ⟨_, G', rfl, T1, R1, by rw [hout] at V; exact V⟩
  -- a world in which it stands in its own block
  have inpl : ∀ (w' : World) (L2 : List Value), w'.heap[G.ι id]? = some (.cells (sv (l.take i ++ x :: l.drop i) ++ L2).toArray T fr) → (sv (l.take i ++ x :: l.drop i) ++ L2).length = (sv l ++ rest).length → w'.heap.size = w.heap.size → w'.os = w.os → w'.output = w.output → (∀ b, b ≠ G.ι id → w'.heap[b]? = w.heap[b]?) → l.length + 1 ≤ C →
      ∃ v G', Ending.returned (.slice (some ⟨G.ι id, 0, none⟩) (l.length + 1) C) = .returned v ∧ Trans G w h G' w' (h.less id) ∧ RepH G' (h.less id) w' ∧ VRel G' w' (.sl 1 (strs (l.take i ++ x :: l.drop i)) .any) v := by
    intro w' L2 q1 q2 q3 q4 q5 q6 q7
    obtain ⟨G', T1, R1, V⟩ := row_end (B := G.ι id) (off := 0) (C := C) (w' := w') R ho htk (Nat.le_of_eq q3.symm) q4 q5 (fun b _ hb => q6 b hb) (by rw [hg, q1]; exact ⟨_, _, rfl, by simpa using q2, fun _ _ h => h⟩) (.inl rfl) (by rw [hout]; exact q7) (by rw [hso, hout]) (sv_elems _) (fun v hv => sv_one hv) (cell_of q1)
    exact ⟨_, G', rfl, T1, R1, by rw [hout] at V; exact V⟩
  by_cases hfit : l.length + 1 ≤ C
  · by_cases hie : i = l.length
    · subst hie
      refine (Any2.slices_Insert_string_end_room lays22 (G.ι id) 0 l.length C (G.ι id2) 0 1 C2 [.string ⟨x.toArray⟩] w (by omega) hfit hc63 rfl (fun j hj => by have := hsome (l.length + j) (by omega); rwa [← Nat.add_assoc] at this) (fun j hj => hfz _) hvs' h1v).mono ?_
      rintro e w' ⟨rfl, rfl⟩
      obtain ⟨a1, a2, a3, a4, a5⟩ := setCells_heap (G.ι id) T fr [.string ⟨x.toArray⟩] (0 + l.length) (sv l ++ rest) w hg (by simp [hsl]; omega)
      refine inpl _ (rest.drop 1) ?_ ?_ a3 a4 a5 a2 hfit
      · rw [a1, sv_insert, List.length_singleton, ins_end hsl]
      · rw [List.length_append, List.length_append, hso, hsl, List.length_drop]; omega
    · have hlt : i < l.length := by omega
      refine (Any2.slices_Insert_string_shift lays22 (G.ι id) 0 l.length C i (G.ι id2) 0 1 C2 (sv l) [.string ⟨x.toArray⟩] w hlt (by omega) hfit hc63 hbb hsl rfl hcs (fun j hj => hsome j (by omega)) (fun j hj => hfz _) hvs' (fun v hv => sv_one' hv) h1v T2 T ([Value.string ⟨x.toArray⟩] ++ rest2).toArray.size (sv l ++ rest).toArray.size (by unfold World.shape?; simp only [hg2]) (by unfold World.shape?; simp only [hg]) (by rw [List.size_toArray, List.length_append, hsl]; omega) (hfz2 _) (hfz2 _)).mono ?_
      rintro e w' ⟨rfl, rfl⟩
      obtain ⟨a1, a2, a3, a4, a5⟩ := setCells_heap (G.ι id) T fr ((sv l).drop i) (0 + (i + 1)) (sv l ++ rest) w.drew hg (by simp [hsl]; omega)
      obtain ⟨b1, b2, b3, b4, b5⟩ := setCells_heap (G.ι id) T fr [.string ⟨x.toArray⟩] (0 + i) _ _ a1 (by simp [hsl]; omega)
      refine inpl _ ((sv l ++ rest).drop (l.length + 1)) ?_ ?_ (b3.trans a3) (b4.trans a4) (b5.trans a5) (fun b hb => (b2 b hb).trans (a2 b hb)) hfit
      · rw [b1, sv_insert, List.length_singleton, ins_mid hsl hlt]
      · rw [List.length_append, hso, List.length_drop, List.length_append, hsl]; omega
  · have hCl : C = l.length := by omega
    subst hCl
    have hbig : (l.length + 1) * 16 ≤ 140737488355328 := by omega
    have hgc : ∀ e, l.length + 1 ≤ grownCap w (l.length + 1) l.length e := fun e => by simp [grownCap, Question.cut]
    by_cases hie : i = l.length
    · subst hie
      refine (Any2.slices_Insert_string_end_grow lays22 (some ⟨G.ι id, 0, none⟩) l.length l.length (G.ι id2) 0 1 C2 (sv l) [.string ⟨x.toArray⟩] w (by omega) (Nat.le_refl _) (by omega) hbig hsl rfl (fun e => by cases e) (fun a ha j v hj => by cases ha; rw [Addr.add_lit]; exact hcs j v hj) hvs' h1v).mono ?_
      rintro e w' ⟨rfl, rfl⟩
      have hgc' := hgc (lays22_ren.t 9)
      generalize grownCap w (l.length + 1) l.length (lays22_ren.t 9) = C0 at hgc' ⊢
      generalize Builtin.zeroCells (Value.string ⟨#[]⟩).cells (C0 - (l.length + 1)) = Zc
      refine newb _ Zc.toList (lays22_ren.t 9) _ hgc' ?_ ?_ rfl rfl ?_
      · show (w.heap.push _)[w.heap.size]? = _
        rw [Array.getElem?_push_size]
        refine congrArg some (congrArg (fun c => Go.Obj.cells c _ (0, 0)) (Array.ext' ?_))
        simp only [Array.toList_append, sv_insert, ← hsl, List.take_length, List.drop_length]
      · show _ ≤ (w.heap.push _).size
        rw [Array.size_push]; omega
      · intro b hb
        show (w.heap.push _)[b]? = _
        rw [Array.getElem?_push, if_neg (Nat.ne_of_lt hb)]
    · have hlt : i < l.length := by omega
      refine (Any2.slices_Insert_string_grow lays22 (G.ι id) 0 l.length l.length i (G.ι id2) 0 1 C2 (sv l) [.string ⟨x.toArray⟩] w hlt (by omega) (Nat.le_refl _) (by omega) hbig hsl rfl hcs hvs' (fun v hv => sv_one' hv) h1v).mono ?_
      rintro e w' ⟨rfl, rfl⟩
      generalize hC0 : grownCap w (l.length + 1) l.length (lays22_ren.t 9) = C0
      have hC1 : l.length + 1 ≤ C0 := hC0 ▸ hgc _
      generalize hA : w.alloc (.cells (((sv l).take i).toArray ++ Builtin.zeroCells (Value.string ⟨#[]⟩).cells (l.length + 1 - i) ++ Builtin.zeroCells (Value.string ⟨#[]⟩).cells (C0 - (l.length + 1))) (lays22_ren.t 9)) = A0
      obtain ⟨Z, hZl, g1⟩ : ∃ Z : List Value, Z.length = C0 - i ∧ A0.drew.heap[w.heap.size]? = some (.cells ((sv l).take i ++ Z).toArray (lays22_ren.t 9) (0, 0)) := by
        refine ⟨(Builtin.zeroCells (Value.string ⟨#[]⟩).cells (l.length + 1 - i) ++ Builtin.zeroCells (Value.string ⟨#[]⟩).cells (C0 - (l.length + 1))).toList, ?_, ?_⟩
        · have hz : (Value.string ⟨#[]⟩).cells.size = 1 := rfl
          generalize (Value.string ⟨#[]⟩).cells = zc at hz
          simp [Builtin.zeroCells, hz]; omega
        · subst hA
          show (w.heap.push _)[w.heap.size]? = _
          rw [Array.getElem?_push_size]
          refine congrArg some (congrArg (fun c => Go.Obj.cells c _ (0, 0)) (Array.ext' ?_))
          simp only [Array.toList_append, List.append_assoc]
      have k3 : A0.heap.size = w.heap.size + 1 := by
        rw [← hA]
        show (w.heap.push _).size = _
        rw [Array.size_push]
      have k4 : A0.os = w.os := by rw [← hA]; rfl
      have k5 : A0.output = w.output := by rw [← hA]; rfl
      have k2 : ∀ b, b < w.heap.size → A0.heap[b]? = w.heap[b]? := fun b hb => by
        rw [← hA]
        show (w.heap.push _)[b]? = _
        rw [Array.getElem?_push, if_neg (Nat.ne_of_lt hb)]
      clear hA
      have hT' : ((sv l).take i).length = i := by rw [List.length_take, hsl]; omega
      have hD : ((sv l).drop i).length = l.length - i := by rw [List.length_drop, hsl]
      obtain ⟨a1, a2, a3, a4, a5⟩ := setCells_heap w.heap.size _ (0, 0) [.string ⟨x.toArray⟩] i _ A0.drew g1 (by rw [List.length_append, hT', hZl, List.length_singleton]; omega)
      obtain ⟨b1, b2, b3, b4, b5⟩ := setCells_heap w.heap.size _ (0, 0) ((sv l).drop i) (i + 1) _ (World.setCells A0.drew w.heap.size i [.string ⟨x.toArray⟩]).drew a1 (by simp only [List.length_append, List.length_take, List.length_drop, hsl, hZl, List.length_singleton]; omega)
      rw [List.length_singleton, ins_grow hsl hlt, ← sv_insert] at b1
      refine newb _ _ _ _ hC1 b1 ?_ ?_ ?_ ?_
      · rw [b3]; show _ ≤ (World.setCells A0.drew _ _ _).heap.size; rw [a3]; show _ ≤ A0.heap.size; omega
      · rw [b4]; show (World.setCells A0.drew _ _ _).os = _; rw [a4]; exact k4
      · rw [b5]; show (World.setCells A0.drew _ _ _).output = _; rw [a5]; exact k5
      · intro b hb
        rw [b2 b (Nat.ne_of_lt hb)]; show (World.setCells A0.drew _ _ _).heap[b]? = _
        rw [a2 b (Nat.ne_of_lt hb)]
        exact k2 b hb
theorem delete_a (l : List (List UInt8)) (i : Nat) (hi : i < l.length) (hl : l.length < 1099511627776) {id : Nat} {h : H} (ho : h.objs id = some (.cells (strs l))) (htk : h.toks = []) :
    ACalls Tryz.prog 159 [.tsl 1 id 0 l.length none, .int .i64 i, .int .i64 ((i + 1 : Nat) : Int)] h (.sl 1 (strs (l.take i ++ l.drop (i + 1))) .any) (h.less id) := by
  intro G w vs hv R F
  simp only [VRels, VRel] at hv
  obtain ⟨v1, _, rfl, ⟨hd1, hv1⟩, v2, _, rfl, rfl, v3, _, rfl, rfl, rfl⟩ := hv
  obtain ⟨C, c, T, fr, rfl, ⟨hnC, hc63⟩, -, hg, hroom⟩ | ⟨hz, -⟩ := hv1
  rotate_left
  · omega
  obtain ⟨-, hown, hB, us, rest, T', fr', hg', hvs, hfr, -⟩ := R.obj id _ ho
  have hus := sv_of hvs
  subst hus
  rw [hg] at hg'
  obtain ⟨rfl, rfl, rfl⟩ : c = (sv l ++ rest).toArray ∧ T = T' ∧ fr = fr' := by simpa using hg'
  have hsl := sv_length l
  have hfz : ∀ j, w.frozen? ⟨G.ι id, j, none⟩ = false := fun j => by
    unfold World.frozen?; simp only [hg]
    have := hfr
    simp; omega
  have hout : (strs (l.take i ++ l.drop (i + 1))).length = l.length - (i + 1 - i) := by simp [strs]; omega
  have hcell : ∀ j, j < l.length → w.cell? ⟨G.ι id, 0 + j, none⟩ = some (.string (⟨(l.getD j []).toArray⟩ : ByteArray)) := fun j hj => cell_of hg j _ (by
    simp [sv, List.getElem?_map, List.getElem?_eq_getElem hj, List.getD_eq_getElem?_getD])
  have hS : Lib.strsOf (fun j => (⟨(l.getD j []).toArray⟩ : ByteArray)) l.length = l := by
    refine List.ext_getElem (Lib.strsOf_length _ _) fun j h1 h2 => ?_
    simp [Lib.strsOf, List.getD_eq_getElem?_getD, List.getElem?_eq_getElem h2]
  refine (Any.slices_Delete_string_cells lays24 (G.ι id) 0 l.length C i (i + 1) (fun j => (⟨(l.getD j []).toArray⟩ : ByteArray)) w hnC hc63 (by omega) (by omega) hcell (fun j hj => hfz _)).mono ?_
  rintro e w' ⟨rfl, q, rfl⟩
  rw [hS]
  have hm : ∀ m : List (List UInt8), m.map encStr = sv m := fun m => rfl
  rw [hm]
  have hsv : sv (l.take i ++ l.drop (i + 1) ++ List.replicate (i + 1 - i) []) = sv (l.take i ++ l.drop (i + 1)) ++ [.string ⟨#[]⟩] := by
    rw [show i + 1 - i = 1 by omega]; simp [sv]
  have hlen : (sv (l.take i ++ l.drop (i + 1) ++ List.replicate (i + 1 - i) [])).length = l.length := by rw [sv_length]; simp; omega
  obtain ⟨a1, a2, a3, a4, a5⟩ := setCells_heap (G.ι id) T fr (sv (l.take i ++ l.drop (i + 1) ++ List.replicate (i + 1 - i) [])) 0 (sv l ++ rest) (w.drewN q) hg (by rw [hlen, List.length_append, hsl]; omega)
  have e1 : (sv l ++ rest).take 0 ++ sv (l.take i ++ l.drop (i + 1) ++ List.replicate (i + 1 - i) []) ++ (sv l ++ rest).drop (0 + (sv (l.take i ++ l.drop (i + 1) ++ List.replicate (i + 1 - i) [])).length) = sv (l.take i ++ l.drop (i + 1)) ++ (Value.string ⟨#[]⟩ :: rest) := by
    rw [hlen, hsv, Nat.zero_add, ← hsl, List.drop_left, List.take_zero]; simp
  rw [e1] at a1
  obtain ⟨G', T1, R1, V⟩ := row_end (B := G.ι id) (off := 0) (C := C) (xs := strs (l.take i ++ l.drop (i + 1))) (vs := sv (l.take i ++ l.drop (i + 1))) R ho htk (Nat.le_of_eq a3.symm) a4 a5 (fun b _ hb => a2 b hb) (by
    rw [hg, a1]
    refine ⟨_, _, rfl, ?_, fun _ _ h => h⟩
    simp only [List.size_toArray, List.length_append, sv_length, List.length_cons, List.length_take, List.length_drop]
    omega) (.inl rfl) (by rw [hout]; omega) (by rw [hout, sv_length]; simp; omega) (sv_elems _) (fun v hv => sv_one hv) (cell_of a1)
  exact ⟨_, G', rfl, T1, R1, by rw [hout] at V; exact V⟩
end Go.Proofs.YtehhdhadmapplaaGreat.Page
end
section
set_option linter.unusedSimpArgs false
set_option linter.unusedVariables false
set_option maxRecDepth 10000
namespace Go.Proofs.YtehhdhadmapplaaGreat.Page
open Go Go.Av Go.Proofs Go.Proofs.YtehhdhadmapplaaGreat.C
def keyOk (l : List (List UInt8)) (i : Nat) : Bool := decide ((l.getD i []).length ≤ 128) && (decide (i = 0) || Op.bytesLess (l.getD (i - 1) []) (l.getD i []))
def keysOk (l : List (List UInt8)) : Bool := (List.range l.length).all (keyOk l)
def long (v : List UInt8) : Bool := decide (200 < v.length)
def stray (k : Int) : Bool := decide (k < 0) || decide (16384 ≤ k)
def right (n : Node) : Bool := keysOk n.keys && (if n.leaf then decide (n.vals.length = n.keys.length) && decide (n.kids.length = 0) && !n.vals.any long
  else decide (n.vals.length = 0) && decide (n.kids.length = n.keys.length + 1) && !n.kids.any stray)
end Go.Proofs.YtehhdhadmapplaaGreat.Page
end
section
set_option linter.unusedSimpArgs false
set_option linter.unusedVariables false
set_option maxRecDepth 10000
namespace Go.Proofs.YtehhdhadmapplaaGreat.Page
open Go Go.Av Go.Proofs Go.Proofs.YtehhdhadmapplaaGreat.C
end Go.Proofs.YtehhdhadmapplaaGreat.Page
end
section
set_option linter.unusedSimpArgs false
set_option linter.unusedVariables false
set_option maxRecDepth 10000
namespace Go.Proofs.YtehhdhadmapplaaGreat.Page
open Go Go.Av Go.Proofs Go.Proofs.YtehhdhadmapplaaGreat.C
def be : Nat → Nat → List UInt8
  | 0, _ => []
  | b + 1, v => UInt8.ofNat (v / 256 ^ b) :: be b v
end Go.Proofs.YtehhdhadmapplaaGreat.Page
end
section
set_option linter.unusedSimpArgs false
set_option linter.unusedVariables false
set_option maxRecDepth 10000
namespace Go.Proofs.YtehhdhadmapplaaGreat.Page
open Go Go.Av Go.Proofs Go.Proofs.YtehhdhadmapplaaGreat.C
def row (n : Node) (i : Nat) : List UInt8 :=
  be 1 (n.keys.getD i []).length ++ n.keys.getD i [] ++ (if n.leaf then be 2 (n.vals.getD i []).length ++ n.vals.getD i [] else be 4 (n.kids.getD (i + 1) 0).toNat)
def rows (n : Node) : Nat → List UInt8
  | 0 => []
  | j + 1 => rows n j ++ row n j
def head (n : Node) : List UInt8 := (if n.leaf then [76] else [73]) ++ be 2 n.keys.length ++ (if n.leaf then [] else be 4 (n.kids.getD 0 0).toNat)
def text (n : Node) : List UInt8 := head n ++ rows n n.keys.length
def bytesOf (n : Node) : List UInt8 := text n ++ List.replicate (1024 - size n) 0
structure Right (n : Node) : Prop where
  keys : ∀ i, i < n.keys.length → (n.keys.getD i []).length ≤ 128
  vals : n.leaf = true → n.vals.length = n.keys.length
  kids : n.leaf = false → n.kids.length = n.keys.length + 1
  val : n.leaf = true → ∀ i, i < n.keys.length → (n.vals.getD i []).length ≤ 200
  kid : n.leaf = false → ∀ i, i < n.keys.length + 1 → 0 ≤ n.kids.getD i 0 ∧ n.kids.getD i 0 < 16384
end Go.Proofs.YtehhdhadmapplaaGreat.Page
end
section
set_option linter.unusedSimpArgs false
set_option linter.unusedVariables false
set_option maxRecDepth 10000
namespace Go.Proofs.YtehhdhadmapplaaGreat.Page
open Go Go.Av Go.Proofs Go.Proofs.YtehhdhadmapplaaGreat.C
end Go.Proofs.YtehhdhadmapplaaGreat.Page
end
section
set_option linter.unusedSimpArgs false
set_option linter.unusedVariables false
set_option maxRecDepth 10000
namespace Go.Proofs.YtehhdhadmapplaaGreat.Page
open Go Go.Av Go.Proofs Go.Proofs.YtehhdhadmapplaaGreat.C
end Go.Proofs.YtehhdhadmapplaaGreat.Page
end
section
set_option linter.unusedSimpArgs false
set_option linter.unusedVariables false
set_option maxRecDepth 10000
namespace Go.Proofs.YtehhdhadmapplaaGreat.Page
open Go Go.Av Go.Proofs Go.Proofs.YtehhdhadmapplaaGreat.C
end Go.Proofs.YtehhdhadmapplaaGreat.Page
end
section
set_option linter.unusedSimpArgs false
set_option linter.unusedVariables false
set_option maxRecDepth 10000
namespace Go.Proofs.YtehhdhadmapplaaGreat.Page
open Go Go.Av Go.Proofs Go.Proofs.YtehhdhadmapplaaGreat.C
end Go.Proofs.YtehhdhadmapplaaGreat.Page
end
section
set_option linter.unusedSimpArgs false
set_option linter.unusedVariables false
set_option maxRecDepth 10000
namespace Go.Proofs.YtehhdhadmapplaaGreat.Page
open Go Go.Av Go.Proofs Go.Proofs.YtehhdhadmapplaaGreat.C
end Go.Proofs.YtehhdhadmapplaaGreat.Page
end
section
set_option linter.unusedSimpArgs false
set_option linter.unusedVariables false
set_option maxRecDepth 10000
namespace Go.Proofs.YtehhdhadmapplaaGreat.Page
open Go Go.Av Go.Proofs Go.Proofs.YtehhdhadmapplaaGreat.C
end Go.Proofs.YtehhdhadmapplaaGreat.Page
end
section
set_option linter.unusedSimpArgs false
set_option linter.unusedVariables false
set_option maxRecDepth 10000
namespace Go.Proofs.YtehhdhadmapplaaGreat.Page
open Go Go.Av Go.Proofs Go.Proofs.YtehhdhadmapplaaGreat.C
end Go.Proofs.YtehhdhadmapplaaGreat.Page
end
section
set_option linter.unusedSimpArgs false
set_option linter.unusedVariables false
set_option maxRecDepth 10000
namespace Go.Proofs.YtehhdhadmapplaaGreat.Page
open Go Go.Av Go.Proofs Go.Proofs.YtehhdhadmapplaaGreat.C
def least (key k : List UInt8) : Bool := !Op.bytesLess k key
def above (key k : List UInt8) : Bool := !(Op.bytesLess k key || decide (k = key))
def place (n : Node) (key : List UInt8) : Nat := if n.leaf then n.keys.findIdx (least key) else n.keys.findIdx (above key)
end Go.Proofs.YtehhdhadmapplaaGreat.Page
end
section
set_option linter.unusedSimpArgs false
set_option linter.unusedVariables false
set_option maxRecDepth 10000
namespace Go.Proofs.YtehhdhadmapplaaGreat.Page
open Go Go.Av Go.Proofs Go.Proofs.YtehhdhadmapplaaGreat.C
end Go.Proofs.YtehhdhadmapplaaGreat.Page
end
section
set_option linter.unusedSimpArgs false
set_option linter.unusedVariables false
set_option maxRecDepth 10000
namespace Go.Proofs.YtehhdhadmapplaaGreat.Page
open Go Go.Av Go.Proofs Go.Proofs.YtehhdhadmapplaaGreat.C
end Go.Proofs.YtehhdhadmapplaaGreat.Page
end
section
set_option linter.unusedSimpArgs false
set_option linter.unusedVariables false
set_option maxRecDepth 10000
namespace Go.Proofs.YtehhdhadmapplaaGreat.Page
open Go Go.Av Go.Proofs Go.Proofs.YtehhdhadmapplaaGreat.C
def part (n : Node) (a b : Nat) : Node := ⟨n.leaf, (n.keys.take b).drop a, if n.leaf then (n.vals.take b).drop a else [], if n.leaf then [] else (n.kids.take (b + 1)).drop a⟩
structure Ns (n : Node) : Prop where
  k : n.keys.length ≤ 1000
  v : n.vals.length ≤ 1000
  i : n.kids.length ≤ 1001
end Go.Proofs.YtehhdhadmapplaaGreat.Page
end
section
set_option linter.unusedSimpArgs false
set_option linter.unusedVariables false
set_option maxRecDepth 10000
namespace Go.Proofs.YtehhdhadmapplaaGreat.Page
open Go Go.Av Go.Proofs Go.Proofs.YtehhdhadmapplaaGreat.C
theorem insert_e (x : List UInt8) {id2 : Nat} {h : H} (ho2 : h.objs id2 = some (.cells [.str x])) (htk : h.toks = []) :
    ACalls Tryz.prog 154 [.sl 1 [] (.exact 0), .int .i64 0, .tsl 1 id2 0 1 none] h (.sl 1 (strs [x]) .any) (h.less id2) := by
  intro G w vs hv R F
  simp only [VRels] at hv
  obtain ⟨v1, _, rfl, hv1, v2, _, rfl, hv2, v3, _, rfl, hv3, rfl⟩ := hv
  have hbase : ∃ a0, v1 = .slice a0 0 0 := by
    simp only [VRel, CapOk] at hv1
    rcases hv1 with ⟨-, h, -⟩ | ⟨B, off, C, vs, q1, -, -, -, -, q6⟩
    · exact h
    · subst q6; exact ⟨_, by simpa using q1⟩
  obtain ⟨a0, rfl⟩ := hbase
  simp only [VRel] at hv2 hv3
  subst hv2
  obtain ⟨hd2, hv3⟩ := hv3
  obtain ⟨C2, c2, T2, fr2, rfl, ⟨hnC2, -⟩, -, hg2, hroom2⟩ | ⟨hz, -⟩ := hv3
  rotate_left
  · omega
  obtain ⟨-, hown2, hB2, us2, rest2, T2', fr2', hg2', hvs2, hfr2, -⟩ := R.obj id2 _ ho2
  have hus2 : us2 = [.string ⟨x.toArray⟩] := by
    simp only [VRels, VRel] at hvs2
    obtain ⟨v, _, rfl, rfl, rfl⟩ := hvs2
    rfl
  subst hus2
  rw [hg2] at hg2'
  obtain ⟨rfl, rfl, rfl⟩ : c2 = ([Value.string ⟨x.toArray⟩] ++ rest2).toArray ∧ T2 = T2' ∧ fr2 = fr2' := by simpa using hg2'
  have hvs' : ∀ (j : Nat) v, ([Value.string ⟨x.toArray⟩] : List Value)[j]? = some v → w.cell? ⟨G.ι id2, 0 + j, none⟩ = some v := fun j v => cell_of hg2 j v
  have h1v : ∀ v ∈ ([Value.string ⟨x.toArray⟩] : List Value), v.oneCell' = true := by simp [Value.oneCell']
  have key := Any2.slices_Insert_string_end_grow lays22 a0 0 0 (G.ι id2) 0 1 C2 [] [.string ⟨x.toArray⟩] w (by omega) (Nat.le_refl _) (by omega) (by omega) rfl rfl (fun _ => rfl) (fun a ha j v hj => by simp at hj) hvs' h1v
  refine key.mono ?_
  rintro e w' ⟨rfl, rfl⟩
  have hgc' : 0 + 1 ≤ grownCap w (0 + 1) 0 (lays22_ren.t 9) := by simp [grownCap, Question.cut]
  generalize grownCap w (0 + 1) 0 (lays22_ren.t 9) = C0 at hgc' ⊢
  generalize Builtin.zeroCells (Value.string ⟨#[]⟩).cells (C0 - (0 + 1)) = Zc
  have hs : (w.drew.alloc (.cells (([] ++ [Value.string ⟨x.toArray⟩]).toArray ++ Zc) (lays22_ren.t 9))).heap.size = w.heap.size + 1 := by
    show (w.heap.push _).size = _
    rw [Array.size_push]
  have hold : ∀ b, b < w.heap.size → (w.drew.alloc (.cells (([] ++ [Value.string ⟨x.toArray⟩]).toArray ++ Zc) (lays22_ren.t 9))).heap[b]? = w.heap[b]? := fun b hb => by
    show (w.heap.push _)[b]? = _
    rw [Array.getElem?_push, if_neg (Nat.ne_of_lt hb)]
  have hnew : (w.drew.alloc (.cells (([] ++ [Value.string ⟨x.toArray⟩]).toArray ++ Zc) (lays22_ren.t 9))).heap[w.heap.size]? = some (.cells (sv [x] ++ Zc.toList).toArray (lays22_ren.t 9) (0, 0)) := by
    show (w.heap.push _)[w.heap.size]? = _
    rw [Array.getElem?_push_size]
    refine congrArg some (congrArg (fun c => Go.Obj.cells c _ (0, 0)) (Array.ext' ?_))
    simp only [Array.toList_append]
    rfl
  obtain ⟨G', T1, R1, V⟩ := row_end (w' := w.drew.alloc (.cells (([] ++ [Value.string ⟨x.toArray⟩]).toArray ++ Zc) (lays22_ren.t 9))) (B := w.heap.size) (off := 0) (C := C0) (xs := strs [x]) (vs := sv [x]) R ho2 htk (by omega) rfl rfl (fun b hb _ => hold b hb) (by rw [hold _ hB2]; exact SameForm.refl _) (.inr (Nat.le_refl _)) (by simpa [strs] using hgc') rfl (sv_elems _) (fun v hv => sv_one hv) (cell_of hnew)
  exact ⟨_, G', rfl, T1, R1, V⟩
theorem strs_shaped (l : List (List UInt8)) : (strs l).all shaped = true := by
  simp [strs, shaped, isCell]
theorem strs_cells (l : List (List UInt8)) : (strs l).flatMap cellsOf = strs l := by
  induction l with
  | nil => rfl
  | cons s l ih => simp only [strs, List.map_cons, List.flatMap_cons] at ih ⊢; rw [ih]; rfl
theorem insert_x (l : List (List UInt8)) (i : Nat) (x : List UInt8) (hi : i ≤ l.length) (hl : l.length < 1099511627776) (h0 : 0 < l.length) :
    ACalls Tryz.prog 154 [.tsl 1 0 0 l.length none, .int .i64 i, .tsl 1 1 0 1 none] ⟨upd (upd none' 0 (some (.cells ((strs l).flatMap cellsOf)))) 1 (some (.cells [.str x])), 2, [], 0⟩ (.sl 1 (strs (l.take i ++ x :: l.drop i)) .any) (H.less ⟨upd (upd none' 0 (some (.cells ((strs l).flatMap cellsOf)))) 1 (some (.cells [.str x])), 2, [], 0⟩ 0) :=
  insert_a l i x hi hl h0 (id2 := 1) (by decide) (by simp [upd, strs_cells]) (by simp [upd]) rfl
theorem with_p (l : List (List UInt8)) (i : Nat) (x : List UInt8) (hi : i ≤ l.length) (hl : l.length < 1099511627776) :
    PCalls Tryz.prog 249 [.sl 1 (strs l) .any, .int .i64 i, .str x] (.sl 1 (strs (l.take i ++ x :: l.drop i)) .any) := by
  refine f249.pcalls0 (by simp) (by simp [allPure, isPure, capPure, strs_pure]) (by simp [isPure, capPure, strs_pure]) ?_
  unfold c249
  refine Wp.seqReg (by simp only [go_sem, reduceIte, Nat.reduceEqDiff, Nat.reduceAdd, bx]; exact rfl) (by trivial) ?_
  refine Wp.seq (Wp.regN ?_)
  refine WpItemsN.op (by simp only [go_sem, reduceIte, Nat.reduceEqDiff, Nat.reduceAdd, bx]) (by simp only [go_sem, reduceIte, Nat.reduceEqDiff, Nat.reduceAdd, bx]; exact rfl) ?_
  cases l with
  | nil =>
    have hi0 : i = 0 := by simpa using hi
    subst hi0
    refine WpItemsN.pcall (by simp only [go_sem]) (by simp only [go_sem, List.map]; exact VSubs.refl _) (cloneE_gen (sz := 1) (bytes := 16) f208) ?_
    refine WpItemsN.op (by simp only [go_sem, reduceIte, Nat.reduceEqDiff, Nat.reduceAdd, bx]) (by simp only [go_sem, reduceIte, Nat.reduceEqDiff, Nat.reduceAdd, bx]; exact rfl) ?_
    refine WpItemsN.op (by simp only [go_sem, reduceIte, Nat.reduceEqDiff, Nat.reduceAdd, bx]) (by simp only [go_sem, reduceIte, Nat.reduceEqDiff, Nat.reduceAdd, bx]; exact rfl) ?_
    refine WpItemsN.opT (by simp only [go_sem, reduceIte, Nat.reduceEqDiff, Nat.reduceAdd, bx]) (by simp only [aopT, go_sem, reduceIte, Nat.reduceEqDiff, Nat.reduceAdd, bx, List.all_cons, List.all_nil, List.length_cons, List.length_nil, Nat.reduceMul, Nat.reduceLeDiff, and_self, if_true, decide_true, Bool.and_self]; exact rfl) ?_
    refine WpItemsN.acall (by simp only [go_sem]) (by simp only [go_sem, List.map]; exact VSubs.refl _) (insert_e x (by simp [upd, cellsOf]) rfl) (touch_gen _ _ _ (ids := [0]) ?_ rfl rfl ?_ (Nat.le_refl _) (Nat.le_refl _)) ?_
    · exact ⟨fun j o h => h, fun t h => h⟩
    · intro id h; simp only [H0, H.only, upd, none'] at h; split at h <;> simp_all
    refine WpItemsN.op (by simp only [go_sem, reduceIte, Nat.reduceEqDiff, Nat.reduceAdd, bx]) (by simp only [go_sem, reduceIte, Nat.reduceEqDiff, Nat.reduceAdd, bx]; exact rfl) ?_
    refine WpItems.toN (log := []) (WpItems.nil ?_)
    refine Wp.ret ⟨trivial, _, rfl, ?_⟩
    simp only [go_sem, reduceIte, Nat.reduceEqDiff, Nat.reduceAdd, bx]
    exact VSub.refl _
  | cons s l =>
    simp only [List.length_cons] at hi hl
    refine WpItemsN.acall (by simp only [go_sem]) (by simp only [go_sem, List.map]; exact VSubs.refl _) (cloneT_gen (sz := 1) (bytes := 16) f208 (.str s) (strs l) (strs_shaped (s :: l)) (by rw [strs_length]; omega) (by rw [strs_length]; omega) 0 0) (touch_new (H0 0 0) _) ?_
    refine WpItemsN.op (by simp only [go_sem, reduceIte, Nat.reduceEqDiff, Nat.reduceAdd, bx]) (by simp only [go_sem, reduceIte, Nat.reduceEqDiff, Nat.reduceAdd, bx]; exact rfl) ?_
    refine WpItemsN.op (by simp only [go_sem, reduceIte, Nat.reduceEqDiff, Nat.reduceAdd, bx]) (by simp only [go_sem, reduceIte, Nat.reduceEqDiff, Nat.reduceAdd, bx]; exact rfl) ?_
    refine WpItemsN.opT (by simp only [go_sem, reduceIte, Nat.reduceEqDiff, Nat.reduceAdd, bx]) (by simp only [aopT, go_sem, reduceIte, Nat.reduceEqDiff, Nat.reduceAdd, bx, List.all_cons, List.all_nil, List.length_cons, List.length_nil, Nat.reduceMul, Nat.reduceLeDiff, and_self, if_true, decide_true, Bool.and_self]; exact rfl) ?_
    refine WpItemsN.acall (by simp only [go_sem]) (by simp only [go_sem, List.map]; exact VSubs.refl _) (insert_x (s :: l) i x hi (by simpa using hl) (by simp)) (touch_gen _ _ _ (ids := [0, 1]) ?_ rfl rfl ?_ (Nat.le_refl _) (Nat.le_refl _)) ?_
    · exact ⟨fun j o h => h, fun t h => h⟩
    · intro id h; simp only [H0, H.only, upd, none'] at h; split at h <;> simp_all
    refine WpItemsN.op (by simp only [go_sem, reduceIte, Nat.reduceEqDiff, Nat.reduceAdd, bx]) (by simp only [go_sem, reduceIte, Nat.reduceEqDiff, Nat.reduceAdd, bx]; exact rfl) ?_
    refine WpItems.toN (log := []) (WpItems.nil ?_)
    refine Wp.ret ⟨trivial, _, rfl, ?_⟩
    simp only [go_sem, reduceIte, Nat.reduceEqDiff, Nat.reduceAdd, bx]
    exact VSub.refl _
theorem delete_x (l : List (List UInt8)) (i : Nat) (hi : i < l.length) (hl : l.length < 1099511627776) :
    ACalls Tryz.prog 159 [.tsl 1 0 0 l.length none, .int .i64 i, .int .i64 ((i + 1 : Nat) : Int)] (.only (upd none' 0 (some (.cells ((strs l).flatMap cellsOf)))) [] 1 0) (.sl 1 (strs (l.take i ++ l.drop (i + 1))) .any) (H.less (.only (upd none' 0 (some (.cells ((strs l).flatMap cellsOf)))) [] 1 0) 0) :=
  delete_a l i hi hl (by simp [H.only, upd, strs_cells]) rfl
theorem without_p (l : List (List UInt8)) (i : Nat) (hi : i < l.length) (hl : l.length < 1099511627776) :
    PCalls Tryz.prog 256 [.sl 1 (strs l) .any, .int .i64 i] (.sl 1 (strs (l.take i ++ l.drop (i + 1))) .any) := by
  refine f256.pcalls0 (by simp) (by simp [allPure, isPure, capPure, strs_pure]) (by simp [isPure, capPure, strs_pure]) ?_
  unfold c256
  have hw : IntKind.i64.wrap ((i : Int) + 1) = ((i + 1 : Nat) : Int) := by rw [IntWalk.i64_in _ (by omega)]; rfl
  refine Wp.seqReg (by simp only [go_sem, reduceIte, Nat.reduceEqDiff, Nat.reduceAdd, bx]; exact rfl) (by trivial) ?_
  refine Wp.seq (Wp.regN ?_)
  refine WpItemsN.op (by simp only [go_sem, reduceIte, Nat.reduceEqDiff, Nat.reduceAdd, bx]) (by simp only [go_sem, reduceIte, Nat.reduceEqDiff, Nat.reduceAdd, bx]; exact rfl) ?_
  cases l with
  | nil => simp at hi
  | cons s l =>
    simp only [List.length_cons] at hi hl
    refine WpItemsN.acall (by simp only [go_sem]) (by simp only [go_sem, List.map]; exact VSubs.refl _) (cloneT_gen (sz := 1) (bytes := 16) f208 (.str s) (strs l) (strs_shaped (s :: l)) (by rw [strs_length]; omega) (by rw [strs_length]; omega) 0 0) (touch_new (H0 0 0) _) ?_
    refine WpItemsN.op (by simp only [go_sem, reduceIte, Nat.reduceEqDiff, Nat.reduceAdd, bx]) (by simp only [go_sem, reduceIte, Nat.reduceEqDiff, Nat.reduceAdd, bx, hw]; exact rfl) ?_
    refine WpItemsN.op (by simp only [go_sem, reduceIte, Nat.reduceEqDiff, Nat.reduceAdd, bx]) (by simp only [go_sem, reduceIte, Nat.reduceEqDiff, Nat.reduceAdd, bx, hw]; exact rfl) ?_
    refine WpItemsN.op (by simp only [go_sem, reduceIte, Nat.reduceEqDiff, Nat.reduceAdd, bx]) (by simp only [go_sem, reduceIte, Nat.reduceEqDiff, Nat.reduceAdd, bx, hw]; exact rfl) ?_
    refine WpItemsN.acall (by simp only [go_sem]) (by simp only [go_sem, List.map]; exact VSubs.refl _) (delete_x (s :: l) i hi (by simpa using hl)) (touch_gen _ _ _ (ids := [0]) ?_ rfl rfl ?_ (Nat.le_refl _) (Nat.le_refl _)) ?_
    · exact ⟨fun j o h => h, fun t h => h⟩
    · intro id h; simp only [H0, H.only, upd, none'] at h; split at h <;> simp_all
    refine WpItemsN.op (by simp only [go_sem, reduceIte, Nat.reduceEqDiff, Nat.reduceAdd, bx]) (by simp only [go_sem, reduceIte, Nat.reduceEqDiff, Nat.reduceAdd, bx]; exact rfl) ?_
    refine WpItems.toN (log := []) (WpItems.nil ?_)
    refine Wp.ret ⟨trivial, _, rfl, ?_⟩
    simp only [go_sem, reduceIte, Nat.reduceEqDiff, Nat.reduceAdd, bx]
    exact VSub.refl _
end Go.Proofs.YtehhdhadmapplaaGreat.Page
end
section
set_option linter.unusedSimpArgs false
set_option linter.unusedVariables false
set_option maxRecDepth 100000
namespace Go.Proofs.YtehhdhadmapplaaGreat.Tree
open Go Go.Av Go.Proofs Go.Proofs.YtehhdhadmapplaaGreat.C Go.Proofs.YtehhdhadmapplaaGreat.Page
theorem blank_p (c : UInt8) : PCalls Tryz.prog 227 [byte c] (.bool (decide (c ≠ 0))) := by
  refine f227.pcalls0 (by simp) rfl rfl ?_
  unfold c227
  have e : decide (((c.toNat : Nat) : Int) = 0) = decide (c = 0) := decide_eq_decide.2 ⟨fun h => UInt8.toNat_inj.1 (by omega : c.toNat = 0), fun h => by rw [h]; rfl⟩
  repeat (first
    | ((first | apply Wp.seqItems | apply Wp.items); (· simp only [go_sem, reduceIte, Nat.reduceEqDiff, Nat.reduceAdd, bx, ax, if_true, if_false, Nat.reduceMul, Nat.reduceLeDiff, byte, e]; exact rfl))
    | (refine WpItems.nil ⟨?_, ?_⟩; (· first | trivial | simp [pairsQ, pairsOk, apart, ent0]))
    | (apply Wp.cond_lit; (· simp only [go_sem, reduceIte, Nat.reduceEqDiff, Nat.reduceAdd, bx, ax, if_true, if_false, Nat.reduceMul, Nat.reduceLeDiff, byte, e]; exact rfl); (· rfl))
    | refine Wp.skip ?_
    | refine Wp.label ?_
    | refine Wp.block ?_
    | refine Wp.exit ?_
    | refine Wp.seq ?_)
  refine Wp.ret ⟨trivial, _, rfl, ?_⟩
  simp only [go_sem, reduceIte, Nat.reduceEqDiff, Nat.reduceAdd, bx]
  refine VSub.of_eq ?_
  simp
theorem anyBlank_p (l : List UInt8) (hl : l.length ≤ 4611686018427387904) : PCalls Tryz.prog 229 [.sl 1 (bytesAV l) .any, .clo (.func 227) [] []] (.bool (l.any (fun c => decide (c ≠ 0)))) :=
  contains_gen f229 byte (fun _ => rfl) l _ (index_gen f298 byte (fun _ => rfl) (fun _ => rfl) l hl _ Tryz.func227 rfl (of_decide_eq_true (by kernel_rfl)) fun x _ => blank_p x)
noncomputable def nzs (l : List AV) : Nat → Bool → Option (Nat × Bool) :=
  List.rec (motive := fun _ => Nat → Bool → Option (Nat × Bool)) (fun n b => some (n, b)) (fun x _ ih n b => match x with
    | .int .u8 (.ofNat k) => (match Nat.ble k 255 with
      | true => (match Nat.beq k 0 with
        | true => ih (Nat.succ n) b
        | false => ih (Nat.succ n) true)
      | false => none)
    | _ => none) l
theorem nzs_ok : ∀ {l : List AV} {n : Nat} {b : Bool} {r : Nat × Bool}, nzs l n b = some r → ∃ bs : List UInt8, l = bytesAV bs ∧ r = (n + bs.length, b || bs.any fun c => decide (c ≠ 0))
  | [], n, b, r, h => by
    simp only [nzs, Option.some.injEq] at h
    exact ⟨[], rfl, by simp [← h]⟩
  | x :: l, n, b, r, h => by
    change (match x with
    | .int .u8 (.ofNat k) => (match Nat.ble k 255 with
      | true => (match Nat.beq k 0 with
        | true => nzs l (Nat.succ n) b
        | false => nzs l (Nat.succ n) true)
      | false => none)
    | _ => none) = _ at h
    split at h
    · rename_i k
      split at h
      · rename_i hk
        have hk := Nat.le_of_ble_eq_true hk
        have hx : AV.int .u8 (Int.ofNat k) = byte (UInt8.ofNat k) := by simp [byte]; omega
        have hz : (UInt8.ofNat k = 0) ↔ k = 0 := by
          constructor
          · intro e
            have := congrArg UInt8.toNat e
            simp at this
            omega
          · rintro rfl; rfl
        split at h
        · rename_i e
          have e := Nat.eq_of_beq_eq_true e
          obtain ⟨bs, rfl, hr⟩ := nzs_ok h
          refine ⟨UInt8.ofNat k :: bs, by simp [bytesAV, ← hx], ?_⟩
          rw [hr]
          simp [hz.2 e]
          omega
        · rename_i e
          have e := Nat.ne_of_beq_eq_false e
          obtain ⟨bs, rfl, hr⟩ := nzs_ok h
          refine ⟨UInt8.ofNat k :: bs, by simp [bytesAV, ← hx], ?_⟩
          have : decide (UInt8.ofNat k ≠ 0) = true := decide_eq_true fun q => e (hz.1 q)
          rw [hr]
          simp only [List.any_cons, this, List.length_cons, Bool.true_or, Bool.or_true, Prod.mk.injEq, and_true]
          omega
      · cases h
    · cases h
noncomputable def unStrs (l : List AV) : Option (List (List UInt8)) :=
  List.rec (motive := fun _ => Option (List (List UInt8))) (some []) (fun x _ ih => match x with
    | .str s => (match ih with
      | some r => some (s :: r)
      | none => none)
    | _ => none) l
theorem unStrs_ok : ∀ {l : List AV} {r : List (List UInt8)}, unStrs l = some r → l = strs r
  | [], r, h => by cases h; rfl
  | x :: l, r, h => by
    change (match x with
    | .str s => (match unStrs l with
      | some r => some (s :: r)
      | none => none)
    | _ => none) = _ at h
    split at h
    · split at h
      · rename_i hr
        cases h
        rw [unStrs_ok hr]; rfl
      · cases h
    · cases h
noncomputable def treePP (f : Nat) (args : List AV) : Option AV :=
  match Nat.beq f 229 with
  | true => (match args with
    | [.sl s xs _, .clo (.func g) [] []] => (match Nat.beq g 227 && Nat.beq s 1 with
      | true => (match nzs xs 0 false with
        | some (n, b) => (match Nat.ble n 4611686018427387904 with
          | true => some (.bool b)
          | false => none)
        | none => none)
      | false => none)
    | _ => none)
  | false => match Nat.beq f 249 with
    | true => (match args with
      | [.sl s xs _, .int .i64 (.ofNat i), .str x] => (match unStrs xs with
        | some l => (match (Nat.beq s 1 || l.isEmpty) && Nat.ble i l.length && Nat.blt l.length 1099511627776 with
          | true => some (.sl 1 (strs (l.take i ++ x :: l.drop i)) .any)
          | false => none)
        | none => none)
      | _ => none)
    | false => match Nat.beq f 256 with
      | true => (match args with
        | [.sl s xs _, .int .i64 (.ofNat i)] => (match unStrs xs with
          | some l => (match Nat.beq s 1 && Nat.blt i l.length && Nat.blt l.length 1099511627776 with
            | true => some (.sl 1 (strs (l.take i ++ l.drop (i + 1))) .any)
            | false => none)
          | none => none)
        | _ => none)
      | false => none
theorem treePP_ok {f : Nat} {args : List AV} {r : AV} (h : treePP f args = some r) : (∃ vals, VSubs args vals ∧ PCalls Tryz.prog f vals r) ∧ NamedF Tryz.prog f := by
  unfold treePP at h
  split at h
  · rename_i e
    have e := Nat.eq_of_beq_eq_true e
    subst e
    refine ⟨?_, ⟨_, Tryz.func229, of_decide_eq_true (by kernel_rfl), of_decide_eq_true (by kernel_rfl)⟩⟩
    split at h
    · split at h
      · rename_i hc
        simp only [Bool.and_eq_true] at hc
        have c1 := Nat.eq_of_beq_eq_true hc.1
        have c2 := Nat.eq_of_beq_eq_true hc.2
        subst c1 c2
        split at h
        · rename_i n b hn
          split at h
          · rename_i hl
            cases h
            obtain ⟨bs, rfl, hr⟩ := nzs_ok hn
            simp only [Nat.zero_add, Bool.false_or, Prod.mk.injEq] at hr
            obtain ⟨rfl, rfl⟩ := hr
            exact ⟨_, VSubs.cons VSub.cap (VSubs.refl _), anyBlank_p bs (Nat.le_of_ble_eq_true hl)⟩
          · cases h
        · cases h
      · cases h
    · cases h
  split at h
  · rename_i e
    have e := Nat.eq_of_beq_eq_true e
    subst e
    refine ⟨?_, ⟨_, Tryz.func249, of_decide_eq_true (by kernel_rfl), of_decide_eq_true (by kernel_rfl)⟩⟩
    split at h
    · split at h
      · rename_i l hl
        split at h
        · rename_i hc
          cases h
          simp only [Bool.and_eq_true, Bool.or_eq_true] at hc
          have hl := unStrs_ok hl
          subst hl
          have c2 := Nat.le_of_ble_eq_true hc.1.2
          have c3 := Nat.le_of_ble_eq_true hc.2
          refine ⟨_, VSubs.cons ?_ (VSubs.refl _), with_p l _ _ c2 c3⟩
          rcases hc.1.1 with e | e
          · rw [Nat.eq_of_beq_eq_true e]; exact VSub.cap
          · rw [List.isEmpty_iff.1 e]; exact VSub.nil
        · cases h
      · cases h
    · cases h
  split at h
  · rename_i e
    have e := Nat.eq_of_beq_eq_true e
    subst e
    refine ⟨?_, ⟨_, Tryz.func256, of_decide_eq_true (by kernel_rfl), of_decide_eq_true (by kernel_rfl)⟩⟩
    split at h
    · split at h
      · rename_i l hl
        split at h
        · rename_i hc
          cases h
          simp only [Bool.and_eq_true] at hc
          have hl := unStrs_ok hl
          subst hl
          have c1 := Nat.eq_of_beq_eq_true hc.1.1
          have c2 := Nat.le_of_ble_eq_true hc.1.2
          have c3 := Nat.le_of_ble_eq_true hc.2
          subst c1
          exact ⟨_, VSubs.cons VSub.cap (VSubs.refl _), without_p l _ c2 c3⟩
        · cases h
      · cases h
    · cases h
  · cases h
noncomputable def thawed (f : Nat) : Bool := Nat.beq f 224 || Nat.beq f 141
end Go.Proofs.YtehhdhadmapplaaGreat.Tree
end
section
set_option linter.unusedSimpArgs false
set_option linter.unusedVariables false
set_option maxRecDepth 100000
namespace Go.Proofs.YtehhdhadmapplaaGreat.Arch
open Go Go.Av Go.Proofs Go.Proofs.YtehhdhadmapplaaGreat.C
theorem wrap32 {n : Nat} (h : n < 4294967296) : IntKind.u32.wrap (n : Int) = n := by
  simp [IntKind.wrap, IntKind.bits, IntKind.signed]; omega
theorem ofInt32 {n : Nat} (h : n < 4294967296) : (BitVec.ofInt IntKind.u32.bits (n : Int)).toNat = n := by
  rw [BitVec.ofInt_natCast, BitVec.toNat_ofNat]
  exact Nat.mod_eq_of_lt h
theorem xor32 {a b : Nat} (ha : a < 4294967296) (hb : b < 4294967296) : xorI .u32 (a : Int) (b : Int) = ((a ^^^ b : Nat) : Int) := by
  unfold xorI
  rw [BitVec.toNat_xor, ofInt32 ha, ofInt32 hb]
  exact wrap32 (Nat.xor_lt_two_pow (n := 32) ha hb)
theorem and32 {a b : Nat} (ha : a < 4294967296) (hb : b < 4294967296) : andI .u32 (a : Int) (b : Int) = ((a &&& b : Nat) : Int) := by
  unfold andI
  rw [BitVec.toNat_and, ofInt32 ha, ofInt32 hb]
  exact wrap32 (Nat.and_lt_two_pow (n := 32) a hb)
theorem and1 {a : Nat} (ha : a < 4294967296) : andI .u32 (a : Int) 1 = ((a % 2 : Nat) : Int) := by
  rw [show (1 : Int) = ((1 : Nat) : Int) from rfl, and32 ha (by decide), Nat.and_one_is_mod]
def bitN (c : Nat) : Nat := if c % 2 = 1 then (c / 2) ^^^ 2197175160 else c / 2
def itN : Nat → Nat → Nat
  | 0, c => c
  | k + 1, c => bitN (itN k c)
theorem bitN_lt {c : Nat} (h : c < 4294967296) : bitN c < 4294967296 := by
  unfold bitN
  split
  · exact Nat.xor_lt_two_pow (n := 32) (by omega) (by decide)
  · omega
theorem itN_lt {c : Nat} (h : c < 4294967296) : ∀ k, itN k c < 4294967296
  | 0 => h
  | k + 1 => bitN_lt (itN_lt h k)
def byteN (c : Nat) (b : UInt8) : Nat := itN 8 (c ^^^ b.toNat)
theorem byteN_lt {c : Nat} (h : c < 4294967296) (b : UInt8) : byteN c b < 4294967296 := by
  refine itN_lt (Nat.xor_lt_two_pow (n := 32) h ?_) 8
  have := b.toNat_lt
  omega
def goN (l : List UInt8) : Nat := l.foldl byteN 4294967295
theorem foldl_lt : ∀ (l : List UInt8) (c : Nat), c < 4294967296 → l.foldl byteN c < 4294967296
  | [], c, h => h
  | b :: l, c, h => foldl_lt l _ (byteN_lt h b)
theorem goN_lt (l : List UInt8) : goN l < 4294967296 := foldl_lt l _ (by decide)
theorem goN_snoc (l : List UInt8) (b : UInt8) : goN (l ++ [b]) = byteN (goN l) b := by simp [goN, List.foldl_append]
def sumN (l : List UInt8) : Nat := goN l ^^^ 4294967295
theorem shr1 (c : Nat) : (c : Int).fdiv (2 ^ (min (Int.toNat 1) 32)) = ((c / 2 : Nat) : Int) := by
  rw [show (min (Int.toNat 1) 32) = 1 from rfl, show (2 : Int) ^ 1 = 2 from rfl, Int.fdiv_eq_ediv_of_nonneg _ (by decide)]
  rfl
theorem neg0 : IntKind.u32.wrap (0 - ((0 : Nat) : Int)) = 0 := by decide
theorem neg1 : IntKind.u32.wrap (0 - ((1 : Nat) : Int)) = 4294967295 := by decide
theorem fin32 {c : Nat} (h : c < 4294967296) : IntKind.i64.wrap (xorI .u32 (if IntKind.u32.signed = true then -1 else IntKind.u32.max) (c : Int)) = ((c ^^^ 4294967295 : Nat) : Int) := by
  rw [show (if IntKind.u32.signed = true then (-1 : Int) else IntKind.u32.max) = ((4294967295 : Nat) : Int) from rfl, xor32 (by decide) h, Nat.xor_comm]
  have := Nat.xor_lt_two_pow (n := 32) h (show 4294967295 < 2 ^ 32 by decide)
  exact IntWalk.i64_in _ (by omega)
theorem take_snoc {l : List UInt8} {j : Nat} (h : j < l.length) (d : UInt8) : l.take (j + 1) = l.take j ++ [l.getD j d] := by
  rw [List.take_add_one, List.getD, List.getElem?_eq_getElem h]; simp
theorem byte_i (b : UInt8) : IntKind.u32.wrap (b.toNat : Int) = (b.toNat : Int) := wrap32 (by have := b.toNat_lt; omega)
theorem bits_if (c : Nat) (h : c < 4294967296) : xorI .u32 ((c / 2 : Nat) : Int) (andI .u32 2197175160 (IntKind.u32.wrap (0 - ((c % 2 : Nat) : Int)))) = ((bitN c : Nat) : Int) := by
  have h2 : c / 2 < 4294967296 := by omega
  unfold bitN
  rcases Nat.mod_two_eq_zero_or_one c with e | e
  · rw [e, neg0, show (andI .u32 2197175160 0) = ((0 : Nat) : Int) by decide, xor32 h2 (by decide), if_neg (by decide), Nat.xor_zero]
  · rw [e, neg1, show (andI .u32 2197175160 4294967295) = ((2197175160 : Nat) : Int) by decide, xor32 h2 (by decide), if_pos rfl]
theorem sum_p (l : List UInt8) (hl : l.length ≤ 4611686018427387904) : PCalls Tryz.prog 171 [.sl 1 (bytesAV l) .any] (.int .i64 (sumN l : Nat)) := by
  refine f171.pcalls0 (by simp) (by
    have : allPure (bytesAV l) = true := Av.allPure_map (fun a => rfl) l
    simp [allPure, isPure, capPure, this]) rfl ?_
  unfold c171
  have hil : (bytesAV l).length = l.length := by simp [bytesAV]
  repeat (first
    | refine WpItemsF.nil ?_
    | ((first | apply Wp.seqItemsF | apply Wp.itemsF); (· simp only [go_sem, reduceIte, Nat.reduceEqDiff, Nat.reduceAdd, bx, ax, if_true, if_false, Nat.reduceMul, Nat.reduceLeDiff, hil]; exact rfl))
    | (apply Wp.cond_lit; (· simp only [go_sem, reduceIte, Nat.reduceEqDiff, Nat.reduceAdd, bx, ax, if_true, if_false, Nat.reduceMul, Nat.reduceLeDiff, hil]; exact rfl); (· rfl))
    | refine Wp.skip ?_
    | refine Wp.label ?_
    | refine Wp.block ?_
    | refine Wp.exit ?_
    | refine Wp.seq ?_)
  refine Wp.loopK [6, 7] (by simp only [go_sem, reduceIte, Nat.reduceEqDiff, Nat.reduceAdd, bx, List.map]; exact rfl) (fun j : Nat => [(3, .int .u32 (goN (l.take j) : Nat)), (8, .int .i64 (j : Nat))]) (fun j => j ≤ l.length) (fun j => l.length - j) 0 (Nat.zero_le _) ?_ ?_
  · simp only [AllSub, go_sem, reduceIte, Nat.reduceEqDiff, Nat.reduceAdd, bx]; and_intros <;> first | exact trivial | exact VSub.refl _ | exact VSub.any _ | (refine VSub.int ?_; omega)
  intro j hj
  by_cases hcj : j < l.length
  · have d1 : decide ((j : Int) < (l.length : Int)) = true := decide_eq_true (by omega)
    have h2 : (0 : Int) ≤ (j : Int) := Int.natCast_nonneg _
    have h3 : (j : Int) < (l.length : Int) := by omega
    have e1 : IntKind.i64.wrap ((j : Int) + 1) = ((j + 1 : Nat) : Int) := by rw [IntWalk.i64_in _ (by omega)]; omega
    have hat : ∀ d, (bytesAV l).getD j d = byte (l.getD j 0) := fun d => bytes_getD l j d hcj
    have hsn := take_snoc hcj 0
    generalize hx : l.getD j 0 = x at hat hsn
    have hlt := goN_lt (l.take j)
    have hx8 : x.toNat < 4294967296 := by have := x.toNat_lt; omega
    have hxor := xor32 hlt hx8
    have hc0 : goN (l.take j) ^^^ x.toNat < 4294967296 := Nat.xor_lt_two_pow (n := 32) hlt hx8
    have hwx := byte_i x
    repeat (first
      | refine WpItemsF.nil ?_
      | ((first | apply Wp.seqItemsF | apply Wp.itemsF); (· simp only [go_sem, reduceIte, Nat.reduceEqDiff, Nat.reduceAdd, bx, ax, if_true, if_false, Nat.reduceMul, Nat.reduceLeDiff, hil, d1, h2, h3, Int.toNat_natCast, and_self, hat, byte, hxor, hwx]; exact rfl))
      | (apply Wp.cond_lit; (· simp only [go_sem, reduceIte, Nat.reduceEqDiff, Nat.reduceAdd, bx, ax, if_true, if_false, Nat.reduceMul, Nat.reduceLeDiff, hil, d1, h2, h3, Int.toNat_natCast, and_self, hat, byte, hxor, hwx]; exact rfl); (· rfl))
      | refine Wp.skip ?_
      | refine Wp.label ?_
      | refine Wp.block ?_
      | refine Wp.exit ?_
      | refine Wp.seq ?_)
    refine Wp.loopK [6, 7, 8] (by simp only [go_sem, reduceIte, Nat.reduceEqDiff, Nat.reduceAdd, bx, List.map]; exact rfl) (fun k : Nat => [(3, .int .u32 (itN k (goN (l.take j) ^^^ x.toNat) : Nat)), (16, .int .i64 (k : Nat))]) (fun k => k ≤ 8) (fun k => 8 - k) 0 (Nat.zero_le _) ?_ ?_
    · simp only [AllSub, go_sem, reduceIte, Nat.reduceEqDiff, Nat.reduceAdd, bx]; and_intros <;> first | exact trivial | exact VSub.refl _ | exact VSub.any _ | (refine VSub.int ?_; omega)
    intro k hk
    by_cases hk8 : k < 8
    · have d2 : decide ((k : Int) < 8) = true := decide_eq_true (by omega)
      have e2 : IntKind.i64.wrap ((k : Int) + 1) = ((k + 1 : Nat) : Int) := by rw [IntWalk.i64_in _ (by omega)]; omega
      have hit := itN_lt hc0 k
      have hb := bits_if _ hit
      have ha := and1 hit
      have hs1 := shr1 (itN k (goN (l.take j) ^^^ x.toNat))
      repeat (first
        | refine WpItemsF.nil ?_
        | ((first | apply Wp.seqItemsF | apply Wp.itemsF); (· simp only [go_sem, reduceIte, Nat.reduceEqDiff, Nat.reduceAdd, bx, ax, if_true, if_false, Nat.reduceMul, Nat.reduceLeDiff, d2, e2, hs1, ha, hb]; exact rfl))
        | (apply Wp.cond_lit; (· simp only [go_sem, reduceIte, Nat.reduceEqDiff, Nat.reduceAdd, bx, ax, if_true, if_false, Nat.reduceMul, Nat.reduceLeDiff, d2, e2, hs1, ha, hb]; exact rfl); (· rfl))
        | refine Wp.skip ?_
        | refine Wp.label ?_
        | refine Wp.block ?_
        | refine Wp.exit ?_
        | refine Wp.seq ?_)
      refine ⟨k + 1, by omega, by omega, ?_⟩
      refine StLe.tm (by simp only [AllSub, go_sem, reduceIte, Nat.reduceEqDiff, Nat.reduceAdd, bx]; and_intros <;> first | exact trivial | exact VSub.refl _ | exact VSub.any _ | (refine VSub.int ?_; omega))
    · obtain rfl : k = 8 := by omega
      repeat (first
        | refine WpItemsF.nil ?_
        | ((first | apply Wp.seqItemsF | apply Wp.itemsF); (· simp only [go_sem, reduceIte, Nat.reduceEqDiff, Nat.reduceAdd, bx, ax, if_true, if_false, Nat.reduceMul, Nat.reduceLeDiff, e1]; exact rfl))
        | (apply Wp.cond_lit; (· simp only [go_sem, reduceIte, Nat.reduceEqDiff, Nat.reduceAdd, bx, ax, if_true, if_false, Nat.reduceMul, Nat.reduceLeDiff, e1]; exact rfl); (· rfl))
        | refine Wp.skip ?_
        | refine Wp.label ?_
        | refine Wp.block ?_
        | refine Wp.exit ?_
        | refine Wp.seq ?_)
      refine ⟨j + 1, by omega, by omega, ?_⟩
      refine StLe.tm (by simp only [AllSub, go_sem, reduceIte, Nat.reduceEqDiff, Nat.reduceAdd, bx]; and_intros <;> first | exact trivial | exact VSub.refl _ | exact VSub.any _ | exact VSub.of_eq (by rw [hsn, goN_snoc]; rfl) | (refine VSub.int ?_; omega))
  · obtain rfl : j = l.length := by omega
    have d1 : decide ((l.length : Int) < (l.length : Int)) = false := decide_eq_false (by omega)
    repeat (first
      | refine WpItemsF.nil ?_
      | ((first | apply Wp.seqItemsF | apply Wp.itemsF); (· simp only [go_sem, reduceIte, Nat.reduceEqDiff, Nat.reduceAdd, bx, ax, if_true, if_false, Nat.reduceMul, Nat.reduceLeDiff, d1]; exact rfl))
      | (apply Wp.cond_lit; (· simp only [go_sem, reduceIte, Nat.reduceEqDiff, Nat.reduceAdd, bx, ax, if_true, if_false, Nat.reduceMul, Nat.reduceLeDiff, d1]; exact rfl); (· rfl))
      | refine Wp.skip ?_
      | refine Wp.label ?_
      | refine Wp.block ?_
      | refine Wp.exit ?_
      | refine Wp.seq ?_)
    refine Wp.ret ⟨trivial, _, rfl, ?_⟩
    simp only [go_sem, reduceIte, Nat.reduceEqDiff, Nat.reduceAdd, bx]
    exact VSub.of_eq (by rw [List.take_length, fin32 (goN_lt l)]; rfl)
end Go.Proofs.YtehhdhadmapplaaGreat.Arch
end
section
set_option linter.unusedSimpArgs false
set_option linter.unusedVariables false
set_option maxRecDepth 100000
namespace Go.Proofs.YtehhdhadmapplaaGreat.Tree
open Go Go.Av Go.Proofs Go.Proofs.YtehhdhadmapplaaGreat.C
theorem place_a {h : H} {id : Nat} {a b c d e : AV} {fr n q : Nat} (ho : h.objs id = some (.cells [a, .int .i64 fr, .int .i64 n, b, c, d, e])) (hn : 0 < n) (hs : fr + q % n ≤ 9223372036854775807) : ACalls Tryz.prog 180 [.ptr id 0, .int .i64 q] h (.int .i64 (fr + q % n : Nat)) h := by
  obtain ⟨r, h', hc, e1, e2⟩ := f180.acalls (args := [.ptr id 0, .int .i64 q]) (h := h) (Q := fun r h' => r = .int .i64 (fr + q % n : Nat) ∧ h' = h) (by simp) (by
    unfold c180
    have h1 : ¬ ((n : Int) = 0) := by omega
    have h2 : (q : Int).tmod (n : Int) = ((q % n : Nat) : Int) := (Int.ofNat_tmod q n).symm
    have h3 : IntKind.i64.wrap ((fr : Int) + ((q % n : Nat) : Int)) = ((fr + q % n : Nat) : Int) := by rw [IntWalk.i64_in _ (by omega)]; omega
    repeat (first
      | ((first | apply Wp.seqItemsR | apply Wp.itemsR); (· simp only [go_sem, reduceIte, Nat.reduceEqDiff, Nat.reduceAdd, bx, ax, if_true, if_false, Nat.reduceMul, Nat.reduceLeDiff, ho, h1, h2, h3]; exact rfl))
      | (refine WpItems.nil ⟨?_, ?_⟩; (· first | trivial | simp [pairsQ, pairsOk, apart, ent0]))
      | (apply Wp.cond_lit; (· simp only [go_sem, reduceIte, Nat.reduceEqDiff, Nat.reduceAdd, bx, ax, if_true, if_false, Nat.reduceMul, Nat.reduceLeDiff, ho, h1, h2, h3]; exact rfl); (· rfl))
      | refine Wp.skip ?_
      | refine Wp.label ?_
      | refine Wp.block ?_
      | refine Wp.exit ?_
      | refine Wp.seq ?_)
    refine Wp.ret ⟨trivial, _, ?_, rfl, rfl⟩
    simp only [go_sem]
    exact rfl)
  subst e1 e2
  exact hc
theorem sg_cells {σ : Sg} {h : HZ} {id : Nat} {cs : List AV} (ho : h.at id = some (.cells cs)) : (h.hp.sg σ).objs id = some (.cells cs) := by
  change (h.at id).map (sgO (σ id)) = _
  rw [ho]; rfl
theorem only_at {id n m : Nat} {T : List Nat} {ob : Av.Obj} : (H.only (upd none' id (some ob)) T n m).objs id = some ob := by simp [H.only, upd]
noncomputable def placeZ : PrimsZ := fun f args h => match Nat.beq f 180 with
  | true => match args with
    | [.ptr id 0, .int .i64 (.ofNat q)] => (match h.at id with
      | some (.cells [a, .int .i64 (.ofNat fr), .int .i64 (.ofNat n), b, c, d, e]) => (match Nat.blt 0 n && Nat.ble (fr + q % n) 9223372036854775807 with
        | true => some (.int .i64 (Int.ofNat (fr + q % n)), h, ⟨[id], [], []⟩)
        | false => none)
      | _ => none)
    | _ => none
  | false => none
theorem placeZ_ok : PrimsOkZ Tryz.prog placeZ := by
  intro σ f args h r h' en hx
  unfold placeZ at hx
  split at hx
  · rename_i e
    have e := Nat.eq_of_beq_eq_true e
    subst e
    refine ⟨?_, ⟨_, Tryz.func180, of_decide_eq_true (by kernel_rfl), of_decide_eq_true (by kernel_rfl)⟩⟩
    split at hx
    · split at hx
      · rename_i ho
        split at hx
        · rename_i hc
          simp only [Bool.and_eq_true] at hc
          cases hx
          exact ⟨_, _, touch_read _ (sg_cells ho), place_a only_at (Nat.le_of_ble_eq_true hc.1) (Nat.le_of_ble_eq_true hc.2)⟩
        · cases hx
      · cases hx
    · cases hx
  · cases hx
end Go.Proofs.YtehhdhadmapplaaGreat.Tree
end
section
set_option linter.unusedSimpArgs false
set_option linter.unusedVariables false
set_option maxRecDepth 100000
namespace Go.Proofs.YtehhdhadmapplaaGreat.Tree
open Go Go.Av Go.Proofs Go.Proofs.YtehhdhadmapplaaGreat.C Go.Proofs.YtehhdhadmapplaaGreat.Arch
noncomputable def sumK (l : List AV) : Nat → Nat → Option (Nat × Nat) :=
  List.rec (motive := fun _ => Nat → Nat → Option (Nat × Nat)) (fun n c => some (n, c)) (fun x _ ih n c => match x with
    | .int .u8 (.ofNat k) => (match Nat.ble k 255 && Nat.beq c c with
      | true => ih (Nat.succ n) (itN 8 (c ^^^ k))
      | false => none)
    | _ => none) l
theorem sumK_ok : ∀ {l : List AV} {n c : Nat} {r : Nat × Nat}, sumK l n c = some r → ∃ bs : List UInt8, l = bytesAV bs ∧ r = (n + bs.length, bs.foldl byteN c)
  | [], n, c, r, h => by
    simp only [sumK, Option.some.injEq] at h
    exact ⟨[], rfl, by simp [← h]⟩
  | x :: l, n, c, r, h => by
    change (match x with
    | .int .u8 (.ofNat k) => (match Nat.ble k 255 && Nat.beq c c with
      | true => sumK l (Nat.succ n) (itN 8 (c ^^^ k))
      | false => none)
    | _ => none) = _ at h
    split at h
    · rename_i k
      split at h
      · rename_i hk
        simp only [Bool.and_eq_true] at hk
        have hk := Nat.le_of_ble_eq_true hk.1
        have hx : AV.int .u8 (Int.ofNat k) = byte (UInt8.ofNat k) := by simp [byte]; omega
        have hk2 : (UInt8.ofNat k).toNat = k := by simp; omega
        obtain ⟨bs, rfl, hr⟩ := sumK_ok h
        refine ⟨UInt8.ofNat k :: bs, by simp [bytesAV, ← hx], ?_⟩
        rw [hr]
        simp only [List.length_cons, List.foldl_cons, byteN, hk2, Prod.mk.injEq, and_true]
        omega
      · cases h
    · cases h
noncomputable def storePP (f : Nat) (args : List AV) : Option AV :=
  match Nat.beq f 171 with
  | true => (match args with
    | [.sl s xs _] => (match Nat.beq s 1, sumK xs 0 4294967295 with
      | true, some (n, c) => (match Nat.ble n 4611686018427387904 with
        | true => some (.int .i64 (Int.ofNat (c ^^^ 4294967295)))
        | false => none)
      | _, _ => none)
    | _ => none)
  | false => match Nat.beq f 185 with
    | true => cloneE [(185, 3)] f args
    | false => treePP f args
theorem cloneRec_p : PCalls Tryz.prog 185 [.sl 3 [] .any] (.sl 3 [] (.exact 0)) := cloneE_gen (sz := 3) (bytes := 32) f185
theorem storePP_ok {f : Nat} {args : List AV} {r : AV} (h : storePP f args = some r) : (∃ vals, VSubs args vals ∧ PCalls Tryz.prog f vals r) ∧ NamedF Tryz.prog f := by
  unfold storePP at h
  split at h
  · rename_i e
    have e := Nat.eq_of_beq_eq_true e
    subst e
    refine ⟨?_, ⟨_, Tryz.func171, of_decide_eq_true (by kernel_rfl), of_decide_eq_true (by kernel_rfl)⟩⟩
    split at h
    · split at h
      · rename_i n c hs hn
        split at h
        · rename_i hl
          cases h
          have hs := Nat.eq_of_beq_eq_true hs
          subst hs
          obtain ⟨bs, rfl, hr⟩ := sumK_ok hn
          simp only [Nat.zero_add, Prod.mk.injEq] at hr
          obtain ⟨rfl, rfl⟩ := hr
          exact ⟨_, VSubs.cons VSub.cap VSubs.nil, sum_p bs (Nat.le_of_ble_eq_true hl)⟩
        · cases h
      · cases h
    · cases h
  split at h
  · rename_i e
    have e := Nat.eq_of_beq_eq_true e
    subst e
    refine ⟨cloneE_ok h fun p hp => ?_, ⟨_, Tryz.func185, of_decide_eq_true (by kernel_rfl), of_decide_eq_true (by kernel_rfl)⟩⟩
    simp only [List.mem_singleton] at hp
    subst hp
    exact cloneRec_p
  · exact treePP_ok h
end Go.Proofs.YtehhdhadmapplaaGreat.Tree
end
section
set_option linter.unusedSimpArgs false
set_option linter.unusedVariables false
set_option maxRecDepth 10000
namespace Go.Proofs.YtehhdhadmapplaaGreat.Batch
open Go Go.Av Go.Proofs Go.Proofs.YtehhdhadmapplaaGreat.C
end Go.Proofs.YtehhdhadmapplaaGreat.Batch
end
section
set_option linter.unusedSimpArgs false
set_option linter.unusedVariables false
set_option maxRecDepth 10000
namespace Go.Proofs.YtehhdhadmapplaaGreat.Space
open Go Go.Av Go.Proofs Go.Proofs.YtehhdhadmapplaaGreat.C Go.Proofs.YtehhdhadmapplaaGreat.Batch
abbrev Bs := List UInt8
structure Ver where
  t : Int
  v : Bs
  d : Bool
  deriving DecidableEq
instance : Inhabited Ver := ⟨⟨0, [], false⟩⟩
end Go.Proofs.YtehhdhadmapplaaGreat.Space
end
section
set_option linter.unusedSimpArgs false
set_option linter.unusedVariables false
set_option maxRecDepth 10000
namespace Go.Proofs.YtehhdhadmapplaaGreat.Space
open Go Go.Av Go.Proofs Go.Proofs.YtehhdhadmapplaaGreat.C Go.Proofs.YtehhdhadmapplaaGreat.Batch
end Go.Proofs.YtehhdhadmapplaaGreat.Space
end
section
set_option linter.unusedSimpArgs false
set_option linter.unusedVariables false
set_option maxRecDepth 10000
namespace Go.Proofs.YtehhdhadmapplaaGreat.Space
open Go Go.Av Go.Proofs Go.Proofs.YtehhdhadmapplaaGreat.C Go.Proofs.YtehhdhadmapplaaGreat.Batch
theorem grow_p (k : Nat) (h0 : 0 < k) (hk : k ≤ 4398046511104) (n m : Nat) : ACalls Tryz.prog 339 [.sl 3 [] (.exact 0), .int .i64 k] (H0 n m) (.sl 3 [] (.own m)) (.only none' [m] (n + 1) (m + 1)) := by
  refine ACalls.thaw (cs := (List.replicate k (AV.agg [.int .i64 0, .str [], .bool false])).flatMap cellsOf) (id := n) (off := 0) ⟨Nat.le_refl _, Nat.lt_succ_self _⟩ ?_
  have key : ∃ r h', ACalls Tryz.prog 339 [.sl 3 [] (.exact 0), .int .i64 k] (H0 n m) r h' ∧ (r = .tsl 3 n 0 0 none ∧ h' = .only (upd none' n (some (.cells ((List.replicate k (AV.agg [.int .i64 0, .str [], .bool false])).flatMap cellsOf)))) [] (n + 1) m) := by
    refine f339.acalls (by simp) ?_
    unfold c339
    have g1 : decide ((k : Int) < 0) = false := decide_eq_false (by omega)
    have g2 : decide ((0 : Int) < (k : Int)) = true := decide_eq_true (by omega)
    have e0 : IntKind.i64.wrap (((0 : Nat) : Int) - ((0 : Nat) : Int)) = 0 := rfl
    have e1 : IntKind.i64.wrap ((k : Int) - 0) = (k : Int) := by rw [Int.sub_zero]; exact IntWalk.i64_in _ (by omega)
    have h3 : (0 : Int) < (k : Int) := by omega
    have z : ((0 : Nat) : Int) = 0 := rfl
    have r1 : k * 32 ≤ 140737488355328 := by omega
    have r2 : k < 4611686018427387904 := by omega
    repeat (first
      | ((first | apply Wp.seqItemsR | apply Wp.itemsR); (· simp only [go_sem, reduceIte, Nat.reduceEqDiff, Nat.reduceAdd, bx, ax, if_true, if_false, Nat.reduceMul, Nat.reduceLeDiff, g1, g2, e0, e1]; exact rfl))
      | (refine WpItems.nil ⟨?_, ?_⟩; (· first | trivial | simp [pairsQ, pairsOk, apart, ent0]))
      | (apply Wp.cond_lit; (· simp only [go_sem, reduceIte, Nat.reduceEqDiff, Nat.reduceAdd, bx, ax, if_true, if_false, Nat.reduceMul, Nat.reduceLeDiff, g1, g2, e0, e1]; exact rfl); (· rfl))
      | refine Wp.skip ?_
      | refine Wp.label ?_
      | refine Wp.block ?_
      | refine Wp.exit ?_
      | refine Wp.seq ?_)
    refine Wp.regN ?_
    refine WpItemsN.op (by simp only [go_sem, reduceIte, Nat.reduceEqDiff, Nat.reduceAdd, bx]) (by simp only [go_sem, reduceIte, Nat.reduceEqDiff, Nat.reduceAdd, bx]; exact rfl) ?_
    refine WpItemsN.op (by simp only [go_sem, reduceIte, Nat.reduceEqDiff, Nat.reduceAdd, bx]) (by simp only [go_sem, reduceIte, Nat.reduceEqDiff, Nat.reduceAdd, bx]; exact rfl) ?_
    refine WpItemsN.op (by simp only [go_sem, reduceIte, Nat.reduceEqDiff, Nat.reduceAdd, bx]) (by simp only [go_sem, reduceIte, Nat.reduceEqDiff, Nat.reduceAdd, bx]; exact rfl) ?_
    refine WpItemsN.op (by simp only [go_sem, reduceIte, Nat.reduceEqDiff, Nat.reduceAdd, bx]) (by simp only [go_sem, reduceIte, Nat.reduceEqDiff, Nat.reduceAdd, bx, z, Int.le_refl, and_self, if_true, Int.toNat_zero, Nat.sub_self]; exact rfl) ?_
    refine WpItemsN.op (by simp only [go_sem, reduceIte, Nat.reduceEqDiff, Nat.reduceAdd, bx]) (by simp only [go_sem, reduceIte, Nat.reduceEqDiff, Nat.reduceAdd, bx, z, Int.le_refl, and_self, if_true, Int.toNat_zero, Nat.sub_self]; exact rfl) ?_
    refine WpItemsN.opZ (by simp only [go_sem]) (by simp only [aopZ, go_sem, reduceIte, Nat.reduceEqDiff, h3, Int.toNat_natCast, r1, r2, and_self, if_true, true_and]; exact rfl) ?_
    refine WpItemsN.op (by simp only [go_sem, reduceIte, Nat.reduceEqDiff, Nat.reduceAdd, bx]) (by simp only [go_sem, reduceIte, Nat.reduceEqDiff, Nat.reduceAdd, bx, z, Int.le_refl, and_self, if_true, Int.toNat_zero, Nat.sub_self, true_and, Int.toNat_natCast, Int.natCast_nonneg]; exact rfl) ?_
    refine WpItemsN.op (by simp only [go_sem, reduceIte, Nat.reduceEqDiff, Nat.reduceAdd, bx]) (by simp only [go_sem, reduceIte, Nat.reduceEqDiff, Nat.reduceAdd, bx, z, Int.le_refl, and_self, if_true, Int.toNat_zero, Nat.sub_self, true_and, Int.toNat_natCast, Int.natCast_nonneg]; exact rfl) ?_
    refine WpItemsN.op (by simp only [go_sem, reduceIte, Nat.reduceEqDiff, Nat.reduceAdd, bx]) (by simp only [go_sem, reduceIte, Nat.reduceEqDiff, Nat.reduceAdd, bx, z, Int.le_refl, and_self, if_true, Int.toNat_zero, Nat.sub_self, true_and, Int.toNat_natCast, Int.natCast_nonneg]; exact rfl) ?_
    refine WpItemsN.op (by simp only [go_sem, reduceIte, Nat.reduceEqDiff, Nat.reduceAdd, bx]) (by simp only [go_sem, reduceIte, Nat.reduceEqDiff, Nat.reduceAdd, bx, z, Int.le_refl, and_self, if_true, Int.toNat_zero, Nat.sub_self, true_and, Int.toNat_natCast, Int.natCast_nonneg]; exact rfl) ?_
    refine WpItems.toN (log := []) (WpItems.nil ?_)
    repeat (first
      | ((first | apply Wp.seqItemsR | apply Wp.itemsR); (· simp only [go_sem, reduceIte, Nat.reduceEqDiff, Nat.reduceAdd, bx, ax, if_true, if_false, Nat.reduceMul, Nat.reduceLeDiff]; exact rfl))
      | (refine WpItems.nil ⟨?_, ?_⟩; (· first | trivial | simp [pairsQ, pairsOk, apart, ent0]))
      | (apply Wp.cond_lit; (· simp only [go_sem, reduceIte, Nat.reduceEqDiff, Nat.reduceAdd, bx, ax, if_true, if_false, Nat.reduceMul, Nat.reduceLeDiff]; exact rfl); (· rfl))
      | refine Wp.skip ?_
      | refine Wp.label ?_
      | refine Wp.block ?_
      | refine Wp.exit ?_
      | refine Wp.seq ?_)
    exact Wp.ret ⟨trivial, _, rfl, rfl, rfl⟩
  obtain ⟨r, h', hc, rfl, rfl⟩ := key
  exact hc
end Go.Proofs.YtehhdhadmapplaaGreat.Space
end
section
set_option linter.unusedSimpArgs false
set_option linter.unusedVariables false
set_option maxRecDepth 100000
namespace Go.Proofs.YtehhdhadmapplaaGreat.Tree
open Go Go.Av Go.Proofs Go.Proofs.YtehhdhadmapplaaGreat.C
noncomputable def engPF : PrimsF := fun f args h => match Nat.beq f 154 with
  | true => (match args with
    | [.sl 1 [] (.exact 0), .int .i64 (.ofNat 0), .tsl 1 id2 0 1 _] => (match h.at id2 with
      | some (.cells [.str x]) => some (.sl 1 (strs [x]) .any, h.set id2 none)
      | _ => none)
    | _ => none)
  | false => match Nat.beq f 339 with
    | true => (match args with
      | [.sl 3 [] (.exact 0), .int .i64 (.ofNat k)] => (match Nat.blt 0 k && Nat.ble k 4398046511104 with
        | true => some (.sl 3 [] (.own h.m), ⟨(h.set h.n none).o, h.n + 1, h.m :: h.toks, h.m + 1⟩)
        | false => none)
      | _ => none)
    | false => none
theorem tsl_any {sz id off len : Nat} {c : Option Nat} : VSub (.tsl sz id off len c) (.tsl sz id off len none) := by
  intro G w v hv
  simp only [VRel] at hv ⊢
  obtain ⟨h1, ⟨C, c0, T, fr, h2, h3, -, h4⟩ | ⟨h2, h3, -⟩⟩ := hv
  · exact ⟨h1, .inl ⟨C, c0, T, fr, h2, h3, by simp, h4⟩⟩
  · exact ⟨h1, .inr ⟨h2, h3, by simp⟩⟩
theorem engPF_ok : PrimsOkF Tryz.prog engPF := by
  intro σ f args h r h' hx
  unfold engPF at hx
  split at hx
  · rename_i e
    have e := Nat.eq_of_beq_eq_true e
    subst e
    refine ⟨?_, ⟨_, Tryz.func154, of_decide_eq_true (by kernel_rfl), of_decide_eq_true (by kernel_rfl)⟩⟩
    split at hx
    · rename_i id2 c
      split at hx
      · rename_i x ho
        cases hx
        have ac := Page.insert_e x (id2 := id2) (h := H.only (upd none' id2 (some (.cells [.str x]))) [] h.n h.m) only_at rfl
        have hs : (H.only (upd none' id2 (some (.cells [.str x]))) [] h.n h.m).sub (h.hp.sg σ) := by
          refine ⟨fun j o hj => ?_, fun t ht => by simp [H.only] at ht⟩
          obtain ⟨rfl, rfl⟩ := only1 hj
          exact sg_cells ho
        have fr := ACalls.frame (h1' := (H.only (upd none' id2 (some (.cells [.str x]))) [] h.n h.m).less id2) hs rfl rfl (Nat.le_refl _) (Nat.le_refl _) ac
        have e : (h.set id2 none).hp.sg σ = (h.hp.sg σ).patch (H.only (upd none' id2 (some (.cells [.str x]))) [] h.n h.m) ((H.only (upd none' id2 (some (.cells [.str x]))) [] h.n h.m).less id2) := by
          refine H.ext (fun j => ?_) rfl (by simp only [H.patch, H.only, H.less, List.contains_nil, Bool.not_false, List.nil_append]; rw [filter_tt]; rfl) rfl
          change ((h.set id2 none).at j).map (sgO (σ j)) = _
          rw [HZ.at_set]
          simp only [H.patch, H.only, H.less, upd, none']
          by_cases q : j = id2
          · simp [q]
          · have hn : ¬ (h.n ≤ j ∧ j < h.n) := by omega
            simp [q, hn]
            rfl
        rw [e]
        exact fun G w vs hv R F => fr G w vs (VSubs.cons (VSub.refl _) (VSubs.cons (VSub.refl _) (VSubs.cons tsl_any VSubs.nil)) G w vs hv) R F
      · cases hx
    · cases hx
  split at hx
  · rename_i e
    have e := Nat.eq_of_beq_eq_true e
    subst e
    refine ⟨?_, ⟨_, Tryz.func339, of_decide_eq_true (by kernel_rfl), of_decide_eq_true (by kernel_rfl)⟩⟩
    split at hx
    · rename_i k
      split at hx
      · rename_i hc
        cases hx
        simp only [Bool.and_eq_true] at hc
        have ac := Space.grow_p k (Nat.le_of_ble_eq_true hc.1) (Nat.le_of_ble_eq_true hc.2) h.n h.m
        have hs : (H0 h.n h.m).sub (h.hp.sg σ) := ⟨fun j o hj => by simp [H0, H.only, none'] at hj, fun t ht => by simp [H0, H.only] at ht⟩
        have fr := ACalls.frame hs rfl rfl (Nat.le_succ _) (Nat.le_succ _) ac
        have e : (⟨(h.set h.n none).o, h.n + 1, h.m :: h.toks, h.m + 1⟩ : HZ).hp.sg σ = (h.hp.sg σ).patch (H0 h.n h.m) (.only none' [h.m] (h.n + 1) (h.m + 1)) := by
          refine H.ext (fun j => ?_) rfl (by simp only [H.patch, H0, H.only, List.contains_nil, Bool.not_false, List.cons_append, List.nil_append]; rw [filter_tt]; rfl) rfl
          change ((h.set h.n none).at j).map (sgO (σ j)) = _
          rw [HZ.at_set]
          simp only [H.patch, H0, H.only, none']
          by_cases q : j = h.n
          · simp [q]
          · have hn : ¬ (h.n ≤ j ∧ j < h.n + 1) := by omega
            simp [q, hn]
            rfl
        rw [e]
        exact fr
      · cases hx
    · cases hx
  · cases hx
end Go.Proofs.YtehhdhadmapplaaGreat.Tree
end
section
set_option linter.unusedVariables false
set_option linter.unusedSimpArgs false
namespace Go.Av
open Go.ChangeShapes Go.WideShapes Go.ChangeAt Go.RowKit
section
variable {H : Type} {enc : TypeId × Value → H} {P : Program} {w : World}
def G0 : Ghost := ⟨fun _ => False, fun _ => 0, fun _ => False, fun _ => none, fun _ => False, fun _ => none⟩
def wrapE (P : Program) (e : TypeId) (cs : List AV) : AV := if isAggT P e then .agg cs else cs.headD .any
/- how many values and letters stand in a value -/
mutual
def bulkA : AV → Nat
  | .int _ _ => 1
  | .bool _ => 1
  | .str l => l.length + 1
  | .sl _ xs _ => bulkAs xs + 1
  | .agg cs => bulkAs cs
  | _ => 0
def bulkAs : List AV → Nat
  | [] => 0
  | x :: xs => bulkA x + bulkAs xs
end
theorem bulkAs_append : ∀ l m : List AV, bulkAs (l ++ m) = bulkAs l + bulkAs m
  | [], m => by simp [bulkAs]
  | x :: l, m => by simp [bulkAs, bulkAs_append l m]; omega
theorem bulk_wrap (P : Program) (e : TypeId) (cs : List AV) : bulkA (wrapE P e cs) ≤ bulkAs cs := by
  unfold wrapE
  split
  · simp [bulkA]
  · cases cs with
    | nil => simp [bulkA, bulkAs]
    | cons x cs => simp [bulkAs]
structure Bulk (B : DataW H → Nat) (BL : List (DataW H) → Nat) : Prop where
  str : ∀ l, B (.lit (.string l)) = l.length + 1
  int : ∀ k n, B (.lit (.int k n)) = 1
  bool : ∀ b, B (.lit (.bool b)) = 1
  nil : B .nil = 1
  slice : ∀ a b, B (.slice a b) = BL a + BL b + 1
  agg : ∀ a, B (.agg a) = BL a + 1
  nils : BL [] = 0
  cons : ∀ d l, BL (d :: l) = B d + BL l
theorem Bulk.snoc {B : DataW H → Nat} {BL : List (DataW H) → Nat} (hB : Bulk B BL) : ∀ (l : List (DataW H)) (d : DataW H), BL (l ++ [d]) = BL l + B d
  | [], d => by simp [hB.cons, hB.nils]
  | x :: l, d => by simp [hB.cons, Bulk.snoc hB l d]; omega
theorem Bulk.take {B : DataW H → Nat} {BL : List (DataW H) → Nat} (hB : Bulk B BL) : ∀ (l : List (DataW H)) (m : Nat), BL (l.take m) ≤ BL l
  | [], m => by simp
  | x :: l, 0 => by simp [hB.nils]
  | x :: l, m + 1 => by simp [hB.cons, Bulk.take hB l m]
theorem weights_mem_all {P : Program} {e : TypeId} {n : Nat} : ∀ {l : List (DataW H)} {d : DataW H}, d ∈ l → n ∈ d.weights P e → n ∈ DataW.weightsAll P e l
  | x :: l, d, h, hn => by
    simp only [DataW.weightsAll, List.mem_append]
    rcases List.mem_cons.1 h with rfl | h
    · exact .inl hn
    · exact .inr (weights_mem_all h hn)
inductive All2 {α β : Type} (R : α → β → Prop) : List α → List β → Prop
  | nil : All2 R [] []
  | cons {a b l m} : R a b → All2 R l m → All2 R (a :: l) (b :: m)
def Fits (P : Program) : Nat → TypeId → List AV → Prop
  | 0, _, _ => False
  | k + 1, t, xs => match P.underlying t with
    | some .bool => ∃ b, xs = [.bool b]
    | some (.int q) => ∃ n, xs = [.int q n] ∧ (Lit.int q n).wf = true
    | some .string => ∃ l, xs = [.str l] ∧ l.length ≤ reachBytes
    | some (.slice e) => ∃ ys, xs = [.sl (P.cellsOf e) ys .any] ∧ ys.length * P.bytesOf e ≤ reachBytes ∧ ∀ y ∈ ys, ∃ cs, Fits P k e cs ∧ y = wrapE P e cs
    | some (.struct fs) => ∃ xss, xs = xss.flatten ∧ All2 (fun (f : Field) cs => Fits P k f.type cs) fs.toList xss
    | _ => False
def plainT (P : Program) : Nat → TypeId → Bool
  | 0, _ => false
  | k + 1, t => match P.underlying t with
    | some .bool | some (.int _) | some .string => true
    | some (.slice e) => decide (e < P.types.size) && decide (0 < P.cellsOf e) && (isAggT P e || decide (P.cellsOf e = 1)) && plainT P k e
    | some (.struct fs) => decide (t < P.types.size) && fs.all fun f => plainT P k f.type
    | _ => false
theorem cell_spot {a : Addr} {v : Value} (h : w.cell? a = some v) : a.spot = none := by
  unfold World.cell? at h
  split at h
  · split at h
    · cases h
    · rename_i hs; cases hh : a.spot with
      | none => rfl
      | some x => simp [hh] at hs
  · cases h
theorem one_of_bool (b : Bool) : One (.bool b) := ⟨fun _ => by simp, fun _ => by simp⟩
theorem one_of_int (k : IntKind) (n : Int) : One (.int k n) := ⟨fun _ => by simp, fun _ => by simp⟩
theorem one_of_str (s : ByteArray) : One (.string s) := ⟨fun _ => by simp, fun _ => by simp⟩
theorem one_of_sl (a : Option Addr) (l c : Nat) : One (.slice a l c) := ⟨fun _ => by simp, fun _ => by simp⟩
theorem fields_split {R : Field → List AV → Prop} {G : Ghost} {B : DataW H → Nat} {BL : List (DataW H) → Nat} (hB : Bulk B BL) (full : List Value) (rd : Field → List Value → DataW H → Prop)
    (hrd : ∀ f cs d, rd f cs d → ∃ xs, R f xs ∧ VRels G w xs cs ∧ (∀ v ∈ cs, One v) ∧ bulkAs xs ≤ B d) : ∀ (fs : List Field) (ds : List (DataW H)) (off : Nat), ds.length = fs.length →
    (∀ (j : Nat) f, fs[j]? = some f → f.offset = off + ((fs.take j).map fun f => P.cellsOf f.type).sum) → full.length = off + (fs.map fun f => P.cellsOf f.type).sum →
    (∀ (j : Nat) f d, fs[j]? = some f → ds[j]? = some d → rd f ((full.drop f.offset).take (P.cellsOf f.type)) d) → ∃ xss, All2 R fs xss ∧ VRels G w xss.flatten (full.drop off) ∧ (∀ v ∈ full.drop off, One v) ∧ bulkAs xss.flatten ≤ BL ds
  | [], ds, off, hl, h1, h2, h3 => by
    have e : full.drop off = [] := List.drop_eq_nil_of_le (by simp at h2; omega)
    exact ⟨[], .nil, by rw [e]; exact .nil, by rw [e]; simp, by simp [bulkAs]⟩
  | f :: fs, [], off, hl, h1, h2, h3 => by cases hl
  | f :: fs, d :: ds, off, hl, h1, h2, h3 => by
    have o0 : f.offset = off := by simpa using h1 0 f rfl
    have hf := h3 0 f d rfl rfl
    rw [o0] at hf
    obtain ⟨xs, r1, r2, r3, r4⟩ := hrd f _ d hf
    obtain ⟨xss, q1, q2, q3, q4⟩ := fields_split hB full rd hrd fs ds (off + P.cellsOf f.type) (by simpa using hl) (fun j g hj => by
      have := h1 (j + 1) g (by simpa using hj)
      simp only [List.take_succ_cons, List.map_cons, List.sum_cons] at this; omega) (by simp only [List.map_cons, List.sum_cons] at h2; omega) (fun j g d' hg hd => h3 (j + 1) g d' (by simpa using hg) (by simpa using hd))
    have e : full.drop off = (full.drop off).take (P.cellsOf f.type) ++ full.drop (off + P.cellsOf f.type) := by
      rw [← List.drop_drop, List.take_append_drop]
    refine ⟨xs :: xss, .cons r1 q1, ?_, ?_, ?_⟩
    · rw [e, List.flatten_cons]; exact r2.append q2
    · rw [e]; intro v hv
      rcases List.mem_append.1 hv with hv | hv
      · exact r3 v hv
      · exact q3 v hv
    · rw [List.flatten_cons, bulkAs_append, hB.cons]; omega
theorem wrapE_rel {e : TypeId} {cs : List AV} {vs : List Value} (hs : vs.length = P.cellsOf e) (hr : VRels G0 w cs vs) (ho : ∀ v ∈ vs, One v) (hc : isAggT P e = false → P.cellsOf e = 1) :
    ∃ v : Value, v.cells.toList = vs ∧ VRel G0 w (wrapE P e cs) v := by
  unfold wrapE
  cases ha : isAggT P e with
  | true => exact ⟨.agg vs.toArray, by simp [Value.cells], by simp only [if_true, VRel]; exact ⟨vs, rfl, hr⟩⟩
  | false =>
    rw [hc ha] at hs
    obtain ⟨v, rfl⟩ := List.length_eq_one_iff.1 hs
    have hl := hr.length
    obtain ⟨x, rfl⟩ := List.length_eq_one_iff.1 (show cs.length = 1 by simpa using hl.symm)
    simp only [VRels] at hr
    obtain ⟨v', us, e1, hv, e2⟩ := hr
    cases e1
    refine ⟨v, ?_, by simpa using hv⟩
    have := ho v (by simp)
    cases v <;> first | rfl | exact absurd rfl (this.1 _) | exact absurd rfl (this.2 _)
theorem Fits.slice {k : Nat} {t e : TypeId} {ys : List AV} (ht : P.underlying t = some (.slice e)) (h1 : ys.length * P.bytesOf e ≤ reachBytes) (h2 : ∀ y ∈ ys, ∃ cs, Fits P k e cs ∧ y = wrapE P e cs) : Fits P (k + 1) t [.sl (P.cellsOf e) ys .any] := by
  unfold Fits; rw [ht]; exact ⟨ys, rfl, h1, h2⟩
theorem trod_fits (hl : laidOutB P = true) {B : DataW H → Nat} {BL : List (DataW H) → Nat} (hB : Bulk B BL) : ∀ (k : Nat) (t : TypeId), plainT P k t = true → ∀ (fuel : Nat) (cs : List Value) (x : DataW H × List MemPlace),
    DataW.trod enc P w 0 (fun _ => true) true fuel t cs = some x → (∀ n ∈ x.1.weights P t, n ≤ reachBytes) → ∃ xs, Fits P k t xs ∧ VRels G0 w xs cs ∧ (∀ v ∈ cs, One v) ∧ bulkAs xs ≤ B x.1 := by
  intro k
  induction k with
  | zero => intro t h; cases h
  | succ k ih =>
    intro t hp fuel cs x hx hwt
    simp only [plainT] at hp
    split at hp
    · rename_i ht
      obtain ⟨b, rfl, rfl⟩ := DataW.trod_bool ht hx
      exact ⟨[.bool b], by simp only [Fits, ht]; exact ⟨b, rfl⟩, .cons (by simp [VRel]) .nil, by simp [one_of_bool], by simp [hB.bool, bulkAs, bulkA]⟩
    · rename_i q ht
      obtain ⟨n, rfl, rfl, hw⟩ := DataW.trod_int ht hx
      exact ⟨[.int q n], by simp only [Fits, ht]; exact ⟨n, rfl, hw⟩, .cons (by simp [VRel]) .nil, by simp [one_of_int], by simp [hB.int, bulkAs, bulkA]⟩
    · rename_i ht
      obtain ⟨s, rfl, rfl, -⟩ := DataW.trod_string ht hx
      refine ⟨[.str s.data.toList], by simp only [Fits, ht]; exact ⟨_, rfl, hwt _ (by simp [DataW.weights])⟩, .cons (by simp [VRel]) .nil, by simp [one_of_str], by simp [hB.str, bulkAs, bulkA]⟩
    · rename_i e ht
      simp only [Bool.and_eq_true, decide_eq_true_eq] at hp
      obtain ⟨⟨⟨-, hsz⟩, hag⟩, hpe⟩ := hp
      rcases DataW.trod_slice ht hx with ⟨rfl, rfl⟩ | ⟨a, len, cap, elems, rest, n, rfl, rfl, rfl, hb, hlc, hcm, hel, hread, hrest, -⟩
      · refine ⟨[.sl (P.cellsOf e) [] .any], Fits.slice ht (by simp) (fun y hy => by cases hy), .cons ?_ .nil, by simp [one_of_sl], by simp [hB.nil, bulkAs, bulkA]⟩
        unfold VRel; exact .inl ⟨rfl, ⟨none, rfl⟩, trivial⟩
      · have hone : isAggT P e = false → P.cellsOf e = 1 := by
          intro ha
          simpa [ha] using hag
        -- the cells of each element
        have each : ∀ i, i < len → ∃ vs xs, w.cells? 0 (a.add (i * P.cellsOf e)) (P.cellsOf e) = some vs ∧ Fits P k e xs ∧ VRels G0 w xs vs ∧ (∀ v ∈ vs, One v) ∧ ∀ y, elems[i]? = some y → bulkAs xs ≤ B y.1 := by
          intro i hi
          have h := hread i hi
          rw [List.getElem?_eq_getElem (by omega)] at h
          obtain ⟨vs, h1, h2⟩ := Option.bind_eq_some_iff.1 h
          obtain ⟨xs, h3, h4, h5, h6⟩ := ih e hpe n vs _ h2 (fun m hm => hwt m (by
            simp only [DataW.weights, ht, List.mem_cons, List.mem_append]
            exact .inr (.inl (weights_mem_all (List.mem_map.2 ⟨_, List.getElem_mem (by omega), rfl⟩) hm))))
          exact ⟨vs, xs, h1, h3, h4, h5, fun y hy => by rw [List.getElem?_eq_getElem (by omega)] at hy; cases hy; exact h6⟩
        have build : ∀ m, m ≤ len → ∃ ys vs, ys.length = m ∧ vs.length = m * P.cellsOf e ∧ (∀ y ∈ ys, ∃ cs, Fits P k e cs ∧ y = wrapE P e cs) ∧ VElems G0 w (P.cellsOf e) ys vs ∧ (∀ (i : Nat) v, vs[i]? = some v → w.cell? (a.add i) = some v ∧ One v) ∧ bulkAs ys ≤ BL ((elems.map (·.1)).take m) := by
          intro m
          induction m with
          | zero => intro _; exact ⟨[], [], rfl, by simp, by simp, by simp [VElems], by simp, by simp [bulkAs]⟩
          | succ m ihm =>
            intro hm
            obtain ⟨ys, vs, k1, k2, k3, k4, k5, k6⟩ := ihm (by omega)
            obtain ⟨us, xs, e1, e2, e3, e4, eb⟩ := each m (by omega)
            obtain ⟨-, e5, e6⟩ := World.cells?_some e1
            obtain ⟨v, hv1, hv2⟩ := wrapE_rel e5 e3 e4 hone
            refine ⟨ys ++ [wrapE P e xs], vs ++ us, by simp [k1], by simp [k2, e5, Nat.add_mul], ?_, ?_, ?_, ?_⟩
            · intro y hy
              rcases List.mem_append.1 hy with hy | hy
              · exact k3 y hy
              · simp at hy; exact ⟨xs, e2, hy⟩
            · refine k4.append ?_
              simp only [VElems]
              exact ⟨v, [], by simp [hv1], by rw [← Array.length_toList, hv1, e5], hv2, rfl⟩
            · intro i z hz
              rcases Nat.lt_or_ge i vs.length with hi | hi
              · rw [List.getElem?_append_left hi] at hz; exact k5 i z hz
              · rw [List.getElem?_append_right hi] at hz
                have hlt : i - vs.length < us.length := (List.getElem?_eq_some_iff.1 hz).1
                have := e6 (i - vs.length) (by omega)
                rw [hz] at this
                have ea : (a.add (m * P.cellsOf e)).add (i - vs.length) = a.add i := by
                  rw [← k2]
                  unfold Addr.add
                  by_cases h0 : vs.length = 0
                  · simp [h0]
                  · by_cases h1 : i - vs.length = 0
                    · have : i = vs.length := by omega
                      subst this; simp
                    · have : i ≠ 0 := by omega
                      simp [h0, h1, this]; omega
                rw [ea] at this
                exact ⟨this, e4 z (List.mem_of_getElem? hz)⟩
            · have hlt : m < (elems.map (·.1)).length := by simp; omega
              rw [List.take_succ_eq_append_getElem hlt, hB.snoc, bulkAs_append]
              have h1 := eb _ (List.getElem?_eq_getElem (by omega))
              have h2 := bulk_wrap P e xs
              simp only [List.getElem_map, bulkAs]
              omega
        obtain ⟨ys, vs, k1, k2, k3, k4, k5, k6⟩ := build len (Nat.le_refl _)
        refine ⟨[.sl (P.cellsOf e) ys .any], Fits.slice ht ?_ k3, .cons ?_ .nil, by simp [one_of_sl], ?_⟩
        · have := hwt ((elems.length + rest.length) * P.bytesOf e) (by simp [DataW.weights, ht])
          exact Nat.le_trans (Nat.mul_le_mul_right _ (by omega)) this
        rotate_left
        · have := hB.take (elems.map (·.1)) len
          simp only [hB.slice, bulkAs, bulkA]
          omega
        unfold VRel
        by_cases hcap : cap = 0
        · have : ys = [] := List.length_eq_zero_iff.1 (by omega)
          exact .inl ⟨this, ⟨some a, by simp; omega⟩, by simp [CapNil]⟩
        · have hspot : a.spot = none := by
            by_cases hl0 : len = 0
            · obtain ⟨hr1, hr2⟩ := hrest rfl
              have h := hr2 0 (by omega)
              rw [List.getElem?_eq_getElem (by omega)] at h
              obtain ⟨vs', h1, h2⟩ := Option.bind_eq_some_iff.1 h
              obtain ⟨-, g1, g2⟩ := World.cells?_some h1
              have := g2 0 hsz
              rw [List.getElem?_eq_getElem (by omega)] at this
              have := cell_spot this
              simpa [hl0, Addr.add] using this
            · obtain ⟨us, xs, e1, e2, e3, e4, -⟩ := each 0 (by omega)
              obtain ⟨-, g1, g2⟩ := World.cells?_some e1
              have := g2 0 hsz
              rw [List.getElem?_eq_getElem (by omega)] at this
              have := cell_spot this
              simpa [Addr.add] using this
          obtain ⟨B, off, sp⟩ := a
          simp only at hspot
          subst hspot
          refine .inr ⟨B, off, cap, vs, by simp [k1], by omega, by rw [k2, k1], k4, fun i v hv => ?_, by simp [CapOk]⟩
          obtain ⟨c1, c2⟩ := k5 i v hv
          rw [add_plain] at c1
          exact ⟨c1, c2, by simp [G0], by simp [G0]⟩
    · rename_i fs ht
      simp only [Bool.and_eq_true, decide_eq_true_eq] at hp
      obtain ⟨hlt, hp⟩ := hp
      rw [Array.all_eq_true_iff_forall_mem] at hp
      obtain ⟨xs, n, rfl, rfl, hlen, hxl, hread⟩ := DataW.trod_struct ht hx
      obtain ⟨-, hsum, hoff⟩ := kid_struct hl hlt ht
      obtain ⟨xss, q1, q2, q3, q4⟩ := fields_split (P := P) (R := fun (f : Field) cs => Fits P k f.type cs) (G := G0) (w := w) hB cs
        (fun f us d => plainT P k f.type = true ∧ ∃ y, DataW.trod enc P w 0 (fun _ => true) true n f.type us = some y ∧ y.1 = d ∧ ∀ m ∈ d.weights P f.type, m ≤ reachBytes)
        (fun f us d ⟨h1, y, h2, h3, h4⟩ => by subst h3; exact ih f.type h1 n us y h2 h4) fs.toList (xs.map (·.1)) 0 (by simp [hxl]) (fun j f hj => by rw [hoff j f hj]; omega) (by rw [hlen, hsum]; omega)
        (fun i f d hi hd => by
          refine ⟨hp f (by have := List.mem_of_getElem? hi; simpa using this), ?_⟩
          have h := hread i f (by simpa using hi)
          rw [List.getElem?_map] at hd
          cases hxi : xs[i]? with
          | none => rw [hxi] at hd; cases hd
          | some y =>
            rw [hxi] at h hd
            refine ⟨y, h, by simpa using hd, fun m hm => hwt m ?_⟩
            simp only [DataW.weights, ht]
            exact DataW.weights_mem_each (j := i) (t := f.type) (d := d) (by rw [List.getElem?_map, hi]; rfl) (by rw [List.getElem?_map, hxi]; exact hd) m hm)
      refine ⟨xss.flatten, by simp only [Fits, ht]; exact ⟨xss, rfl, q1⟩, by simpa using q2, by simpa using q3, ?_⟩
      rw [hB.agg]; omega
    · cases hp
def ArgFits (P : Program) (k : Nat) (t : TypeId) (a : AV) : Prop := ∃ cs, Fits P k t cs ∧ a = wrapE P t cs
theorem arg_rel {k : Nat} {t : TypeId} {v : Value} {xs : List AV} {base : Nat} (hp : plainT P k t = true) (hok : Value.okWide P w .any base t v) (hr : VRels G0 w xs v.cells.toList) (ho : ∀ u ∈ v.cells.toList, One u) : VRel G0 w (wrapE P t xs) v := by
  unfold wrapE
  cases ha : isAggT P t with
  | true =>
    have : ∃ cs, v = .agg cs := by
      unfold isAggT at ha
      unfold Value.okWide at hok
      split at ha
      · rename_i h; rw [h] at hok; obtain ⟨cs, h, -⟩ := hok; exact ⟨cs, h⟩
      · rename_i h; rw [h] at hok; obtain ⟨cs, h, -⟩ := hok; exact ⟨cs, h⟩
      · cases ha
    obtain ⟨cs, rfl⟩ := this
    simp only [if_true, VRel]
    exact ⟨cs.toList, by simp, by simpa [Value.cells] using hr⟩
  | false =>
    have hv : v.cells = #[v] := by
      cases v <;> try rfl
      exfalso
      cases k with
      | zero => cases hp
      | succ k =>
        unfold plainT at hp
        unfold isAggT at ha
        unfold Value.okWide Cell.okWide Cell.ok at hok
        split at hp
        all_goals (try (rename_i h; rw [h] at hok ha; simp at hok ha; done))
        all_goals (try (rename_i h; rw [h] at hok ha; simp at hok; done))
        all_goals simp_all
    rw [hv] at hr
    have hl := hr.length
    obtain ⟨x, rfl⟩ := List.length_eq_one_iff.1 (show xs.length = 1 by simpa using hl.symm)
    simp only [VRels] at hr
    obtain ⟨v', us, e1, hx, e2⟩ := hr
    cases e1
    simpa using hx
theorem args_fit (hl : laidOutB P = true) {B : DataW H → Nat} {BL : List (DataW H) → Nat} (hB : Bulk B BL) {k : Nat} {base : Nat} : ∀ {ts us : List TypeId} {vs : List Value} {ds : List (DataW H)} {ps : List MemPlace}, (∀ t ∈ ts, plainT P k t = true) →
    (∀ (j : Nat) t v, ts[j]? = some t → vs[j]? = some v → Value.okWide P w .any base t v) → (∀ n ∈ DataW.weightsEach P (ts ++ us) ds, n ≤ reachBytes) → DataW.TrodAll enc P w 0 (fun _ => true) true ts vs ds ps → ∃ avs, All2 (ArgFits P k) ts avs ∧ VRels G0 w avs vs ∧ bulkAs avs ≤ BL ds
  | [], us, [], [], _, _, _, _, _ => ⟨[], .nil, .nil, by simp [bulkAs]⟩
  | t :: ts, us, v :: vs, d :: ds, _, hp, hok, hwt, ⟨p, q, ⟨fuel, h1⟩, h2, _⟩ => by
    obtain ⟨xs, f1, f2, f3, f4⟩ := trod_fits hl hB k t (hp t (by simp)) fuel _ _ h1 (fun n hn => hwt n (by simp only [List.cons_append, DataW.weightsEach, List.mem_append]; exact .inl hn))
    obtain ⟨avs, g1, g2, g3⟩ := args_fit hl hB (us := us) (fun t ht => hp t (by simp [ht])) (fun j t v a b => hok (j + 1) t v (by simpa using a) (by simpa using b)) (fun n hn => hwt n (by simp only [List.cons_append, DataW.weightsEach, List.mem_append]; exact .inr hn)) h2
    refine ⟨wrapE P t xs :: avs, .cons ⟨xs, f1, rfl⟩ g1, .cons (arg_rel (hp t (by simp)) (hok 0 t v rfl rfl) f2 f3) g2, ?_⟩
    have := bulk_wrap P t xs
    simp only [bulkAs, hB.cons] at f4 ⊢
    omega
theorem trodAll_len {sp : Nat → Bool} : ∀ {ts : List TypeId} {vs : List Value} {ds : List (DataW H)} {ps : List MemPlace}, DataW.TrodAll enc P w 0 sp true ts vs ds ps → ds.length = ts.length
  | [], [], [], _, h => rfl
  | t :: ts, v :: vs, d :: ds, _, ⟨p, q, h1, h2, e⟩ => by simp [trodAll_len h2]
theorem trodAll_carry {w' : World} {sp : Nat → Bool} : ∀ {ts : List TypeId} {vs : List Value} {ds : List (DataW H)} {ps : List MemPlace}, DataW.TrodAll enc P w 0 sp true ts vs ds ps → (∀ p ∈ ps, w.sameAt w' p) → DataW.TrodAll enc P w' 0 sp true ts vs ds ps
  | [], [], [], _, h, _ => h
  | t :: ts, v :: vs, d :: ds, _, ⟨p, q, ⟨fuel, h1⟩, h2, e⟩, hs => by
    subst e
    exact ⟨p, q, ⟨fuel, DataW.trod_carry fuel _ _ _ h1 (fun x hx => hs x (List.mem_append_left _ hx))⟩, trodAll_carry h2 (fun x hx => hs x (List.mem_append_right _ hx)), rfl⟩
theorem calls_row (hl : laidOutB P = true) {B : DataW H → Nat} {BL : List (DataW H) → Nat} (hB : Bulk B BL) (hm : mapsRowed P = true) (hz : ∀ t e, t < P.types.size → P.underlying t = some (.slice e) → 0 < P.cellsOf e) {f : FuncId} {fn : Func} {s : ChangeSpec} {k base : Nat} {W : World} {args : Array Value} {ds gs : List (DataW H)} {before : List MemPlace} {tb : TypeId}
    (hvars : s.vars = []) (hfn : ∀ l : List (DataW H), l.length = fn.params.size → s.fn H l = { results := [.lit (.bool true)], args := l }) (hrt : fn.resultTypes = #[tb]) (htb : P.underlying tb = some .bool)
    (hpl' : fn.params.toList.all (plainT P k) = true) (hlt' : fn.params.toList.all (fun t => decide (t < P.types.size)) = true)
    (hval : ∀ (j : Nat) t v, fn.params[j]? = some t → args[j]? = some v → Value.okWide P W .any base t v) (hW : DataW.Whole enc P fn.params.toList s.vars false W args.toList ds gs before)
    {us : List TypeId} (hwt : (DataW.weightsEach P (fn.params.toList ++ us) (ds ++ gs)).all (· ≤ reachBytes) = true)
    (law : ∀ avs, All2 (ArgFits P k) fn.params.toList avs → bulkAs avs ≤ BL (ds ++ gs) → PCalls P f avs (.bool true)) :
    Calls P f args W fun e W' => ∃ v, e = .returned v ∧ s.post enc P fn false true false false W args v W' := by
  have hpl : ∀ t ∈ fn.params.toList, plainT P k t = true := List.all_eq_true.1 hpl'
  have hlt : ∀ t ∈ fn.params.toList, t < P.types.size := fun t ht => of_decide_eq_true (List.all_eq_true.1 hlt' t ht)
  have hW' := hW
  obtain ⟨p, q, hA, hV, rfl, -, -⟩ := hW
  rw [hvars] at hV
  obtain ⟨rfl, rfl⟩ := trodVars_none hV
  rw [List.append_nil] at hwt law
  obtain ⟨avs, g1, g2, g3⟩ := args_fit hl hB hpl (fun j t v a b => hval j t v (by simpa using a) (by simpa using b)) (fun n hn => of_decide_eq_true (List.all_eq_true.1 hwt n hn)) hA
  have hlaw := law avs g1 g3 0 0 G0 W args.toList g2 only_rep ⟨fun _ _ _ h => h, fun _ _ _ h => h⟩
  rw [show args.toList.toArray = args from Array.toArray_toList] at hlaw
  refine hlaw.mono ?_
  rintro e W' ⟨v, G', he, T, -, hv⟩
  subst he
  simp only [VRel] at hv
  subst hv
  have keep : ∀ B, B < W.heap.size → W'.heap[B]? = W.heap[B]? := fun B hB => T.keep B hB (fun x => only_O B x) (fun ⟨t, ht, _⟩ => by simp [H0, Av.H.only] at ht)
  have hlt' : ∀ x ∈ p, x.block < W.heap.size := DataW.TrodAll.lt hA
  have hlen := trodAll_len hA
  refine ⟨_, rfl, ds, [], p ++ [], [], p, [], hW', ?_, ?_, ?_, ?_, fun h => by cases h⟩
  · rw [hfn _ (by simpa using hlen), hrt]
    exact trodAll_mk1 (shut_bool htb _)
  · rw [hfn _ (by simpa using hlen)]
    have := DataW.TrodAll.respare (kids_rows hl hm) hz (spare' := fun b => decide (b < W.heap.size)) hlt hA (fun x hx => by simpa using hlt' x hx)
    simp only [List.append_nil]
    refine trodAll_carry this fun x hx => ?_
    have hb := hlt' x hx
    cases x with
    | cell b off => unfold World.sameAt World.cell?; simp only; rw [keep b hb]
    | map b => exact keep b hb
  · rw [hvars, hfn _ (by simpa using hlen)]
    rfl
  · refine ⟨T.os, T.output, fun i hi => ?_⟩
    rw [keep i hi]
    generalize W.heap[i]? = o
    cases o with
    | none => rfl
    | some o => cases o <;> simp
end
end Go.Av
end
section
set_option linter.unusedSimpArgs false
set_option linter.unusedVariables false
set_option maxRecDepth 100000
namespace Go.Proofs.YtehhdhadmapplaaGreat.Tree
open Go Go.Av Go.Proofs Go.Proofs.YtehhdhadmapplaaGreat.C
theorem laid : laidOutB Tryz.prog = true := by kernel_rfl
theorem rowed : mapsRowed Tryz.prog = true := by kernel_rfl
theorem full : ∀ t e, t < Tryz.prog.types.size → Tryz.prog.underlying t = some (.slice e) → 0 < Tryz.prog.cellsOf e := slices_full_of Tryz.prog (by kernel_rfl)
theorem own : ownKnob Tryz.prog.godebug = none := by kernel_rfl
theorem bulk {H : Type} : Bulk (H := H) Rows.uptoBulk Rows.uptoBulkAll :=
  ⟨fun l => by simp [Rows.uptoBulk], fun k n => by simp [Rows.uptoBulk], fun b => by simp [Rows.uptoBulk], by simp [Rows.uptoBulk], fun a b => by simp [Rows.uptoBulk], fun a => by simp [Rows.uptoBulk], by simp [Rows.uptoBulkAll], fun d l => by simp [Rows.uptoBulkAll]⟩
theorem open_b {a : AV} (h : ArgFits Tryz.prog 5 4 a) : ∃ b, a = .bool b := by
  obtain ⟨cs, h, rfl⟩ := h
  unfold Fits at h
  rw [Tryz.underlying4] at h
  obtain ⟨l, rfl⟩ := h
  refine ⟨l, ?_⟩
  unfold wrapE; rw [if_neg (by rw [show isAggT Tryz.prog 4 = false by kernel_rfl]; simp)]; rfl
theorem open_i {a : AV} (h : ArgFits Tryz.prog 5 3 a) : ∃ n, a = .int .i64 n ∧ (Lit.int .i64 n).wf = true := by
  obtain ⟨cs, h, rfl⟩ := h
  unfold Fits at h
  rw [Tryz.underlying3] at h
  obtain ⟨l, rfl, hl⟩ := h
  refine ⟨l, ?_, hl⟩
  unfold wrapE; rw [if_neg (by rw [show isAggT Tryz.prog 3 = false by kernel_rfl]; simp)]; rfl
end Go.Proofs.YtehhdhadmapplaaGreat.Tree
end
section
set_option maxRecDepth 100000
namespace Go.Proofs.YtehhdhadmapplaaGreat.C
open Go.Av
def tabG : FT :=
  (.node 170 ⟨9, c170, [.tmp 4]⟩ (.node 84 ⟨10, c84, [.tmp 2]⟩ (.node 41 ⟨11, c41, [.tmp 2]⟩ (.node 27 ⟨11, c27, [.tmp 2]⟩ (.node 18 ⟨23, c18, [.tmp 8, .tmp 9]⟩ (.node 10 ⟨15, c10, [.tmp 2, .tmp 3]⟩
  (.node 6 ⟨42, c6, [.tmp 4, .tmp 5]⟩ (.node 5 ⟨185, c5, [.tmp 4]⟩ .leaf .leaf) (.node 9 ⟨19, c9, [.tmp 8, .tmp 9]⟩ .leaf .leaf)) (.node 16 ⟨70, c16, [.tmp 2, .tmp 3]⟩ (.node 11 ⟨13, c11, [.tmp 2,
  .tmp 3]⟩ .leaf .leaf) .leaf)) (.node 22 ⟨11, c22, [.tmp 2]⟩ (.node 21 ⟨14, c21, [.tmp 4]⟩ (.node 20 ⟨13, c20, [.tmp 2]⟩ .leaf .leaf) .leaf) (.node 26 ⟨11, c26, [.tmp 2]⟩ (.node 24 ⟨26, c24, [.tmp
  2]⟩ .leaf .leaf) .leaf))) (.node 35 ⟨12, c35, [.tmp 6]⟩ (.node 32 ⟨48, c32, [.tmp 4, .tmp 5]⟩ (.node 30 ⟨19, c30, [.tmp 2, .tmp 3]⟩ (.node 29 ⟨54, c29, [.tmp 2, .tmp 3]⟩ .leaf .leaf) (.node 31 ⟨17,
  c31, [.tmp 4, .tmp 5]⟩ .leaf .leaf)) (.node 34 ⟨29, c34, [.tmp 2, .tmp 3]⟩ (.node 33 ⟨53, c33, [.tmp 2, .tmp 3]⟩ .leaf .leaf) .leaf)) (.node 38 ⟨57, c38, [.tmp 4]⟩ (.node 37 ⟨11, c37, [.tmp 2]⟩
  (.node 36 ⟨5, c36, [.tmp 2]⟩ .leaf .leaf) .leaf) (.node 40 ⟨11, c40, [.tmp 2]⟩ (.node 39 ⟨57, c39, [.tmp 2]⟩ .leaf .leaf) .leaf)))) (.node 61 ⟨17, c61, []⟩ (.node 48 ⟨11, c48, [.tmp 2]⟩ (.node 45
  ⟨120, c45, [.tmp 0]⟩ (.node 43 ⟨11, c43, [.tmp 2]⟩ (.node 42 ⟨11, c42, [.tmp 2]⟩ .leaf .leaf) (.node 44 ⟨11, c44, [.tmp 2]⟩ .leaf .leaf)) (.node 47 ⟨14, c47, [.tmp 2, .tmp 3, .tmp 4]⟩ (.node 46 ⟨53,
  c46, [.tmp 4]⟩ .leaf .leaf) .leaf)) (.node 55 ⟨22, c55, []⟩ (.node 50 ⟨49, c50, [.tmp 6, .tmp 7]⟩ (.node 49 ⟨14, c49, [.tmp 2, .tmp 3]⟩ .leaf .leaf) .leaf) (.node 60 ⟨11, c60, []⟩ (.node 58 ⟨13,
  c58, []⟩ .leaf .leaf) .leaf))) (.node 78 ⟨12, c78, [.tmp 2]⟩ (.node 75 ⟨11, c75, [.tmp 2]⟩ (.node 73 ⟨48, c73, [.cell 2 (some 6), .tmp 3, .tmp 4]⟩ (.node 72 ⟨12, c72, [.tmp 2]⟩ .leaf .leaf) (.node
  74 ⟨12, c74, [.tmp 2, .tmp 3]⟩ .leaf .leaf)) (.node 77 ⟨100, c77, [.tmp 10, .tmp 11]⟩ (.node 76 ⟨64, c76, [.tmp 8, .tmp 9, .tmp 10]⟩ .leaf .leaf) .leaf)) (.node 81 ⟨18, c81, [.tmp 2]⟩ (.node 80 ⟨4,
  c80, [.tmp 1]⟩ (.node 79 ⟨18, c79, [.tmp 2]⟩ .leaf .leaf) .leaf) (.node 83 ⟨43, c83, [.tmp 2, .tmp 3]⟩ (.node 82 ⟨11, c82, [.tmp 2]⟩ .leaf .leaf) .leaf))))) (.node 126 ⟨12, c126, [.tmp 2]⟩ (.node
  108 ⟨41, c108, [.tmp 4]⟩ (.node 91 ⟨11, c91, [.tmp 2]⟩ (.node 88 ⟨4, c88, [.tmp 1]⟩ (.node 86 ⟨42, c86, [.tmp 6]⟩ (.node 85 ⟨6, c85, [.tmp 2]⟩ .leaf .leaf) (.node 87 ⟨4, c87, [.tmp 1]⟩ .leaf .leaf))
  (.node 90 ⟨99, c90, [.tmp 4]⟩ (.node 89 ⟨15, c89, [.tmp 2]⟩ .leaf .leaf) .leaf)) (.node 104 ⟨17, c104, [.tmp 4]⟩ (.node 102 ⟨20, c102, [.tmp 2]⟩ (.node 101 ⟨11, c101, [.tmp 2]⟩ .leaf .leaf) .leaf)
  (.node 107 ⟨61, c107, [.tmp 6, .tmp 7]⟩ (.node 106 ⟨89, c106, [.tmp 2, .tmp 3]⟩ .leaf .leaf) .leaf))) (.node 115 ⟨10, c115, [.tmp 2]⟩ (.node 112 ⟨15, c112, [.tmp 4]⟩ (.node 110 ⟨26, c110, [.tmp 4,
  .tmp 5]⟩ (.node 109 ⟨12, c109, [.tmp 2]⟩ .leaf .leaf) (.node 111 ⟨10, c111, [.tmp 2]⟩ .leaf .leaf)) (.node 114 ⟨29, c114, [.tmp 2]⟩ (.node 113 ⟨12, c113, [.tmp 2]⟩ .leaf .leaf) .leaf)) (.node 118
  ⟨63, c118, [.tmp 6]⟩ (.node 117 ⟨59, c117, [.tmp 4, .tmp 5]⟩ (.node 116 ⟨27, c116, [.tmp 4]⟩ .leaf .leaf) .leaf) (.node 120 ⟨10, c120, [.tmp 2]⟩ (.node 119 ⟨14, c119, [.tmp 4]⟩ .leaf .leaf)
  .leaf)))) (.node 143 ⟨26, c143, [.tmp 4]⟩ (.node 133 ⟨12, c133, [.tmp 3]⟩ (.node 130 ⟨16, c130, [.tmp 4]⟩ (.node 128 ⟨26, c128, [.tmp 4]⟩ (.node 127 ⟨11, c127, [.tmp 4, .tmp 5]⟩ .leaf .leaf) (.node
  129 ⟨12, c129, [.tmp 2]⟩ .leaf .leaf)) (.node 132 ⟨9, c132, [.tmp 4]⟩ (.node 131 ⟨9, c131, [.tmp 4]⟩ .leaf .leaf) .leaf)) (.node 136 ⟨27, c136, [.tmp 4]⟩ (.node 135 ⟨27, c135, [.tmp 4]⟩ (.node 134
  ⟨5, c134, [.tmp 2]⟩ .leaf .leaf) .leaf) (.node 138 ⟨18, c138, [.tmp 2, .tmp 3]⟩ (.node 137 ⟨28, c137, [.tmp 2]⟩ .leaf .leaf) .leaf))) (.node 164 ⟨11, c164, [.tmp 2]⟩ (.node 161 ⟨29, c161, [.cell 4
  (some 8), .tmp 5]⟩ (.node 147 ⟨8, c147, [.tmp 2]⟩ (.node 146 ⟨134, c146, []⟩ .leaf .leaf) .leaf) (.node 163 ⟨31, c163, [.tmp 6]⟩ (.node 162 ⟨13, c162, [.tmp 2]⟩ .leaf .leaf) .leaf)) (.node 167 ⟨72,
  c167, [.tmp 2, .tmp 3]⟩ (.node 166 ⟨6, c166, [.tmp 4]⟩ (.node 165 ⟨33, c165, [.tmp 4]⟩ .leaf .leaf) .leaf) (.node 169 ⟨9, c169, [.tmp 4]⟩ (.node 168 ⟨46, c168, [.tmp 2]⟩ .leaf .leaf) .leaf))))))
  (.node 268 ⟨7, c268, [.tmp 2]⟩ (.node 206 ⟨53, c206, [.tmp 2, .tmp 3]⟩ (.node 192 ⟨63, c192, []⟩ (.node 178 ⟨58, c178, [.tmp 6, .tmp 7]⟩ (.node 175 ⟨12, c175, [.tmp 2]⟩ (.node 173 ⟨22, c173, [.tmp
  4]⟩ (.node 172 ⟨12, c172, [.tmp 2]⟩ .leaf .leaf) (.node 174 ⟨25, c174, [.tmp 2]⟩ .leaf .leaf)) (.node 177 ⟨3, c177, [.tmp 2]⟩ (.node 176 ⟨32, c176, []⟩ .leaf .leaf) .leaf)) (.node 185 ⟨8, c185,
  [.tmp 2]⟩ (.node 180 ⟨16, c180, [.tmp 4]⟩ (.node 179 ⟨40, c179, [.tmp 2, .tmp 3]⟩ .leaf .leaf) .leaf) (.node 190 ⟨4, c190, [.tmp 0]⟩ (.node 188 ⟨11, c188, []⟩ .leaf .leaf) .leaf))) (.node 200 ⟨29,
  c200, [.tmp 2]⟩ (.node 197 ⟨12, c197, [.tmp 2]⟩ (.node 195 ⟨31, c195, [.tmp 6, .tmp 7]⟩ (.node 194 ⟨115, c194, [.cell 2 (some 2), .tmp 3, .tmp 4]⟩ .leaf .leaf) (.node 196 ⟨12, c196, [.tmp 2]⟩ .leaf
  .leaf)) (.node 199 ⟨21, c199, [.tmp 4]⟩ (.node 198 ⟨8, c198, [.tmp 3]⟩ .leaf .leaf) .leaf)) (.node 203 ⟨50, c203, [.tmp 2]⟩ (.node 202 ⟨43, c202, [.tmp 2, .tmp 3]⟩ (.node 201 ⟨9, c201, [.tmp 4]⟩
  .leaf .leaf) .leaf) (.node 205 ⟨26, c205, [.tmp 4, .tmp 5]⟩ (.node 204 ⟨32, c204, [.tmp 4, .tmp 5]⟩ .leaf .leaf) .leaf)))) (.node 233 ⟨49, c233, []⟩ (.node 220 ⟨12, c220, [.tmp 2]⟩ (.node 217 ⟨39,
  c217, [.cell 4 (some 2), .tmp 5]⟩ (.node 215 ⟨26, c215, [.tmp 4, .tmp 5]⟩ (.node 207 ⟨54, c207, [.tmp 4, .tmp 5]⟩ .leaf .leaf) (.node 216 ⟨58, c216, [.tmp 2, .tmp 3]⟩ .leaf .leaf)) (.node 219 ⟨19,
  c219, [.tmp 4]⟩ (.node 218 ⟨19, c218, [.tmp 4]⟩ .leaf .leaf) .leaf)) (.node 223 ⟨35, c223, [.tmp 2]⟩ (.node 222 ⟨45, c222, []⟩ (.node 221 ⟨22, c221, [.tmp 4]⟩ .leaf .leaf) .leaf) (.node 231 ⟨9,
  c231, [.tmp 4]⟩ (.node 224 ⟨37, c224, [.tmp 4, .tmp 5]⟩ .leaf .leaf) .leaf))) (.node 261 ⟨27, c261, [.tmp 2]⟩ (.node 258 ⟨47, c258, [.cell 2 (some 6), .tmp 3]⟩ (.node 244 ⟨9, c244, [.tmp 4]⟩ (.node
  243 ⟨25, c243, [.tmp 2]⟩ .leaf .leaf) (.node 245 ⟨9, c245, [.tmp 4]⟩ .leaf .leaf)) (.node 260 ⟨53, c260, []⟩ (.node 259 ⟨29, c259, [.cell 4 (some 5), .tmp 5]⟩ .leaf .leaf) .leaf)) (.node 265 ⟨24,
  c265, [.tmp 6]⟩ (.node 264 ⟨23, c264, [.tmp 6]⟩ (.node 263 ⟨15, c263, [.tmp 6]⟩ .leaf .leaf) .leaf) (.node 267 ⟨13, c267, [.tmp 2]⟩ (.node 266 ⟨4, c266, [.tmp 2]⟩ .leaf .leaf) .leaf))))) (.node 314
  ⟨94, c314, [.cell 2 (some 5), .tmp 3]⟩ (.node 284 ⟨19, c284, [.tmp 4]⟩ (.node 277 ⟨28, c277, [.tmp 4, .tmp 5]⟩ (.node 274 ⟨31, c274, [.tmp 4, .tmp 5, .tmp 6]⟩ (.node 270 ⟨134, c270, []⟩ (.node 269
  ⟨5, c269, [.tmp 2]⟩ .leaf .leaf) (.node 272 ⟨31, c272, [.tmp 2]⟩ .leaf .leaf)) (.node 276 ⟨23, c276, [.tmp 4]⟩ (.node 275 ⟨44, c275, [.tmp 2]⟩ .leaf .leaf) .leaf)) (.node 281 ⟨16, c281, [.tmp 3]⟩
  (.node 279 ⟨9, c279, [.tmp 4]⟩ (.node 278 ⟨17, c278, [.tmp 3]⟩ .leaf .leaf) .leaf) (.node 283 ⟨20, c283, [.tmp 6]⟩ (.node 282 ⟨26, c282, [.cell 8 none]⟩ .leaf .leaf) .leaf))) (.node 296 ⟨9, c296,
  [.tmp 2, .tmp 3]⟩ (.node 290 ⟨9, c290, [.tmp 4]⟩ (.node 286 ⟨27, c286, [.tmp 2]⟩ (.node 285 ⟨11, c285, [.tmp 4]⟩ .leaf .leaf) (.node 287 ⟨36, c287, [.tmp 2]⟩ .leaf .leaf)) (.node 294 ⟨21, c294,
  [.cell 4 (some 2), .tmp 5]⟩ (.node 293 ⟨71, c293, [.tmp 2]⟩ .leaf .leaf) .leaf)) (.node 306 ⟨24, c306, [.tmp 6]⟩ (.node 299 ⟨19, c299, [.tmp 4]⟩ (.node 297 ⟨4, c297, [.tmp 2]⟩ .leaf .leaf) .leaf)
  (.node 313 ⟨5, c313, [.tmp 2]⟩ (.node 307 ⟨24, c307, [.tmp 6]⟩ .leaf .leaf) .leaf)))) (.node 351 ⟨8, c351, [.tmp 4]⟩ (.node 330 ⟨25, c330, [.tmp 2]⟩ (.node 318 ⟨5, c318, [.tmp 2]⟩ (.node 316 ⟨8,
  c316, [.tmp 2]⟩ (.node 315 ⟨21, c315, []⟩ .leaf .leaf) (.node 317 ⟨38, c317, [.tmp 6]⟩ .leaf .leaf)) (.node 329 ⟨23, c329, [.tmp 2]⟩ (.node 319 ⟨49, c319, []⟩ .leaf .leaf) .leaf)) (.node 336 ⟨11,
  c336, [.tmp 4]⟩ (.node 334 ⟨8, c334, [.tmp 6]⟩ (.node 331 ⟨19, c331, [.tmp 4]⟩ .leaf .leaf) .leaf) (.node 340 ⟨12, c340, [.tmp 4]⟩ (.node 337 ⟨9, c337, [.tmp 4]⟩ .leaf .leaf) .leaf))) (.node 362 ⟨5,
  c362, [.tmp 2]⟩ (.node 354 ⟨19, c354, []⟩ (.node 353 ⟨7, c353, [.tmp 3]⟩ (.node 352 ⟨42, c352, [.tmp 4]⟩ .leaf .leaf) .leaf) (.node 361 ⟨5, c361, [.tmp 2]⟩ (.node 360 ⟨5, c360, [.tmp 2]⟩ .leaf
  .leaf) .leaf)) (.node 365 ⟨41, c365, [.tmp 6, .tmp 7]⟩ (.node 364 ⟨18, c364, [.tmp 2]⟩ (.node 363 ⟨9, c363, [.tmp 2]⟩ .leaf .leaf) .leaf) (.node 370 ⟨19, c370, [.tmp 4]⟩ (.node 369 ⟨43, c369, []⟩
  .leaf .leaf) .leaf)))))))
theorem tabG_ok : tabG.Ok Tryz.prog :=
  ⟨f170, ⟨f84, ⟨f41, ⟨f27, ⟨f18, ⟨f10, ⟨f6, ⟨f5, trivial, trivial⟩, ⟨f9, trivial, trivial⟩⟩, ⟨f16, ⟨f11, trivial, trivial⟩, trivial⟩⟩, ⟨f22, ⟨f21, ⟨f20, trivial, trivial⟩, trivial⟩, ⟨f26, ⟨f24, trivial,
  trivial⟩, trivial⟩⟩⟩, ⟨f35, ⟨f32, ⟨f30, ⟨f29, trivial, trivial⟩, ⟨f31, trivial, trivial⟩⟩, ⟨f34, ⟨f33, trivial, trivial⟩, trivial⟩⟩, ⟨f38, ⟨f37, ⟨f36, trivial, trivial⟩, trivial⟩, ⟨f40, ⟨f39,
  trivial, trivial⟩, trivial⟩⟩⟩⟩, ⟨f61, ⟨f48, ⟨f45, ⟨f43, ⟨f42, trivial, trivial⟩, ⟨f44, trivial, trivial⟩⟩, ⟨f47, ⟨f46, trivial, trivial⟩, trivial⟩⟩, ⟨f55, ⟨f50, ⟨f49, trivial, trivial⟩, trivial⟩,
  ⟨f60, ⟨f58, trivial, trivial⟩, trivial⟩⟩⟩, ⟨f78, ⟨f75, ⟨f73, ⟨f72, trivial, trivial⟩, ⟨f74, trivial, trivial⟩⟩, ⟨f77, ⟨f76, trivial, trivial⟩, trivial⟩⟩, ⟨f81, ⟨f80, ⟨f79, trivial, trivial⟩,
  trivial⟩, ⟨f83, ⟨f82, trivial, trivial⟩, trivial⟩⟩⟩⟩⟩, ⟨f126, ⟨f108, ⟨f91, ⟨f88, ⟨f86, ⟨f85, trivial, trivial⟩, ⟨f87, trivial, trivial⟩⟩, ⟨f90, ⟨f89, trivial, trivial⟩, trivial⟩⟩, ⟨f104, ⟨f102,
  ⟨f101, trivial, trivial⟩, trivial⟩, ⟨f107, ⟨f106, trivial, trivial⟩, trivial⟩⟩⟩, ⟨f115, ⟨f112, ⟨f110, ⟨f109, trivial, trivial⟩, ⟨f111, trivial, trivial⟩⟩, ⟨f114, ⟨f113, trivial, trivial⟩, trivial⟩⟩,
  ⟨f118, ⟨f117, ⟨f116, trivial, trivial⟩, trivial⟩, ⟨f120, ⟨f119, trivial, trivial⟩, trivial⟩⟩⟩⟩, ⟨f143, ⟨f133, ⟨f130, ⟨f128, ⟨f127, trivial, trivial⟩, ⟨f129, trivial, trivial⟩⟩, ⟨f132, ⟨f131,
  trivial, trivial⟩, trivial⟩⟩, ⟨f136, ⟨f135, ⟨f134, trivial, trivial⟩, trivial⟩, ⟨f138, ⟨f137, trivial, trivial⟩, trivial⟩⟩⟩, ⟨f164, ⟨f161, ⟨f147, ⟨f146, trivial, trivial⟩, trivial⟩, ⟨f163, ⟨f162,
  trivial, trivial⟩, trivial⟩⟩, ⟨f167, ⟨f166, ⟨f165, trivial, trivial⟩, trivial⟩, ⟨f169, ⟨f168, trivial, trivial⟩, trivial⟩⟩⟩⟩⟩⟩, ⟨f268, ⟨f206, ⟨f192, ⟨f178, ⟨f175, ⟨f173, ⟨f172, trivial, trivial⟩,
  ⟨f174, trivial, trivial⟩⟩, ⟨f177, ⟨f176, trivial, trivial⟩, trivial⟩⟩, ⟨f185, ⟨f180, ⟨f179, trivial, trivial⟩, trivial⟩, ⟨f190, ⟨f188, trivial, trivial⟩, trivial⟩⟩⟩, ⟨f200, ⟨f197, ⟨f195, ⟨f194,
  trivial, trivial⟩, ⟨f196, trivial, trivial⟩⟩, ⟨f199, ⟨f198, trivial, trivial⟩, trivial⟩⟩, ⟨f203, ⟨f202, ⟨f201, trivial, trivial⟩, trivial⟩, ⟨f205, ⟨f204, trivial, trivial⟩, trivial⟩⟩⟩⟩, ⟨f233,
  ⟨f220, ⟨f217, ⟨f215, ⟨f207, trivial, trivial⟩, ⟨f216, trivial, trivial⟩⟩, ⟨f219, ⟨f218, trivial, trivial⟩, trivial⟩⟩, ⟨f223, ⟨f222, ⟨f221, trivial, trivial⟩, trivial⟩, ⟨f231, ⟨f224, trivial,
  trivial⟩, trivial⟩⟩⟩, ⟨f261, ⟨f258, ⟨f244, ⟨f243, trivial, trivial⟩, ⟨f245, trivial, trivial⟩⟩, ⟨f260, ⟨f259, trivial, trivial⟩, trivial⟩⟩, ⟨f265, ⟨f264, ⟨f263, trivial, trivial⟩, trivial⟩, ⟨f267,
  ⟨f266, trivial, trivial⟩, trivial⟩⟩⟩⟩⟩, ⟨f314, ⟨f284, ⟨f277, ⟨f274, ⟨f270, ⟨f269, trivial, trivial⟩, ⟨f272, trivial, trivial⟩⟩, ⟨f276, ⟨f275, trivial, trivial⟩, trivial⟩⟩, ⟨f281, ⟨f279, ⟨f278,
  trivial, trivial⟩, trivial⟩, ⟨f283, ⟨f282, trivial, trivial⟩, trivial⟩⟩⟩, ⟨f296, ⟨f290, ⟨f286, ⟨f285, trivial, trivial⟩, ⟨f287, trivial, trivial⟩⟩, ⟨f294, ⟨f293, trivial, trivial⟩, trivial⟩⟩, ⟨f306,
  ⟨f299, ⟨f297, trivial, trivial⟩, trivial⟩, ⟨f313, ⟨f307, trivial, trivial⟩, trivial⟩⟩⟩⟩, ⟨f351, ⟨f330, ⟨f318, ⟨f316, ⟨f315, trivial, trivial⟩, ⟨f317, trivial, trivial⟩⟩, ⟨f329, ⟨f319, trivial,
  trivial⟩, trivial⟩⟩, ⟨f336, ⟨f334, ⟨f331, trivial, trivial⟩, trivial⟩, ⟨f340, ⟨f337, trivial, trivial⟩, trivial⟩⟩⟩, ⟨f362, ⟨f354, ⟨f353, ⟨f352, trivial, trivial⟩, trivial⟩, ⟨f361, ⟨f360, trivial,
  trivial⟩, trivial⟩⟩, ⟨f365, ⟨f364, ⟨f363, trivial, trivial⟩, trivial⟩, ⟨f370, ⟨f369, trivial, trivial⟩, trivial⟩⟩⟩⟩⟩⟩⟩
theorem tabG_named : tabG.named Tryz.prog = true := by kernel_rfl
end Go.Proofs.YtehhdhadmapplaaGreat.C
end
section
set_option linter.unusedSimpArgs false
set_option linter.unusedVariables false
set_option maxRecDepth 100000
namespace Go.Proofs.YtehhdhadmapplaaGreat.Tree
open Go Go.Av Go.Proofs Go.Proofs.YtehhdhadmapplaaGreat.C
theorem cloneTx_p : PCalls Tryz.prog 208 [.sl 1 [] .any] (.sl 1 [] (.exact 0)) := cloneE_gen (sz := 1) (bytes := 16) f208
theorem cloneSp_p : PCalls Tryz.prog 295 [.sl 2 [] .any] (.sl 2 [] (.exact 0)) := cloneE_gen (sz := 2) (bytes := 32) f295
noncomputable def engPP (lv : Bool) (f : Nat) (args : List AV) : Option AV := match Nat.beq f 208 with
  | true => cloneE [(208, 1)] f args
  | false => match Nat.beq f 295 with
    | true => cloneE [(295, 2)] f args
    | false => match Nat.beq f 45 && lv with
      | true => (match args with
        | [] => some (.bool true)
        | _ => none)
      | false => storePP f args
theorem engPP_ok {lv : Bool} (hl : lv = true → PCalls Tryz.prog 45 [] (.bool true)) : PrimsOkZ Tryz.prog (orPrimsZ placeZ (purePrimZ (engPP lv))) := orPrimsZ_ok placeZ_ok <| purePrimZ_ok fun f args r h => by
  unfold engPP at h
  split at h
  · rename_i e
    have e := Nat.eq_of_beq_eq_true e
    subst e
    refine ⟨cloneE_ok h fun p hp => ?_, ⟨_, Tryz.func208, of_decide_eq_true (by kernel_rfl), of_decide_eq_true (by kernel_rfl)⟩⟩
    simp only [List.mem_singleton] at hp
    subst hp
    exact cloneTx_p
  split at h
  · rename_i e
    have e := Nat.eq_of_beq_eq_true e
    subst e
    refine ⟨cloneE_ok h fun p hp => ?_, ⟨_, Tryz.func295, of_decide_eq_true (by kernel_rfl), of_decide_eq_true (by kernel_rfl)⟩⟩
    simp only [List.mem_singleton] at hp
    subst hp
    exact cloneSp_p
  split at h
  · rename_i e
    simp only [Bool.and_eq_true] at e
    have e1 := Nat.eq_of_beq_eq_true e.1
    subst e1
    split at h
    · cases h
      exact ⟨⟨[], VSubs.nil, hl e.2⟩, ⟨_, Tryz.func45, of_decide_eq_true (by kernel_rfl), of_decide_eq_true (by kernel_rfl)⟩⟩
    · cases h
  · exact storePP_ok h
theorem lives18_p : PCalls Tryz.prog 45 [] (.bool true) := pcalls_runQ tabG_ok tabG_named (engPP_ok (lv := false) (fun h => by cases h)) engPF_ok (fz := thawed) tryZ_ok (k := 100000) (by kernel_rfl)
theorem nile_t (n : Int) : PCalls Tryz.prog 5 [.int .i64 n, .bool true] (.bool true) := pcalls_runQ tabG_ok tabG_named (engPP_ok (lv := true) fun _ => lives18_p) engPF_ok (fz := thawed) tryZ_ok (k := 100000) (by kernel_rfl)
theorem nile_f (n : Int) : PCalls Tryz.prog 5 [.int .i64 n, .bool false] (.bool true) := pcalls_runQ tabG_ok tabG_named (engPP_ok (lv := true) fun _ => lives18_p) engPF_ok (fz := thawed) tryZ_ok (k := 100000) (by kernel_rfl)
theorem law_EngineNil {b : Nat} (avs : List AV) (h : All2 (ArgFits Tryz.prog 5) Tryz.f5.params.toList avs) (_ : bulkAs avs ≤ b) : PCalls Tryz.prog 5 avs (.bool true) := by
  rw [Tryz.params5] at h
  cases h with | cons h0 h =>
  cases h with | cons h1 h =>
  cases h
  obtain ⟨n, rfl, -⟩ := open_i h0
  obtain ⟨b, rfl⟩ := open_b h1
  cases b with
  | true => exact nile_t n
  | false => exact nile_f n
end Go.Proofs.YtehhdhadmapplaaGreat.Tree
end
section
set_option linter.unusedSimpArgs false
set_option linter.unusedVariables false
namespace Go.Proofs.YtehhdhadmapplaaGreat.Tree
open Go Go.Av Go.Proofs Go.Proofs.YtehhdhadmapplaaGreat.C
open Go.ChangeShapes Go.WideShapes Go.ChangeAt Go.RowKit
set_option maxRecDepth 100000 in
theorem lifted_EngineNil (os : Os) (started : os.Started) (H : Type) (enc : TypeId × Value → H) :
    ReturnsInHanded {} Tryz.checked os 5 .any (Rows.engineNilSpec.pre6 enc Tryz.prog Tryz.f5 Rows.engineNilRow.domain false) (Rows.engineNilSpec.post enc Tryz.prog Tryz.f5 false true false false) := by
  refine returnsInHanded_of_change_sized (C := Tryz.checked) own started (by kernel_rfl) Tryz.func5
    (ChangeSpec.witness6 (enc := enc) (C := Tryz.checked) false ⟨#[], #[.int .i64 0, .bool false], []⟩ 8 (by kernel_rfl) (by kernel_rfl) (by kernel_rfl) (by kernel_rfl)) ?_
  intro W base args ds gs before hval hW _ hwt _
  exact calls_row laid bulk rowed full rfl (fun l hl => by match l, hl with | [_, _], _ => rfl) rfl Tryz.underlying4 (by kernel_rfl) (by kernel_rfl) hval hW hwt (fun avs h hb => law_EngineNil avs h hb)
theorem cl0_EngineNil : (Rows.engineNilRow.inPlace == Tryz.pinned.checked.prog.inPlace 5) = true := by kernel_rfl
theorem cl1_EngineNil : (Rows.engineNilRow.unfollowed == Tryz.pinned.checked.prog.unfollowed 5) = true := by kernel_rfl
theorem cl2_EngineNil : (Rows.engineNilRow.recurses == Tryz.pinned.checked.prog.recurses 5) = true := by kernel_rfl
theorem cl3_EngineNil : (Rows.engineNilRow.named == Tryz.pinned.checked.prog.varsNamed 5) = true := by kernel_rfl
theorem closed_EngineNil : joinedFacts Tryz.pinned.checked.prog 5 Tryz.f5 Rows.engineNilSpec Rows.engineNilRow = true := by
  unfold joinedFacts
  rw [cl0_EngineNil, cl1_EngineNil, cl2_EngineNil, cl3_EngineNil]
  kernel_rfl
theorem named_EngineNil : Tryz.pinned.checked.prog.funcNamed Rows.engineNilRow.func = some 5 := by kernel_rfl
theorem said_EngineNil : Rows.EngineNilSaid :=
  OpenClaim.holds_of_wide 5 Tryz.f5 rfl rfl rfl rfl rfl rfl rfl ⟨rfl, rfl, rfl, rfl, rfl⟩ rfl rfl rfl rfl rfl named_EngineNil Tryz.func5 closed_EngineNil
    (of_decide_eq_true (by kernel_rfl)) (by unfold Func.isWrapper; first | (rw [if_pos (by decide +kernel)]; kernel_rfl) | (rw [if_neg (by decide +kernel)]; exact ⟨rfl, rfl⟩))
    (fun os started H enc _ => lifted_EngineNil os started H enc)
#print axioms said_EngineNil
end Go.Proofs.YtehhdhadmapplaaGreat.Tree
end
