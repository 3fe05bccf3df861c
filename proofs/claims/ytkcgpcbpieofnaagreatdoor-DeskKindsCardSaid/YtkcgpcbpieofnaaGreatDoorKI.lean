/- DeskKinds: the statement 'DeskKindsCardSaid' (a tied card), closed by the law that the walk shows. No condition. -/
import Derived.Deep.CondSized
import Derived.Deep.DeepHandedRow
import Derived.IntWalk
import Derived.KernelRfl
import Derived.Laws.Append
import Derived.Laws.AppendOwn
import Derived.Laws.BytesArg
import Derived.Laws.ComplexArith
import Derived.Laws.Cover3
import Derived.Laws.Entries
import Derived.Laws.IdiomCopy
import Derived.Laws.IdiomStrings
import Derived.Laws.Pointers
import Derived.Laws.Small
import Derived.Laws.Strings
import Derived.Laws.StructEq
import Derived.Lib.LaidTab
import Derived.MapKept
import Derived.OpenShut
import Derived.Orders
import Derived.OrdersIn
import Derived.ProofKit
import Derived.RangeFuncRecord
import Derived.RangeFuncSeq
import Derived.ReadAgain
import Derived.Scope
import Derived.Shelf.Slices.Cells
import Derived.Shelf.Spec.SlicesInsertGrow
import Derived.SizedLaws
import Derived.Test.YtkcgpcbpieofnaaGreatDoorCards
import Derived.Test.YtkcgpcbpieofnaaGreatDoorProg
import Derived.Test.YtkcgpcbpieofnaaGreatDoorTie
import Derived.Test.YtkcgpcbpieofnaaGreatDoorKID
section
set_option linter.unusedSimpArgs false
set_option linter.unusedVariables false
set_option maxRecDepth 10000
namespace Go.Proofs.YtkcgpcbpieofnaaGreatDoor.Reads
open Go Go.Av Go.Proofs Go.Proofs.YtkcgpcbpieofnaaGreatDoor.C Go.Lib Go.RowKit
def lays22_ren : Go.Shelf.Ren := ⟨fun | 22 => 183 | 29 => 213 | 30 => 214 | 36 => 235 | 17 => 247 | n => n, fun | 24 => 39 | 9 => 9 | 3 => 3 | 4 => 4 | 0 => 0 | n => n, fun | n => n⟩
theorem lays22 : Lays2.n22 Tryz.prog lays22_ren where
  mixed := by kernel_rfl
  f17 := Tryz.func247.trans (congrArg some (by kernel_rfl))
  f22 := Tryz.func183.trans (congrArg some (by kernel_rfl))
  f29 := Tryz.func213.trans (congrArg some (by kernel_rfl))
  f30 := Tryz.func214.trans (congrArg some (by kernel_rfl))
  f36 := Tryz.func235.trans (congrArg some (by kernel_rfl))
  t0 := Tryz.underlying0
  a0 := Tryz.isAgg0
  z0 := Tryz.sizeOf0
  v0 := Tryz.zeroValue0
  t3 := Tryz.underlying3
  a3 := Tryz.isAgg3
  z3 := Tryz.sizeOf3
  v3 := Tryz.zeroValue3
  t4 := Tryz.underlying4
  a4 := Tryz.isAgg4
  z4 := Tryz.sizeOf4
  v4 := Tryz.zeroValue4
  t9 := Tryz.underlying9
  a9 := Tryz.isAgg9
  z9 := Tryz.sizeOf9
  v9 := Tryz.zeroValue9
  t24 := Tryz.underlying39
  a24 := Tryz.isAgg39
  z24 := Tryz.sizeOf39
  v24 := Tryz.zeroValue39
  i9 := by kernel_rfl
def sv (l : List (List UInt8)) : List Value := l.map fun s => .string ⟨s.toArray⟩
theorem sv_length (l : List (List UInt8)) : (sv l).length = l.length := by simp [sv]
theorem sv_of {G : Ghost} {w : World} : ∀ {l : List (List UInt8)} {vs : List Value}, VRels G w (strs l) vs → vs = sv l
  | [], vs, h => by simpa [strs, VRels, sv] using h
  | s :: l, vs, h => by
    simp only [strs, List.map_cons, VRels, VRel] at h
    obtain ⟨v, us, rfl, rfl, h⟩ := h
    rw [sv_of (l := l) h]
    rfl
theorem sv_rels (l : List (List UInt8)) (G : Ghost) (w : World) : VRels G w (strs l) (sv l) := by
  induction l with
  | nil => simp [strs, sv, VRels]
  | cons s l ih =>
    simp only [strs, sv, List.map_cons, VRels]
    exact ⟨.string ⟨s.toArray⟩, sv l, rfl, by simp [VRel], ih⟩
theorem sv_one {l : List (List UInt8)} {v : Value} (h : v ∈ sv l) : One v := by
  obtain ⟨s, _, rfl⟩ := List.mem_map.1 h
  exact ⟨(fun _ e => by cases e), (fun _ e => by cases e)⟩
theorem sv_one' {l : List (List UInt8)} {v : Value} (h : v ∈ sv l) : v.oneCell' = true := by
  obtain ⟨s, _, rfl⟩ := List.mem_map.1 h
  rfl
theorem cell_of {w : World} {B : Nat} {T : TypeId} {fr : Nat × Nat} {L R : List Value} (hg : w.heap[B]? = some (.cells (L ++ R).toArray T fr)) (j : Nat) (v : Value) (h : L[j]? = some v) : w.cell? ⟨B, 0 + j, none⟩ = some v := by
  have hj := (List.getElem?_eq_some_iff.1 h).1
  unfold World.cell?
  simp only [hg, Nat.zero_add]
  simpa [List.getElem?_append_left hj] using h
theorem sv_insert (l : List (List UInt8)) (i : Nat) (x : List UInt8) : sv (l.take i ++ x :: l.drop i) = (sv l).take i ++ .string ⟨x.toArray⟩ :: (sv l).drop i := by simp [sv]
theorem ins_end {A R : List Value} {X : Value} {n : Nat} (hn : A.length = n) : (A ++ R).take (0 + n) ++ [X] ++ (A ++ R).drop (0 + n + 1) = A.take n ++ X :: A.drop n ++ R.drop 1 := by
  subst hn
  rw [Nat.zero_add, List.take_left, List.take_length, List.drop_length, List.drop_append, List.drop_eq_nil_of_le (by omega)]
  simp
theorem ins_mid {A R : List Value} {X : Value} {n i : Nat} (hn : A.length = n) (hi : i < n) :
    ((A ++ R).take (0 + (i + 1)) ++ A.drop i ++ (A ++ R).drop (0 + (i + 1) + (A.drop i).length)).take (0 + i) ++ [X] ++ ((A ++ R).take (0 + (i + 1)) ++ A.drop i ++ (A ++ R).drop (0 + (i + 1) + (A.drop i).length)).drop (0 + i + 1) = A.take i ++ X :: A.drop i ++ (A ++ R).drop (n + 1) := by
  subst hn
  have e2 : ((A ++ R).take (i + 1)).length = i + 1 := by simp; omega
  have e1 : ((A ++ R).take (i + 1)).take i = A.take i := by
    rw [List.take_take, Nat.min_eq_left (by omega), List.take_append_of_le_length (by omega)]
  have e3 : i + 1 + (A.drop i).length = A.length + 1 := by simp; omega
  rw [Nat.zero_add, Nat.zero_add, e3]
  have c1 : ((A ++ R).take (i + 1) ++ A.drop i ++ (A ++ R).drop (A.length + 1)).take i = A.take i := by
    rw [List.append_assoc, List.take_append_of_le_length (by omega), e1]
  have c2 : ((A ++ R).take (i + 1) ++ A.drop i ++ (A ++ R).drop (A.length + 1)).drop (i + 1) = A.drop i ++ (A ++ R).drop (A.length + 1) := by
    rw [List.append_assoc, List.drop_append, e2, List.drop_eq_nil_of_le (by omega), Nat.sub_self, List.drop_zero, List.nil_append]
  rw [c1, c2]
  simp
theorem ins_grow {A Z : List Value} {X : Value} {n i : Nat} (hn : A.length = n) (hi : i < n) :
    ((A.take i ++ Z).take i ++ [X] ++ (A.take i ++ Z).drop (i + 1)).take (i + 1) ++ A.drop i ++ ((A.take i ++ Z).take i ++ [X] ++ (A.take i ++ Z).drop (i + 1)).drop (i + 1 + (A.drop i).length) = A.take i ++ X :: A.drop i ++ ((A.take i ++ Z).take i ++ [X] ++ (A.take i ++ Z).drop (i + 1)).drop (i + 1 + (A.drop i).length) := by
  subst hn
  have e2 : (A.take i).length = i := by simp; omega
  have e1 : (A.take i ++ Z).take i = A.take i := by
    rw [List.take_append_of_le_length (by omega), List.take_take, Nat.min_self]
  have e4 : ((A.take i ++ Z).take i ++ [X] ++ (A.take i ++ Z).drop (i + 1)).take (i + 1) = A.take i ++ [X] := by
    rw [e1, List.take_append_of_le_length (by simp; omega), List.take_of_length_le (by simp; omega)]
  rw [e4]
  simp
theorem grown_le {w : World} {n old : Nat} {e : TypeId} (h : n ≤ 1099511627777) : grownCap w n old e ≤ 9223372036854775807 := by
  have := Nat.mod_lt (w.tape w.drawn (.appendCap n old e)) (show 0 < 2 ^ 63 - n by omega)
  simp only [grownCap, Question.cut]
  omega
theorem insert_t (l : List (List UInt8)) (i : Nat) (x : List UInt8) (hi : i ≤ l.length) (hl : l.length < 1099511627776) (h0 : 0 < l.length) {id id2 : Nat} (hne : id ≠ id2) {h : H} (ho : h.objs id = some (.cells (strs l))) (ho2 : h.objs id2 = some (.cells [.str x])) (htk : h.toks = []) :
    ACalls Tryz.prog 183 [.tsl 1 id 0 l.length none, .int .i64 i, .tsl 1 id2 0 1 none] h (.tsl 1 h.n 0 (l.length + 1) none) (h.turn id (.cells (strs (l.take i ++ x :: l.drop i)))) := by
  intro G w vs hv R F
  simp only [VRels, VRel] at hv
  obtain ⟨v1, _, rfl, ⟨hd1, hv1⟩, v2, _, rfl, rfl, v3, _, rfl, ⟨hd2, hv3⟩, rfl⟩ := hv
  obtain ⟨C, c, T, fr, rfl, ⟨hnC, hc63⟩, -, hg, hroom⟩ | ⟨hz, -⟩ := hv1
  rotate_left
  · omega
  obtain ⟨C2, c2, T2, fr2, rfl, ⟨hnC2, -⟩, -, hg2, hroom2⟩ | ⟨hz, -⟩ := hv3
  rotate_left
  · omega
  obtain ⟨-, hown, hB, us, rest, T', fr', hg', hvs, hfr, -⟩ := R.obj id _ ho
  obtain ⟨-, hown2, hB2, us2, rest2, T2', fr2', hg2', hvs2, hfr2, -⟩ := R.obj id2 _ ho2
  have hus := sv_of hvs
  subst hus
  have hus2 : us2 = [.string ⟨x.toArray⟩] := by
    simp only [VRels, VRel] at hvs2
    obtain ⟨v, _, rfl, rfl, rfl⟩ := hvs2
    rfl
  subst hus2
  have hbb : G.ι id2 ≠ G.ι id := fun e => hne (R.inj _ _ _ _ ho ho2 e.symm)
  rw [hg] at hg'
  obtain ⟨rfl, rfl, rfl⟩ : c = (sv l ++ rest).toArray ∧ T = T' ∧ fr = fr' := by simpa using hg'
  rw [hg2] at hg2'
  obtain ⟨rfl, rfl, rfl⟩ : c2 = ([Value.string ⟨x.toArray⟩] ++ rest2).toArray ∧ T2 = T2' ∧ fr2 = fr2' := by simpa using hg2'
  have hsl := sv_length l
  have hrl : C ≤ l.length + rest.length := by simpa [hsl] using hroom
  have hcs : ∀ (j : Nat) v, (sv l)[j]? = some v → w.cell? ⟨G.ι id, 0 + j, none⟩ = some v := fun j v => cell_of hg j v
  have hvs' : ∀ (j : Nat) v, ([Value.string ⟨x.toArray⟩] : List Value)[j]? = some v → w.cell? ⟨G.ι id2, 0 + j, none⟩ = some v := fun j v => cell_of hg2 j v
  have h1v : ∀ v ∈ ([Value.string ⟨x.toArray⟩] : List Value), v.oneCell' = true := by simp [Value.oneCell']
  have hsome : ∀ j, j < C → (w.cell? ⟨G.ι id, 0 + j, none⟩).isSome = true := fun j hj => by
    unfold World.cell?; simp only [hg]; simp [hsl]; omega
  have hfz : ∀ j, w.frozen? ⟨G.ι id, j, none⟩ = false := fun j => by
    unfold World.frozen?; simp only [hg]
    have := hfr
    simp; omega
  have hfz2 : ∀ j, w.frozen? ⟨G.ι id2, j, none⟩ = false := fun j => by
    unfold World.frozen?; simp only [hg2]
    have := hfr2
    simp; omega
  have hfrn : ¬ G.dom h.n := F.1 _ (Nat.le_refl _) (Nat.lt_succ_self _)
  have hout : (strs (l.take i ++ x :: l.drop i)).length = l.length + 1 := by simp [strs]; omega
  have hso : (sv (l.take i ++ x :: l.drop i)).length = l.length + 1 := by rw [sv_length]; simp; omega
  -- a world in which the row stands in a new block
  have newb : ∀ (w' : World) (L2 : List Value) (T0 : TypeId) (C0 : Nat), l.length + 1 ≤ C0 → C0 ≤ 9223372036854775807 → C0 ≤ l.length + 1 + L2.length → w'.heap[w.heap.size]? = some (.cells (sv (l.take i ++ x :: l.drop i) ++ L2).toArray T0 (0, 0)) → w.heap.size ≤ w'.heap.size → w'.os = w.os → w'.output = w.output → (∀ b, b < w.heap.size → w'.heap[b]? = w.heap[b]?) →
      ∃ v G', Ending.returned (.slice (some ⟨w.heap.size, 0, none⟩) (l.length + 1) C0) = .returned v ∧ Trans G w h G' w' (h.turn id (.cells (strs (l.take i ++ x :: l.drop i)))) ∧ RepH G' (h.turn id (.cells (strs (l.take i ++ x :: l.drop i)))) w' ∧ VRel G' w' (.tsl 1 h.n 0 (l.length + 1) none) v := by
    intro w' L2 T0 C0 q1 q7 q8 q2 q3 q4 q5 q6
    obtain ⟨G', T1, R1, V⟩ := row_new (B := w.heap.size) (C := C0) (w' := w') R ho htk hfrn q3 q4 q5 (fun b hb _ => q6 b hb) (by rw [q6 _ hB]; exact SameForm.refl _) (.inr (Nat.le_refl _)) ⟨by rw [hout]; exact q1, q7⟩ (by rw [hso, hout]) (sv_rels _) (fun v hv => sv_one hv) q2 (by rw [hso]; exact q8) rfl
    exact ⟨_, G', rfl, T1, R1, by rw [hout] at V; exact V⟩
  -- a world in which it stands in its own block
  have inpl : ∀ (w' : World) (L2 : List Value), w'.heap[G.ι id]? = some (.cells (sv (l.take i ++ x :: l.drop i) ++ L2).toArray T fr) → (sv (l.take i ++ x :: l.drop i) ++ L2).length = (sv l ++ rest).length → w'.heap.size = w.heap.size → w'.os = w.os → w'.output = w.output → (∀ b, b ≠ G.ι id → w'.heap[b]? = w.heap[b]?) → l.length + 1 ≤ C →
      ∃ v G', Ending.returned (.slice (some ⟨G.ι id, 0, none⟩) (l.length + 1) C) = .returned v ∧ Trans G w h G' w' (h.turn id (.cells (strs (l.take i ++ x :: l.drop i)))) ∧ RepH G' (h.turn id (.cells (strs (l.take i ++ x :: l.drop i)))) w' ∧ VRel G' w' (.tsl 1 h.n 0 (l.length + 1) none) v := by
    intro w' L2 q1 q2 q3 q4 q5 q6 q7
    obtain ⟨G', T1, R1, V⟩ := row_new (B := G.ι id) (C := C) (w' := w') R ho htk hfrn (Nat.le_of_eq q3.symm) q4 q5 (fun b _ hb => q6 b hb) (by rw [hg, q1]; exact ⟨_, _, rfl, by simpa using q2, fun _ _ h => h⟩) (.inl rfl) ⟨by rw [hout]; exact q7, hc63⟩ (by rw [hso, hout]) (sv_rels _) (fun v hv => sv_one hv) q1 (by rw [List.length_append, List.length_append, hsl] at q2; omega) hfr
    exact ⟨_, G', rfl, T1, R1, by rw [hout] at V; exact V⟩
  by_cases hfit : l.length + 1 ≤ C
  · by_cases hie : i = l.length
    · subst hie
      refine (Any2.slices_Insert_string_end_room lays22 (G.ι id) 0 l.length C (G.ι id2) 0 1 C2 [.string ⟨x.toArray⟩] w (by omega) hfit hc63 rfl (fun j hj => by have := hsome (l.length + j) (by omega); rwa [← Nat.add_assoc] at this) (fun j hj => hfz _) hvs' h1v).mono ?_
      rintro e w' ⟨rfl, rfl⟩
      obtain ⟨a1, a2, a3, a4, a5⟩ := setCells_heap (G.ι id) T fr [.string ⟨x.toArray⟩] (0 + l.length) (sv l ++ rest) w hg (by simp [hsl]; omega)
      refine inpl _ (rest.drop 1) ?_ ?_ a3 a4 a5 a2 hfit
      · rw [a1, sv_insert, List.length_singleton, ins_end hsl]
      · rw [List.length_append, List.length_append, hso, hsl, List.length_drop]; omega
    · have hlt : i < l.length := by omega
      refine (Any2.slices_Insert_string_shift lays22 (G.ι id) 0 l.length C i (G.ι id2) 0 1 C2 (sv l) [.string ⟨x.toArray⟩] w hlt (by omega) hfit hc63 hbb hsl rfl hcs (fun j hj => hsome j (by omega)) (fun j hj => hfz _) hvs' (fun v hv => sv_one' hv) h1v T2 T ([Value.string ⟨x.toArray⟩] ++ rest2).toArray.size (sv l ++ rest).toArray.size (by unfold World.shape?; simp only [hg2]) (by unfold World.shape?; simp only [hg]) (by rw [List.size_toArray, List.length_append, hsl]; omega) (hfz2 _) (hfz2 _)).mono ?_
      rintro e w' ⟨rfl, rfl⟩
      obtain ⟨a1, a2, a3, a4, a5⟩ := setCells_heap (G.ι id) T fr ((sv l).drop i) (0 + (i + 1)) (sv l ++ rest) w.drew hg (by simp [hsl]; omega)
      obtain ⟨b1, b2, b3, b4, b5⟩ := setCells_heap (G.ι id) T fr [.string ⟨x.toArray⟩] (0 + i) _ _ a1 (by simp [hsl]; omega)
      refine inpl _ ((sv l ++ rest).drop (l.length + 1)) ?_ ?_ (b3.trans a3) (b4.trans a4) (b5.trans a5) (fun b hb => (b2 b hb).trans (a2 b hb)) hfit
      · rw [b1, sv_insert, List.length_singleton, ins_mid hsl hlt]
      · rw [List.length_append, hso, List.length_drop, List.length_append, hsl]; omega
  · have hCl : C = l.length := by omega
    subst hCl
    have hbig : (l.length + 1) * 16 ≤ 140737488355328 := by omega
    have hgc : ∀ e, l.length + 1 ≤ grownCap w (l.length + 1) l.length e := fun e => by simp [grownCap, Question.cut]
    by_cases hie : i = l.length
    · subst hie
      refine (Any2.slices_Insert_string_end_grow lays22 (some ⟨G.ι id, 0, none⟩) l.length l.length (G.ι id2) 0 1 C2 (sv l) [.string ⟨x.toArray⟩] w (by omega) (Nat.le_refl _) (by omega) hbig hsl rfl (fun e => by cases e) (fun a ha j v hj => by cases ha; rw [Addr.add_lit]; exact hcs j v hj) hvs' h1v).mono ?_
      rintro e w' ⟨rfl, rfl⟩
      have hgc' := hgc (lays22_ren.t 9)
      have hgl : grownCap w (l.length + 1) l.length (lays22_ren.t 9) ≤ 9223372036854775807 := grown_le (by omega)
      generalize grownCap w (l.length + 1) l.length (lays22_ren.t 9) = C0 at hgc' hgl ⊢
      have hZs : (Builtin.zeroCells (Value.string ⟨#[]⟩).cells (C0 - (l.length + 1))).toList.length = C0 - (l.length + 1) := by
        have hz : (Value.string ⟨#[]⟩).cells.size = 1 := rfl
        generalize (Value.string ⟨#[]⟩).cells = zc at hz
        simp [Builtin.zeroCells, hz]
      generalize Builtin.zeroCells (Value.string ⟨#[]⟩).cells (C0 - (l.length + 1)) = Zc at hZs ⊢
      refine newb _ Zc.toList (lays22_ren.t 9) _ hgc' hgl (by omega) ?_ ?_ rfl rfl ?_
      · show (w.heap.push _)[w.heap.size]? = _
        rw [Array.getElem?_push_size]
        refine congrArg some (congrArg (fun c => Go.Obj.cells c _ (0, 0)) (Array.ext' ?_))
        simp only [Array.toList_append, sv_insert, ← hsl, List.take_length, List.drop_length]
      · show _ ≤ (w.heap.push _).size
        rw [Array.size_push]; omega
      · intro b hb
        show (w.heap.push _)[b]? = _
        rw [Array.getElem?_push, if_neg (Nat.ne_of_lt hb)]
    · have hlt : i < l.length := by omega
      refine (Any2.slices_Insert_string_grow lays22 (G.ι id) 0 l.length l.length i (G.ι id2) 0 1 C2 (sv l) [.string ⟨x.toArray⟩] w hlt (by omega) (Nat.le_refl _) (by omega) hbig hsl rfl hcs hvs' (fun v hv => sv_one' hv) h1v).mono ?_
      rintro e w' ⟨rfl, rfl⟩
      generalize hC0 : grownCap w (l.length + 1) l.length (lays22_ren.t 9) = C0
      have hC1 : l.length + 1 ≤ C0 := hC0 ▸ hgc _
      have hC2 : C0 ≤ 9223372036854775807 := hC0 ▸ grown_le (by omega)
      generalize hA : w.alloc (.cells (((sv l).take i).toArray ++ Builtin.zeroCells (Value.string ⟨#[]⟩).cells (l.length + 1 - i) ++ Builtin.zeroCells (Value.string ⟨#[]⟩).cells (C0 - (l.length + 1))) (lays22_ren.t 9)) = A0
      obtain ⟨Z, hZl, g1⟩ : ∃ Z : List Value, Z.length = C0 - i ∧ A0.drew.heap[w.heap.size]? = some (.cells ((sv l).take i ++ Z).toArray (lays22_ren.t 9) (0, 0)) := by
        refine ⟨(Builtin.zeroCells (Value.string ⟨#[]⟩).cells (l.length + 1 - i) ++ Builtin.zeroCells (Value.string ⟨#[]⟩).cells (C0 - (l.length + 1))).toList, ?_, ?_⟩
        · have hz : (Value.string ⟨#[]⟩).cells.size = 1 := rfl
          generalize (Value.string ⟨#[]⟩).cells = zc at hz
          simp [Builtin.zeroCells, hz]; omega
        · subst hA
          show (w.heap.push _)[w.heap.size]? = _
          rw [Array.getElem?_push_size]
          refine congrArg some (congrArg (fun c => Go.Obj.cells c _ (0, 0)) (Array.ext' ?_))
          simp only [Array.toList_append, List.append_assoc]
      have k3 : A0.heap.size = w.heap.size + 1 := by
        rw [← hA]
        show (w.heap.push _).size = _
        rw [Array.size_push]
      have k4 : A0.os = w.os := by rw [← hA]; rfl
      have k5 : A0.output = w.output := by rw [← hA]; rfl
      have k2 : ∀ b, b < w.heap.size → A0.heap[b]? = w.heap[b]? := fun b hb => by
        rw [← hA]
        show (w.heap.push _)[b]? = _
        rw [Array.getElem?_push, if_neg (Nat.ne_of_lt hb)]
      clear hA
      have hT' : ((sv l).take i).length = i := by rw [List.length_take, hsl]; omega
      have hD : ((sv l).drop i).length = l.length - i := by rw [List.length_drop, hsl]
      obtain ⟨a1, a2, a3, a4, a5⟩ := setCells_heap w.heap.size _ (0, 0) [.string ⟨x.toArray⟩] i _ A0.drew g1 (by rw [List.length_append, hT', hZl, List.length_singleton]; omega)
      obtain ⟨b1, b2, b3, b4, b5⟩ := setCells_heap w.heap.size _ (0, 0) ((sv l).drop i) (i + 1) _ (World.setCells A0.drew w.heap.size i [.string ⟨x.toArray⟩]).drew a1 (by simp only [List.length_append, List.length_take, List.length_drop, hsl, hZl, List.length_singleton]; omega)
      rw [List.length_singleton, ins_grow hsl hlt, ← sv_insert] at b1
      refine newb _ _ _ _ hC1 hC2 (by simp only [List.length_append, List.length_take, List.length_drop, List.length_singleton, hsl, hZl]; omega) b1 ?_ ?_ ?_ ?_
      · rw [b3]; show _ ≤ (World.setCells A0.drew _ _ _).heap.size; rw [a3]; show _ ≤ A0.heap.size; omega
      · rw [b4]; show (World.setCells A0.drew _ _ _).os = _; rw [a4]; exact k4
      · rw [b5]; show (World.setCells A0.drew _ _ _).output = _; rw [a5]; exact k5
      · intro b hb
        rw [b2 b (Nat.ne_of_lt hb)]; show (World.setCells A0.drew _ _ _).heap[b]? = _
        rw [a2 b (Nat.ne_of_lt hb)]
        exact k2 b hb
theorem insert_e (x : List UInt8) {id2 : Nat} {h : H} (ho2 : h.objs id2 = some (.cells [.str x])) (htk : h.toks = []) :
    ACalls Tryz.prog 183 [.sl 1 [] (.exact 0), .int .i64 0, .tsl 1 id2 0 1 none] h (.tsl 1 h.n 0 1 none) (h.turn id2 (.cells (strs [x]))) := by
  intro G w vs hv R F
  simp only [VRels] at hv
  obtain ⟨v1, _, rfl, hv1, v2, _, rfl, hv2, v3, _, rfl, hv3, rfl⟩ := hv
  have hbase : ∃ a0, v1 = .slice a0 0 0 := by
    simp only [VRel, CapOk] at hv1
    rcases hv1 with ⟨-, h, -⟩ | ⟨B, off, C, vs, q1, -, -, -, -, q6⟩
    · exact h
    · subst q6; exact ⟨_, by simpa using q1⟩
  obtain ⟨a0, rfl⟩ := hbase
  simp only [VRel] at hv2 hv3
  subst hv2
  obtain ⟨hd2, hv3⟩ := hv3
  obtain ⟨C2, c2, T2, fr2, rfl, ⟨hnC2, -⟩, -, hg2, hroom2⟩ | ⟨hz, -⟩ := hv3
  rotate_left
  · omega
  obtain ⟨-, hown2, hB2, us2, rest2, T2', fr2', hg2', hvs2, hfr2, -⟩ := R.obj id2 _ ho2
  have hus2 : us2 = [.string ⟨x.toArray⟩] := by
    simp only [VRels, VRel] at hvs2
    obtain ⟨v, _, rfl, rfl, rfl⟩ := hvs2
    rfl
  subst hus2
  rw [hg2] at hg2'
  obtain ⟨rfl, rfl, rfl⟩ : c2 = ([Value.string ⟨x.toArray⟩] ++ rest2).toArray ∧ T2 = T2' ∧ fr2 = fr2' := by simpa using hg2'
  have hvs' : ∀ (j : Nat) v, ([Value.string ⟨x.toArray⟩] : List Value)[j]? = some v → w.cell? ⟨G.ι id2, 0 + j, none⟩ = some v := fun j v => cell_of hg2 j v
  have h1v : ∀ v ∈ ([Value.string ⟨x.toArray⟩] : List Value), v.oneCell' = true := by simp [Value.oneCell']
  have key := Any2.slices_Insert_string_end_grow lays22 a0 0 0 (G.ι id2) 0 1 C2 [] [.string ⟨x.toArray⟩] w (by omega) (Nat.le_refl _) (by omega) (by omega) rfl rfl (fun _ => rfl) (fun a ha j v hj => by simp at hj) hvs' h1v
  refine key.mono ?_
  rintro e w' ⟨rfl, rfl⟩
  have hgc' : 0 + 1 ≤ grownCap w (0 + 1) 0 (lays22_ren.t 9) := by simp [grownCap, Question.cut]
  have hgl : grownCap w (0 + 1) 0 (lays22_ren.t 9) ≤ 9223372036854775807 := grown_le (by omega)
  generalize grownCap w (0 + 1) 0 (lays22_ren.t 9) = C0 at hgc' hgl ⊢
  have hZs : (Builtin.zeroCells (Value.string ⟨#[]⟩).cells (C0 - (0 + 1))).toList.length = C0 - (0 + 1) := by
    have hz : (Value.string ⟨#[]⟩).cells.size = 1 := rfl
    generalize (Value.string ⟨#[]⟩).cells = zc at hz
    simp [Builtin.zeroCells, hz]
  generalize Builtin.zeroCells (Value.string ⟨#[]⟩).cells (C0 - (0 + 1)) = Zc at hZs ⊢
  have hs : (w.drew.alloc (.cells (([] ++ [Value.string ⟨x.toArray⟩]).toArray ++ Zc) (lays22_ren.t 9))).heap.size = w.heap.size + 1 := by
    show (w.heap.push _).size = _
    rw [Array.size_push]
  have hold : ∀ b, b < w.heap.size → (w.drew.alloc (.cells (([] ++ [Value.string ⟨x.toArray⟩]).toArray ++ Zc) (lays22_ren.t 9))).heap[b]? = w.heap[b]? := fun b hb => by
    show (w.heap.push _)[b]? = _
    rw [Array.getElem?_push, if_neg (Nat.ne_of_lt hb)]
  have hnew : (w.drew.alloc (.cells (([] ++ [Value.string ⟨x.toArray⟩]).toArray ++ Zc) (lays22_ren.t 9))).heap[w.heap.size]? = some (.cells (sv [x] ++ Zc.toList).toArray (lays22_ren.t 9) (0, 0)) := by
    show (w.heap.push _)[w.heap.size]? = _
    rw [Array.getElem?_push_size]
    refine congrArg some (congrArg (fun c => Go.Obj.cells c _ (0, 0)) (Array.ext' ?_))
    simp only [Array.toList_append]
    rfl
  obtain ⟨G', T1, R1, V⟩ := row_new (w' := w.drew.alloc (.cells (([] ++ [Value.string ⟨x.toArray⟩]).toArray ++ Zc) (lays22_ren.t 9))) (B := w.heap.size) (C := C0) (xs := strs [x]) (vs := sv [x]) R ho2 htk (F.1 _ (Nat.le_refl _) (Nat.lt_succ_self _)) (by omega) rfl rfl (fun b hb _ => hold b hb) (by rw [hold _ hB2]; exact SameForm.refl _) (.inr (Nat.le_refl _)) ⟨by simpa [strs] using hgc', hgl⟩ rfl (sv_rels _) (fun v hv => sv_one hv) hnew (by simp only [sv_length, List.length_singleton]; omega) rfl
  exact ⟨_, G', rfl, T1, R1, V⟩
end Go.Proofs.YtkcgpcbpieofnaaGreatDoor.Reads
end
section
set_option linter.unusedSimpArgs false
set_option linter.unusedVariables false
set_option maxRecDepth 10000
namespace Go.Proofs.YtkcgpcbpieofnaaGreatDoor.Reads
open Go Go.Av Go.Proofs Go.Proofs.YtkcgpcbpieofnaaGreatDoor.C Go.Proofs.YtkcgpcbpieofnaaGreatDoor.Batch
def spOk (l : List Sp) (i : Nat) : Bool := hasB (l.getD i default) && (decide (i = 0) || apartB (l.getD (i - 1) default) (l.getD i default))
def kOk (k : List Bs) (l : List Sp) (i : Nat) : Bool := (decide (i = 0) || Op.bytesLess (k.getD (i - 1) []) (k.getD i [])) && !spanned l (k.getD i [])
def spsOk (l : List Sp) : Bool := (List.range l.length).all (spOk l)
def ksOk (k : List Bs) (l : List Sp) : Bool := (List.range k.length).all (kOk k l)
def checkB (k : List Bs) (l : List Sp) : Bool := decide (k.length ≤ 64) && decide (l.length ≤ 64) && spsOk l && ksOk k l
theorem all_no {p : Nat → Bool} {n j : Nat} (h : j < n) (hp : p j = false) : (List.range n).all p = false := List.all_eq_false.2 ⟨j, List.mem_range.2 h, by simp [hp]⟩
theorem all_yes {p : Nat → Bool} {n : Nat} (h : ∀ i, i < n → p i = true) : (List.range n).all p = true := List.all_eq_true.2 fun i hi => h i (List.mem_range.1 hi)
theorem check_p (k : List Bs) (l : List Sp) : PCalls Tryz.prog 156 [encR k l] (.int .i64 (if checkB k l then 0 else 4)) := by
  refine f156.pcalls0 (by simp) (by simp [allPure, encR_pure]) rfl ?_
  unfold c156
  refine Wp.seqReg (by simp only [go_sem, reduceIte, Nat.reduceEqDiff, Nat.reduceAdd, bx, encR]; exact rfl) (by trivial) ?_
  refine Wp.frz (fun _ => true) [(1, .ref [.sl 1 (strs k) .any, .sl 2 (sps l) .any])] ⟨none', 1, [], 0⟩ ?_ (OLe.none _) (by simp) (by simp [go_sem]) (Nat.le_refl _) ?_
  · simp only [AllSub, go_sem, reduceIte, Nat.reduceEqDiff, unT, and_true]
    exact VSub.refl _
  by_cases b1 : k.length ≤ 64
  rotate_left
  · have d1 : decide ((64 : Int) < (k.length : Int)) = true := decide_eq_true (by omega)
    repeat (first
      | ((first | apply Wp.seqItems | apply Wp.items); (· simp only [go_sem, reduceIte, Nat.reduceEqDiff, Nat.reduceAdd, bx, ax, if_true, if_false, Nat.reduceMul, Nat.reduceLeDiff, d1, strs_length]; exact rfl))
      | (refine WpItems.nil ⟨?_, ?_⟩; (· first | trivial | simp [pairsQ, pairsOk, apart, ent0]))
      | (apply Wp.cond_lit; (· simp only [go_sem, reduceIte, Nat.reduceEqDiff, Nat.reduceAdd, bx, ax, if_true, if_false, Nat.reduceMul, Nat.reduceLeDiff, d1, strs_length]; exact rfl); (· rfl))
      | refine Wp.skip ?_
      | refine Wp.label ?_
      | refine Wp.block ?_
      | refine Wp.exit ?_
      | refine Wp.seq ?_)
    refine Wp.ret ⟨trivial, _, rfl, ?_⟩
    simp only [go_sem, reduceIte, Nat.reduceEqDiff, Nat.reduceAdd, bx]
    simp only [checkB, decide_eq_false b1, Bool.false_and, Bool.false_eq_true, if_false]
    exact VSub.refl _
  have d1 : decide ((64 : Int) < (k.length : Int)) = false := decide_eq_false (by omega)
  by_cases b2 : l.length ≤ 64
  rotate_left
  · have d2 : decide ((64 : Int) < (l.length : Int)) = true := decide_eq_true (by omega)
    repeat (first
      | ((first | apply Wp.seqItems | apply Wp.items); (· simp only [go_sem, reduceIte, Nat.reduceEqDiff, Nat.reduceAdd, bx, ax, if_true, if_false, Nat.reduceMul, Nat.reduceLeDiff, d1, d2, strs_length, sps_length]; exact rfl))
      | (refine WpItems.nil ⟨?_, ?_⟩; (· first | trivial | simp [pairsQ, pairsOk, apart, ent0]))
      | (apply Wp.cond_lit; (· simp only [go_sem, reduceIte, Nat.reduceEqDiff, Nat.reduceAdd, bx, ax, if_true, if_false, Nat.reduceMul, Nat.reduceLeDiff, d1, d2, strs_length, sps_length]; exact rfl); (· rfl))
      | refine Wp.skip ?_
      | refine Wp.label ?_
      | refine Wp.block ?_
      | refine Wp.exit ?_
      | refine Wp.seq ?_)
    refine Wp.ret ⟨trivial, _, rfl, ?_⟩
    simp only [go_sem, reduceIte, Nat.reduceEqDiff, Nat.reduceAdd, bx]
    simp only [checkB, decide_eq_false b2, Bool.and_false, Bool.false_and, Bool.false_eq_true, if_false]
    exact VSub.refl _
  have d2 : decide ((64 : Int) < (l.length : Int)) = false := decide_eq_false (by omega)
  repeat (first
    | ((first | apply Wp.seqItems | apply Wp.items); (· simp only [go_sem, reduceIte, Nat.reduceEqDiff, Nat.reduceAdd, bx, ax, if_true, if_false, Nat.reduceMul, Nat.reduceLeDiff, d1, d2, strs_length, sps_length]; exact rfl))
    | (refine WpItems.nil ⟨?_, ?_⟩; (· first | trivial | simp [pairsQ, pairsOk, apart, ent0]))
    | (apply Wp.cond_lit; (· simp only [go_sem, reduceIte, Nat.reduceEqDiff, Nat.reduceAdd, bx, ax, if_true, if_false, Nat.reduceMul, Nat.reduceLeDiff, d1, d2, strs_length, sps_length]; exact rfl); (· rfl))
    | refine Wp.skip ?_
    | refine Wp.label ?_
    | refine Wp.block ?_
    | refine Wp.exit ?_
    | refine Wp.seq ?_)
  refine Wp.loopN [1, 18, 19] (by simp only [go_sem, reduceIte, Nat.reduceEqDiff, List.map, sps_length]; exact rfl) (fun j : Nat => [(20, .int .i64 j)]) (fun j => j ≤ l.length ∧ ∀ i, i < j → spOk l i = true) (fun j => l.length - j) 0 ⟨Nat.zero_le _, fun i h => absurd h (by omega)⟩ ?_ ?_
  · simp only [AllSub, go_sem, reduceIte, Nat.reduceEqDiff, Nat.reduceAdd, bx]; and_intros <;> first | exact trivial | exact VSub.refl _ | exact VSub.any _ | (refine VSub.int ?_; omega)
  rintro j n hn ⟨hj, hs⟩
  by_cases hc : j < l.length
  · have g1 : decide ((j : Int) < (l.length : Int)) = true := decide_eq_true (by omega)
    have h2 : (0 : Int) ≤ (j : Int) := by omega
    have h3 : (j : Int) < (l.length : Int) := by omega
    have e1 : IntKind.i64.wrap ((j : Int) + 1) = ((j + 1 : Nat) : Int) := by rw [IntWalk.i64_in _ (by omega)]; omega
    have key : ∀ {b : Bool}, spOk l j = b → (b = true → ∀ i, i < j + 1 → spOk l i = true) ∧ (b = false → checkB k l = false) := by
      intro b hb
      refine ⟨fun h i hi => ?_, fun h => ?_⟩
      · by_cases e : i = j
        · subst e; rw [hb, h]
        · exact hs i (by omega)
      · have : spsOk l = false := all_no hc (hb.trans h)
        simp [checkB, this]
    cases ha : hasB (l.getD j default) with
    | false =>
      have q := (key (b := false) (by simp only [spOk, ha, Bool.false_and])).2 rfl
      repeat (first
        | ((first | apply Wp.seqItems | apply Wp.items | ((first
            | (refine WpItems.pcall ?_ ?_ (has_p (l.getD j default)) ?_; (· simp only [go_sem, reduceIte, Nat.reduceEqDiff, Nat.reduceAdd, bx]); (· simp only [go_sem, reduceIte, Nat.reduceEqDiff, Nat.reduceAdd, bx, List.map]; first | exact VSubs.refl _ | (repeat (first | exact VSubs.nil | refine VSubs.cons (by first | exact VSub.refl _ | assumption | exact VSub.cap | exact VSub.any _) ?_))))); apply WpItems.eval)); (· simp only [go_sem, reduceIte, Nat.reduceEqDiff, Nat.reduceAdd, bx, ax, if_true, if_false, Nat.reduceMul, Nat.reduceLeDiff, g1, h2, h3, e1, sps_length, Int.toNat_natCast, sps_getD _ _ _ hc, encSp, ha]; exact rfl))
        | (refine WpItems.nil ⟨?_, ?_⟩; (· first | trivial | simp [pairsQ, pairsOk, apart, ent0]))
        | (apply Wp.cond_lit; (· simp only [go_sem, reduceIte, Nat.reduceEqDiff, Nat.reduceAdd, bx, ax, if_true, if_false, Nat.reduceMul, Nat.reduceLeDiff, g1, h2, h3, e1, sps_length, Int.toNat_natCast, sps_getD _ _ _ hc, encSp, ha]; exact rfl); (· rfl))
        | refine Wp.skip ?_
        | refine Wp.label ?_
        | refine Wp.block ?_
        | refine Wp.exit ?_
        | refine Wp.seq ?_)
      refine Wp.ret ⟨trivial, _, rfl, ?_⟩
      simp only [go_sem, reduceIte, Nat.reduceEqDiff, Nat.reduceAdd, bx]
      simp only [q, Bool.false_eq_true, if_false]
      exact VSub.refl _
    | true =>
      by_cases hz : j = 0
      · have g2 : decide ((0 : Int) < (j : Int)) = false := decide_eq_false (by omega)
        have q := (key (b := true) (by simp only [spOk, ha, hz, decide_true, Bool.true_or, Bool.and_self] at ha ⊢; simp only [ha, Bool.and_self])).1 rfl
        repeat (first
          | ((first | apply Wp.seqItems | apply Wp.items | ((first
              | (refine WpItems.pcall ?_ ?_ (has_p (l.getD j default)) ?_; (· simp only [go_sem, reduceIte, Nat.reduceEqDiff, Nat.reduceAdd, bx]); (· simp only [go_sem, reduceIte, Nat.reduceEqDiff, Nat.reduceAdd, bx, List.map]; first | exact VSubs.refl _ | (repeat (first | exact VSubs.nil | refine VSubs.cons (by first | exact VSub.refl _ | assumption | exact VSub.cap | exact VSub.any _) ?_))))); apply WpItems.eval)); (· simp only [go_sem, reduceIte, Nat.reduceEqDiff, Nat.reduceAdd, bx, ax, if_true, if_false, Nat.reduceMul, Nat.reduceLeDiff, g1, g2, h2, h3, e1, sps_length, Int.toNat_natCast, sps_getD _ _ _ hc, encSp, ha]; exact rfl))
          | (refine WpItems.nil ⟨?_, ?_⟩; (· first | trivial | simp [pairsQ, pairsOk, apart, ent0]))
          | (apply Wp.cond_lit; (· simp only [go_sem, reduceIte, Nat.reduceEqDiff, Nat.reduceAdd, bx, ax, if_true, if_false, Nat.reduceMul, Nat.reduceLeDiff, g1, g2, h2, h3, e1, sps_length, Int.toNat_natCast, sps_getD _ _ _ hc, encSp, ha]; exact rfl); (· rfl))
          | refine Wp.skip ?_
          | refine Wp.label ?_
          | refine Wp.block ?_
          | refine Wp.exit ?_
          | refine Wp.seq ?_)
        refine ⟨j + 1, n + 1, by omega, ⟨by omega, q⟩, by omega, ?_⟩
        refine StLe.tmN (by omega) (OLe.none _) (by simp only [AllSub, go_sem, reduceIte, Nat.reduceEqDiff, Nat.reduceAdd, bx]; and_intros <;> first | exact trivial | exact VSub.refl _ | exact VSub.any _ | (refine VSub.int ?_; omega))
      · have g2 : decide ((0 : Int) < (j : Int)) = true := decide_eq_true (by omega)
        have e2 : IntKind.i64.wrap ((j : Int) - 1) = ((j - 1 : Nat) : Int) := by rw [IntWalk.i64_in _ (by omega)]; omega
        have h4 : (0 : Int) ≤ ((j - 1 : Nat) : Int) := by omega
        have h5 : ((j - 1 : Nat) : Int) < (l.length : Int) := by omega
        have h6 : j - 1 < l.length := by omega
        have hq : spOk l j = apartB (l.getD (j - 1) default) (l.getD j default) := by simp only [spOk, ha, decide_eq_false hz, Bool.true_and, Bool.false_or]
        cases hp : apartB (l.getD (j - 1) default) (l.getD j default) with
        | true =>
          have q := (key (hq.trans hp)).1 rfl
          repeat (first
            | ((first | apply Wp.seqItems | apply Wp.items | ((first
                | (refine WpItems.pcall ?_ ?_ (has_p (l.getD j default)) ?_; (· simp only [go_sem, reduceIte, Nat.reduceEqDiff, Nat.reduceAdd, bx]); (· simp only [go_sem, reduceIte, Nat.reduceEqDiff, Nat.reduceAdd, bx, List.map]; first | exact VSubs.refl _ | (repeat (first | exact VSubs.nil | refine VSubs.cons (by first | exact VSub.refl _ | assumption | exact VSub.cap | exact VSub.any _) ?_))))
                | (refine WpItems.pcall ?_ ?_ (apart_p (l.getD (j - 1) default) (l.getD j default)) ?_; (· simp only [go_sem, reduceIte, Nat.reduceEqDiff, Nat.reduceAdd, bx]); (· simp only [go_sem, reduceIte, Nat.reduceEqDiff, Nat.reduceAdd, bx, List.map]; first | exact VSubs.refl _ | (repeat (first | exact VSubs.nil | refine VSubs.cons (by first | exact VSub.refl _ | assumption | exact VSub.cap | exact VSub.any _) ?_))))); apply WpItems.eval)); (· simp only [go_sem, reduceIte, Nat.reduceEqDiff, Nat.reduceAdd, bx, ax, if_true, if_false, Nat.reduceMul, Nat.reduceLeDiff, g1, g2, h2, h3, h4, h5, e1, e2, sps_length, Int.toNat_natCast, sps_getD _ _ _ hc, sps_getD _ _ _ h6, encSp, ha, hp]; exact rfl))
            | (refine WpItems.nil ⟨?_, ?_⟩; (· first | trivial | simp [pairsQ, pairsOk, apart, ent0]))
            | (apply Wp.cond_lit; (· simp only [go_sem, reduceIte, Nat.reduceEqDiff, Nat.reduceAdd, bx, ax, if_true, if_false, Nat.reduceMul, Nat.reduceLeDiff, g1, g2, h2, h3, h4, h5, e1, e2, sps_length, Int.toNat_natCast, sps_getD _ _ _ hc, sps_getD _ _ _ h6, encSp, ha, hp]; exact rfl); (· rfl))
            | refine Wp.skip ?_
            | refine Wp.label ?_
            | refine Wp.block ?_
            | refine Wp.exit ?_
            | refine Wp.seq ?_)
          refine ⟨j + 1, n + 1, by omega, ⟨by omega, q⟩, by omega, ?_⟩
          refine StLe.tmN (by omega) (OLe.none _) (by simp only [AllSub, go_sem, reduceIte, Nat.reduceEqDiff, Nat.reduceAdd, bx]; and_intros <;> first | exact trivial | exact VSub.refl _ | exact VSub.any _ | (refine VSub.int ?_; omega))
        | false =>
          have q := (key (hq.trans hp)).2 rfl
          repeat (first
            | ((first | apply Wp.seqItems | apply Wp.items | ((first
                | (refine WpItems.pcall ?_ ?_ (has_p (l.getD j default)) ?_; (· simp only [go_sem, reduceIte, Nat.reduceEqDiff, Nat.reduceAdd, bx]); (· simp only [go_sem, reduceIte, Nat.reduceEqDiff, Nat.reduceAdd, bx, List.map]; first | exact VSubs.refl _ | (repeat (first | exact VSubs.nil | refine VSubs.cons (by first | exact VSub.refl _ | assumption | exact VSub.cap | exact VSub.any _) ?_))))
                | (refine WpItems.pcall ?_ ?_ (apart_p (l.getD (j - 1) default) (l.getD j default)) ?_; (· simp only [go_sem, reduceIte, Nat.reduceEqDiff, Nat.reduceAdd, bx]); (· simp only [go_sem, reduceIte, Nat.reduceEqDiff, Nat.reduceAdd, bx, List.map]; first | exact VSubs.refl _ | (repeat (first | exact VSubs.nil | refine VSubs.cons (by first | exact VSub.refl _ | assumption | exact VSub.cap | exact VSub.any _) ?_))))); apply WpItems.eval)); (· simp only [go_sem, reduceIte, Nat.reduceEqDiff, Nat.reduceAdd, bx, ax, if_true, if_false, Nat.reduceMul, Nat.reduceLeDiff, g1, g2, h2, h3, h4, h5, e1, e2, sps_length, Int.toNat_natCast, sps_getD _ _ _ hc, sps_getD _ _ _ h6, encSp, ha, hp]; exact rfl))
            | (refine WpItems.nil ⟨?_, ?_⟩; (· first | trivial | simp [pairsQ, pairsOk, apart, ent0]))
            | (apply Wp.cond_lit; (· simp only [go_sem, reduceIte, Nat.reduceEqDiff, Nat.reduceAdd, bx, ax, if_true, if_false, Nat.reduceMul, Nat.reduceLeDiff, g1, g2, h2, h3, h4, h5, e1, e2, sps_length, Int.toNat_natCast, sps_getD _ _ _ hc, sps_getD _ _ _ h6, encSp, ha, hp]; exact rfl); (· rfl))
            | refine Wp.skip ?_
            | refine Wp.label ?_
            | refine Wp.block ?_
            | refine Wp.exit ?_
            | refine Wp.seq ?_)
          refine Wp.ret ⟨trivial, _, rfl, ?_⟩
          simp only [go_sem, reduceIte, Nat.reduceEqDiff, Nat.reduceAdd, bx]
          simp only [q, Bool.false_eq_true, if_false]
          exact VSub.refl _
  obtain rfl : j = l.length := by omega
  have g1 : decide ((l.length : Int) < (l.length : Int)) = false := decide_eq_false (by omega)
  have hsp : spsOk l = true := all_yes hs
  repeat (first
    | ((first | apply Wp.seqItems | apply Wp.items); (· simp only [go_sem, reduceIte, Nat.reduceEqDiff, Nat.reduceAdd, bx, ax, if_true, if_false, Nat.reduceMul, Nat.reduceLeDiff, g1, strs_length]; exact rfl))
    | (refine WpItems.nil ⟨?_, ?_⟩; (· first | trivial | simp [pairsQ, pairsOk, apart, ent0]))
    | (apply Wp.cond_lit; (· simp only [go_sem, reduceIte, Nat.reduceEqDiff, Nat.reduceAdd, bx, ax, if_true, if_false, Nat.reduceMul, Nat.reduceLeDiff, g1, strs_length]; exact rfl); (· rfl))
    | refine Wp.skip ?_
    | refine Wp.label ?_
    | refine Wp.block ?_
    | refine Wp.exit ?_
    | refine Wp.seq ?_)
  refine Wp.loopN [1, 45, 46] (by simp only [go_sem, reduceIte, Nat.reduceEqDiff, List.map, strs_length]; exact rfl) (fun j : Nat => [(47, .int .i64 j)]) (fun j => j ≤ k.length ∧ ∀ i, i < j → kOk k l i = true) (fun j => k.length - j) 0 ⟨Nat.zero_le _, fun i h => absurd h (by omega)⟩ ?_ ?_
  · simp only [AllSub, go_sem, reduceIte, Nat.reduceEqDiff, Nat.reduceAdd, bx]; and_intros <;> first | exact trivial | exact VSub.refl _ | exact VSub.any _ | (refine VSub.int ?_; omega)
  rintro j n' hn' ⟨hj, hs'⟩
  by_cases hc : j < k.length
  · have g1 : decide ((j : Int) < (k.length : Int)) = true := decide_eq_true (by omega)
    have h2 : (0 : Int) ≤ (j : Int) := by omega
    have h3 : (j : Int) < (k.length : Int) := by omega
    have e1 : IntKind.i64.wrap ((j : Int) + 1) = ((j + 1 : Nat) : Int) := by rw [IntWalk.i64_in _ (by omega)]; omega
    have key : ∀ {b : Bool}, kOk k l j = b → (b = true → ∀ i, i < j + 1 → kOk k l i = true) ∧ (b = false → checkB k l = false) := by
      intro b hb
      refine ⟨fun h i hi => ?_, fun h => ?_⟩
      · by_cases e : i = j
        · subst e; rw [hb, h]
        · exact hs' i (by omega)
      · have : ksOk k l = false := all_no hc (hb.trans h)
        simp [checkB, this]
    have go : ∀ g : Bool, ((decide (j = 0) || Op.bytesLess (k.getD (j - 1) []) (k.getD j [])) = g) → kOk k l j = (g && !spanned l (k.getD j [])) := fun g hg => by simp only [kOk, hg]
    by_cases hz : j = 0
    · have g2 : decide ((0 : Int) < (j : Int)) = false := decide_eq_false (by omega)
      have hg := go true (by simp [hz])
      cases hp : spanned l (k.getD j []) with
      | true =>
        have q := (key (b := false) (by rw [hg, hp]; rfl)).2 rfl
        repeat (first
          | ((first | apply Wp.seqItems | apply Wp.items | ((first
              | (refine WpItems.pcall ?_ ?_ (spanned_p l (by omega) (k.getD j [])) ?_; (· simp only [go_sem, reduceIte, Nat.reduceEqDiff, Nat.reduceAdd, bx]); (· simp only [go_sem, reduceIte, Nat.reduceEqDiff, Nat.reduceAdd, bx, List.map]; first | exact VSubs.refl _ | (repeat (first | exact VSubs.nil | refine VSubs.cons (by first | exact VSub.refl _ | assumption | exact VSub.cap | exact VSub.any _) ?_))))); apply WpItems.eval)); (· simp only [go_sem, reduceIte, Nat.reduceEqDiff, Nat.reduceAdd, bx, ax, if_true, if_false, Nat.reduceMul, Nat.reduceLeDiff, g1, g2, h2, h3, e1, strs_length, Int.toNat_natCast, strs_getD _ _ _ hc, hp]; exact rfl))
          | (refine WpItems.nil ⟨?_, ?_⟩; (· first | trivial | simp [pairsQ, pairsOk, apart, ent0]))
          | (apply Wp.cond_lit; (· simp only [go_sem, reduceIte, Nat.reduceEqDiff, Nat.reduceAdd, bx, ax, if_true, if_false, Nat.reduceMul, Nat.reduceLeDiff, g1, g2, h2, h3, e1, strs_length, Int.toNat_natCast, strs_getD _ _ _ hc, hp]; exact rfl); (· rfl))
          | refine Wp.skip ?_
          | refine Wp.label ?_
          | refine Wp.block ?_
          | refine Wp.exit ?_
          | refine Wp.seq ?_)
        refine Wp.ret ⟨trivial, _, rfl, ?_⟩
        simp only [go_sem, reduceIte, Nat.reduceEqDiff, Nat.reduceAdd, bx]
        simp only [q, Bool.false_eq_true, if_false]
        exact VSub.refl _
      | false =>
        have q := (key (b := true) (by rw [hg, hp]; rfl)).1 rfl
        repeat (first
          | ((first | apply Wp.seqItems | apply Wp.items | ((first
              | (refine WpItems.pcall ?_ ?_ (spanned_p l (by omega) (k.getD j [])) ?_; (· simp only [go_sem, reduceIte, Nat.reduceEqDiff, Nat.reduceAdd, bx]); (· simp only [go_sem, reduceIte, Nat.reduceEqDiff, Nat.reduceAdd, bx, List.map]; first | exact VSubs.refl _ | (repeat (first | exact VSubs.nil | refine VSubs.cons (by first | exact VSub.refl _ | assumption | exact VSub.cap | exact VSub.any _) ?_))))); apply WpItems.eval)); (· simp only [go_sem, reduceIte, Nat.reduceEqDiff, Nat.reduceAdd, bx, ax, if_true, if_false, Nat.reduceMul, Nat.reduceLeDiff, g1, g2, h2, h3, e1, strs_length, Int.toNat_natCast, strs_getD _ _ _ hc, hp]; exact rfl))
          | (refine WpItems.nil ⟨?_, ?_⟩; (· first | trivial | simp [pairsQ, pairsOk, apart, ent0]))
          | (apply Wp.cond_lit; (· simp only [go_sem, reduceIte, Nat.reduceEqDiff, Nat.reduceAdd, bx, ax, if_true, if_false, Nat.reduceMul, Nat.reduceLeDiff, g1, g2, h2, h3, e1, strs_length, Int.toNat_natCast, strs_getD _ _ _ hc, hp]; exact rfl); (· rfl))
          | refine Wp.skip ?_
          | refine Wp.label ?_
          | refine Wp.block ?_
          | refine Wp.exit ?_
          | refine Wp.seq ?_)
        refine ⟨j + 1, n', by omega, ⟨by omega, q⟩, by omega, ?_⟩
        refine StLe.tmN (by omega) (OLe.none _) (by simp only [AllSub, go_sem, reduceIte, Nat.reduceEqDiff, Nat.reduceAdd, bx]; and_intros <;> first | exact trivial | exact VSub.refl _ | exact VSub.any _ | (refine VSub.int ?_; omega))
    · have g2 : decide ((0 : Int) < (j : Int)) = true := decide_eq_true (by omega)
      have e2 : IntKind.i64.wrap ((j : Int) - 1) = ((j - 1 : Nat) : Int) := by rw [IntWalk.i64_in _ (by omega)]; omega
      have h4 : (0 : Int) ≤ ((j - 1 : Nat) : Int) := by omega
      have h5 : ((j - 1 : Nat) : Int) < (k.length : Int) := by omega
      have h6 : j - 1 < k.length := by omega
      have hg := go _ (show _ = Op.bytesLess (k.getD (j - 1) []) (k.getD j []) by simp [hz])
      cases hp : Op.bytesLess (k.getD (j - 1) []) (k.getD j []) with
      | false =>
        have q := (key (b := false) (by rw [hg, hp]; rfl)).2 rfl
        repeat (first
          | ((first | apply Wp.seqItems | apply Wp.items); (· simp only [go_sem, reduceIte, Nat.reduceEqDiff, Nat.reduceAdd, bx, ax, if_true, if_false, Nat.reduceMul, Nat.reduceLeDiff, g1, g2, h2, h3, h4, h5, e1, e2, strs_length, Int.toNat_natCast, strs_getD _ _ _ hc, strs_getD _ _ _ h6, hp]; exact rfl))
          | (refine WpItems.nil ⟨?_, ?_⟩; (· first | trivial | simp [pairsQ, pairsOk, apart, ent0]))
          | (apply Wp.cond_lit; (· simp only [go_sem, reduceIte, Nat.reduceEqDiff, Nat.reduceAdd, bx, ax, if_true, if_false, Nat.reduceMul, Nat.reduceLeDiff, g1, g2, h2, h3, h4, h5, e1, e2, strs_length, Int.toNat_natCast, strs_getD _ _ _ hc, strs_getD _ _ _ h6, hp]; exact rfl); (· rfl))
          | refine Wp.skip ?_
          | refine Wp.label ?_
          | refine Wp.block ?_
          | refine Wp.exit ?_
          | refine Wp.seq ?_)
        refine Wp.ret ⟨trivial, _, rfl, ?_⟩
        simp only [go_sem, reduceIte, Nat.reduceEqDiff, Nat.reduceAdd, bx]
        simp only [q, Bool.false_eq_true, if_false]
        exact VSub.refl _
      | true =>
        cases hp2 : spanned l (k.getD j []) with
        | true =>
          have q := (key (b := false) (by rw [hg, hp, hp2]; rfl)).2 rfl
          repeat (first
            | ((first | apply Wp.seqItems | apply Wp.items | ((first
                | (refine WpItems.pcall ?_ ?_ (spanned_p l (by omega) (k.getD j [])) ?_; (· simp only [go_sem, reduceIte, Nat.reduceEqDiff, Nat.reduceAdd, bx]); (· simp only [go_sem, reduceIte, Nat.reduceEqDiff, Nat.reduceAdd, bx, List.map]; first | exact VSubs.refl _ | (repeat (first | exact VSubs.nil | refine VSubs.cons (by first | exact VSub.refl _ | assumption | exact VSub.cap | exact VSub.any _) ?_))))); apply WpItems.eval)); (· simp only [go_sem, reduceIte, Nat.reduceEqDiff, Nat.reduceAdd, bx, ax, if_true, if_false, Nat.reduceMul, Nat.reduceLeDiff, g1, g2, h2, h3, h4, h5, e1, e2, strs_length, Int.toNat_natCast, strs_getD _ _ _ hc, strs_getD _ _ _ h6, hp, hp2]; exact rfl))
            | (refine WpItems.nil ⟨?_, ?_⟩; (· first | trivial | simp [pairsQ, pairsOk, apart, ent0]))
            | (apply Wp.cond_lit; (· simp only [go_sem, reduceIte, Nat.reduceEqDiff, Nat.reduceAdd, bx, ax, if_true, if_false, Nat.reduceMul, Nat.reduceLeDiff, g1, g2, h2, h3, h4, h5, e1, e2, strs_length, Int.toNat_natCast, strs_getD _ _ _ hc, strs_getD _ _ _ h6, hp, hp2]; exact rfl); (· rfl))
            | refine Wp.skip ?_
            | refine Wp.label ?_
            | refine Wp.block ?_
            | refine Wp.exit ?_
            | refine Wp.seq ?_)
          refine Wp.ret ⟨trivial, _, rfl, ?_⟩
          simp only [go_sem, reduceIte, Nat.reduceEqDiff, Nat.reduceAdd, bx]
          simp only [q, Bool.false_eq_true, if_false]
          exact VSub.refl _
        | false =>
          have q := (key (b := true) (by rw [hg, hp, hp2]; rfl)).1 rfl
          repeat (first
            | ((first | apply Wp.seqItems | apply Wp.items | ((first
                | (refine WpItems.pcall ?_ ?_ (spanned_p l (by omega) (k.getD j [])) ?_; (· simp only [go_sem, reduceIte, Nat.reduceEqDiff, Nat.reduceAdd, bx]); (· simp only [go_sem, reduceIte, Nat.reduceEqDiff, Nat.reduceAdd, bx, List.map]; first | exact VSubs.refl _ | (repeat (first | exact VSubs.nil | refine VSubs.cons (by first | exact VSub.refl _ | assumption | exact VSub.cap | exact VSub.any _) ?_))))); apply WpItems.eval)); (· simp only [go_sem, reduceIte, Nat.reduceEqDiff, Nat.reduceAdd, bx, ax, if_true, if_false, Nat.reduceMul, Nat.reduceLeDiff, g1, g2, h2, h3, h4, h5, e1, e2, strs_length, Int.toNat_natCast, strs_getD _ _ _ hc, strs_getD _ _ _ h6, hp, hp2]; exact rfl))
            | (refine WpItems.nil ⟨?_, ?_⟩; (· first | trivial | simp [pairsQ, pairsOk, apart, ent0]))
            | (apply Wp.cond_lit; (· simp only [go_sem, reduceIte, Nat.reduceEqDiff, Nat.reduceAdd, bx, ax, if_true, if_false, Nat.reduceMul, Nat.reduceLeDiff, g1, g2, h2, h3, h4, h5, e1, e2, strs_length, Int.toNat_natCast, strs_getD _ _ _ hc, strs_getD _ _ _ h6, hp, hp2]; exact rfl); (· rfl))
            | refine Wp.skip ?_
            | refine Wp.label ?_
            | refine Wp.block ?_
            | refine Wp.exit ?_
            | refine Wp.seq ?_)
          refine ⟨j + 1, n', by omega, ⟨by omega, q⟩, by omega, ?_⟩
          refine StLe.tmN (by omega) (OLe.none _) (by simp only [AllSub, go_sem, reduceIte, Nat.reduceEqDiff, Nat.reduceAdd, bx]; and_intros <;> first | exact trivial | exact VSub.refl _ | exact VSub.any _ | (refine VSub.int ?_; omega))
  obtain rfl : j = k.length := by omega
  have g1 : decide ((k.length : Int) < (k.length : Int)) = false := decide_eq_false (by omega)
  have hk : ksOk k l = true := all_yes hs'
  repeat (first
    | ((first | apply Wp.seqItems | apply Wp.items); (· simp only [go_sem, reduceIte, Nat.reduceEqDiff, Nat.reduceAdd, bx, ax, if_true, if_false, Nat.reduceMul, Nat.reduceLeDiff, g1]; exact rfl))
    | (refine WpItems.nil ⟨?_, ?_⟩; (· first | trivial | simp [pairsQ, pairsOk, apart, ent0]))
    | (apply Wp.cond_lit; (· simp only [go_sem, reduceIte, Nat.reduceEqDiff, Nat.reduceAdd, bx, ax, if_true, if_false, Nat.reduceMul, Nat.reduceLeDiff, g1]; exact rfl); (· rfl))
    | refine Wp.skip ?_
    | refine Wp.label ?_
    | refine Wp.block ?_
    | refine Wp.exit ?_
    | refine Wp.seq ?_)
  refine Wp.ret ⟨trivial, _, rfl, ?_⟩
  simp only [go_sem, reduceIte, Nat.reduceEqDiff, Nat.reduceAdd, bx]
  simp only [checkB, decide_eq_true b1, decide_eq_true b2, hsp, hk, Bool.and_self, if_true]
  exact VSub.refl _
end Go.Proofs.YtkcgpcbpieofnaaGreatDoor.Reads
end
section
set_option linter.unusedSimpArgs false
set_option linter.unusedVariables false
set_option maxRecDepth 10000
namespace Go.Proofs.YtkcgpcbpieofnaaGreatDoor.Reads
open Go Go.Av Go.Proofs Go.Proofs.YtkcgpcbpieofnaaGreatDoor.C Go.Proofs.YtkcgpcbpieofnaaGreatDoor.Batch
def madeB (ks : List Bs) (l : List Sp) : List Bs × List Sp × Int :=
  if decide ((ks.filter fun x => !spanned l x).length ≤ 64) && decide (l.length ≤ 64) then (ks.filter fun x => !spanned l x, l, 0) else ([], [], 9)
def encO (o : List Bs × List Sp × Int) : AV := .tup [encR o.1 o.2.1, .int .i64 o.2.2]
theorem encO_pure (o : List Bs × List Sp × Int) : isPure (encO o) = true := by simp [encO, isPure, allPure, encR_pure]
theorem nil_sub (e : Int) : VSub (.tup [.agg [.sl 1 [] (.exact 0), .sl 2 [] (.exact 0)], .int .i64 e]) (encO ([], [], e)) :=
  VSub.tup (VSubs.cons (VSub.agg (VSubs.cons VSub.cap (VSubs.cons VSub.cap VSubs.nil))) (VSubs.refl _))
theorem del0_p {g : FuncId} {fn : Func} (hf : Tryz.prog.funcs[g]? = some fn) (hb : fn.body.isSome = true) (hn : fn.name ≠ "runtime.NumGoroutine") (caps : List AV) (hc : allPure caps = true) :
    PCalls Tryz.prog 200 [.sl 1 [] (.exact 0), .clo (.func g) [] caps] (.sl 1 [] .any) := by
  refine f200.pcalls0 (by simp) (by simp [allPure, isPure, capPure, hc]) rfl ?_
  unfold c200
  have h0 := indexStr_p [] (by simp) (fun _ => false) hf hb hn caps hc (by simp)
  have e : ix (fun _ : Bs => false) [] = -1 := rfl
  have d1 : decide ((-1 : Int) = -1) = true := rfl
  rw [e] at h0
  have hs : VSubs [AV.sl 1 [] (.exact 0), .clo (.func g) [] caps] [.sl 1 (strs []) .any, .clo (.func g) [] caps] := VSubs.cons VSub.cap (VSubs.refl _)
  repeat (first
    | ((first | apply Wp.seqItems | apply Wp.items | ((first
        | (refine WpItems.pcall ?_ ?_ (h0) ?_; (· simp only [go_sem, reduceIte, Nat.reduceEqDiff, Nat.reduceAdd, bx]); (· simp only [go_sem, reduceIte, Nat.reduceEqDiff, Nat.reduceAdd, bx, List.map]; exact hs))); apply WpItems.eval)); (· simp only [go_sem, reduceIte, Nat.reduceEqDiff, Nat.reduceAdd, bx, ax, if_true, if_false, Nat.reduceMul, Nat.reduceLeDiff, d1]; exact rfl))
    | (refine WpItems.nil ⟨?_, ?_⟩; (· first | trivial | simp [pairsQ, pairsOk, apart, ent0]))
    | (apply Wp.cond_lit; (· simp only [go_sem, reduceIte, Nat.reduceEqDiff, Nat.reduceAdd, bx, ax, if_true, if_false, Nat.reduceMul, Nat.reduceLeDiff, d1]; exact rfl); (· rfl))
    | refine Wp.skip ?_
    | refine Wp.label ?_
    | refine Wp.block ?_
    | refine Wp.exit ?_
    | refine Wp.seq ?_)
  refine Wp.ret ⟨trivial, _, rfl, ?_⟩
  simp only [go_sem, reduceIte, Nat.reduceEqDiff, Nat.reduceAdd, bx]
  exact VSub.cap
theorem made0_p (l : List Sp) (hl : l.length ≤ 4611686018427387904) : PCalls Tryz.prog 159 [.sl 1 [] (.exact 0), .sl 2 (sps l) .any] (encO (madeB [] l)) := by
  refine f159.pcalls0 (by simp) (by simp [allPure, isPure, capPure, sps_pure]) (encO_pure _) ?_
  unfold c159
  refine Wp.seqReg (by simp only [go_sem, reduceIte, Nat.reduceEqDiff, Nat.reduceAdd, bx]; exact rfl) (by trivial) ?_
  refine Wp.frz (fun j => j == 0) [(0, .sl 1 [] (.exact 0)), (3, .ref [.sl 2 (sps l) .any]), (4, .ptr 1 0)] ⟨upd none' 1 (some (.cells [.sl 1 [] (.exact 0), .sl 2 [] (.exact 0)])), 2, [], 0⟩ ?_ ?_ (by simp) (by simp [go_sem]) (Nat.le_refl _) ?_
  · simp only [AllSub, go_sem, reduceIte, Nat.reduceEqDiff, unT, and_true, beq_self_eq_true, Nat.reduceBEq, Bool.false_eq_true]
    and_intros <;> exact VSub.refl _
  · intro j o h
    show ∃ o', _ ∧ OSub o' o
    refine ⟨o, ?_, OSub.refl o⟩
    simp only [upd, none'] at h
    split at h
    · rename_i e; subst e; cases h; simp [H.drop, upd]
    · cases h
  by_cases b2 : l.length ≤ 64
  · have d1 : decide ((64 : Int) < ((0 : Nat) : Int)) = false := rfl
    have d2 : decide ((64 : Int) < (l.length : Int)) = false := decide_eq_false (by omega)
    repeat (first
      | ((first | apply Wp.seqItems | apply Wp.items | ((first
          | (refine WpItems.pcall ?_ ?_ (del0_p (caps := [.ref [.sl 2 (sps l) .any]]) Tryz.func201 rfl (of_decide_eq_true (by kernel_rfl)) (by simp [allPure, isPure, capPure, sps_pure])) ?_; (· simp only [go_sem, reduceIte, Nat.reduceEqDiff, Nat.reduceAdd, bx]); (· simp only [go_sem, reduceIte, Nat.reduceEqDiff, Nat.reduceAdd, bx, List.map]; first | exact VSubs.refl _ | (repeat (first | exact VSubs.nil | refine VSubs.cons (by first | exact VSub.refl _ | assumption | exact VSub.cap | exact VSub.any _) ?_))))); apply WpItems.eval)); (· simp only [go_sem, reduceIte, Nat.reduceEqDiff, Nat.reduceAdd, bx, ax, if_true, if_false, Nat.reduceMul, Nat.reduceLeDiff, d1, d2, sps_length]; exact rfl))
      | (refine WpItems.nil ⟨?_, ?_⟩; (· first | trivial | simp [pairsQ, pairsOk, apart, ent0]))
      | (apply Wp.cond_lit; (· simp only [go_sem, reduceIte, Nat.reduceEqDiff, Nat.reduceAdd, bx, ax, if_true, if_false, Nat.reduceMul, Nat.reduceLeDiff, d1, d2, sps_length]; exact rfl); (· rfl))
      | refine Wp.skip ?_
      | refine Wp.label ?_
      | refine Wp.block ?_
      | refine Wp.exit ?_
      | refine Wp.seq ?_)
    refine Wp.ret ⟨trivial, _, rfl, ?_⟩
    simp only [go_sem, reduceIte, Nat.reduceEqDiff, Nat.reduceAdd, bx]
    simp only [madeB, List.filter_nil, List.length_nil, Nat.zero_le, decide_true, b2, Bool.and_self, if_true]
    exact VSub.refl _
  · have d1 : decide ((64 : Int) < ((0 : Nat) : Int)) = false := rfl
    have d2 : decide ((64 : Int) < (l.length : Int)) = true := decide_eq_true (by omega)
    repeat (first
      | ((first | apply Wp.seqItems | apply Wp.items | ((first
          | (refine WpItems.pcall ?_ ?_ (del0_p (caps := [.ref [.sl 2 (sps l) .any]]) Tryz.func201 rfl (of_decide_eq_true (by kernel_rfl)) (by simp [allPure, isPure, capPure, sps_pure])) ?_; (· simp only [go_sem, reduceIte, Nat.reduceEqDiff, Nat.reduceAdd, bx]); (· simp only [go_sem, reduceIte, Nat.reduceEqDiff, Nat.reduceAdd, bx, List.map]; first | exact VSubs.refl _ | (repeat (first | exact VSubs.nil | refine VSubs.cons (by first | exact VSub.refl _ | assumption | exact VSub.cap | exact VSub.any _) ?_))))); apply WpItems.eval)); (· simp only [go_sem, reduceIte, Nat.reduceEqDiff, Nat.reduceAdd, bx, ax, if_true, if_false, Nat.reduceMul, Nat.reduceLeDiff, d1, d2, sps_length]; exact rfl))
      | (refine WpItems.nil ⟨?_, ?_⟩; (· first | trivial | simp [pairsQ, pairsOk, apart, ent0]))
      | (apply Wp.cond_lit; (· simp only [go_sem, reduceIte, Nat.reduceEqDiff, Nat.reduceAdd, bx, ax, if_true, if_false, Nat.reduceMul, Nat.reduceLeDiff, d1, d2, sps_length]; exact rfl); (· rfl))
      | refine Wp.skip ?_
      | refine Wp.label ?_
      | refine Wp.block ?_
      | refine Wp.exit ?_
      | refine Wp.seq ?_)
    refine Wp.ret ⟨trivial, _, rfl, ?_⟩
    simp only [go_sem, reduceIte, Nat.reduceEqDiff, Nat.reduceAdd, bx]
    simp only [madeB, List.filter_nil, List.length_nil, Nat.zero_le, decide_true, decide_eq_false b2, Bool.and_false, Bool.false_eq_true, if_false]
    exact nil_sub 9
theorem made_p (ks : List Bs) (hk : ks.length ≤ 1152921504606846976) (l : List Sp) (hl : l.length ≤ 4611686018427387904) : DCalls Tryz.prog 159 (strs ks) ks.length [.sl 2 (sps l) .any] (encO (madeB ks l)) := by
  refine f159.dcalls (by simp) (strs_pure _) (by simp [allPure, isPure, capPure, sps_pure]) (encO_pure _) ?_
  unfold c159
  refine Wp.seqReg (by simp only [go_sem, reduceIte, Nat.reduceEqDiff, Nat.reduceAdd, bx]; exact rfl) (by trivial) ?_
  refine Wp.frz (fun j => j == 1) [(0, .tsl 1 0 0 ks.length none), (3, .ref [.sl 2 (sps l) .any]), (4, .ptr 2 0)] ⟨upd (upd none' 0 (some (.cells (strs ks)))) 2 (some (.cells [.sl 1 [] (.exact 0), .sl 2 [] (.exact 0)])), 3, [], 0⟩ ?_ ?_ (by simp) (by simp [go_sem]) (Nat.le_refl _) ?_
  · simp only [AllSub, go_sem, reduceIte, Nat.reduceEqDiff, unT, and_true, beq_self_eq_true, Nat.reduceBEq, Bool.false_eq_true, and_false]
    and_intros <;> exact VSub.refl _
  · intro j o h
    show ∃ o', _ ∧ OSub o' o
    refine ⟨o, ?_, OSub.refl o⟩
    simp only [upd, none'] at h
    split at h
    · rename_i e; subst e; cases h; simp [H.drop, H.only, upd]
    · split at h
      · rename_i e; subst e; cases h; simp [H.drop, H.only, upd]
      · cases h
  refine Wp.seqItems (by simp only [go_sem, reduceIte, Nat.reduceEqDiff, Nat.reduceAdd, bx]; exact rfl) ?_
  refine WpItems.dcall 0 (by simp only [go_sem]) (by simp only [go_sem, reduceIte, Nat.reduceEqDiff, List.map]; exact VSubs.refl _) (del_p ks hk (spanned l) (caps := [.ref [.sl 2 (sps l) .any]]) Tryz.func201 rfl (of_decide_eq_true (by kernel_rfl)) (by simp [allPure, isPure, capPure, sps_pure]) (fun c _ => made1_p l hl c)) (by simp [upd]) (by simp) ?_
  refine WpItems.eval (by simp only [go_sem, reduceIte, Nat.reduceEqDiff, Nat.reduceAdd, bx]; exact rfl) ?_
  refine WpItems.nil ⟨by trivial, ?_⟩
  have hf : (ks.filter fun x => !spanned l x).length ≤ ks.length := List.length_filter_le _ _
  generalize hg : ks.filter (fun x => !spanned l x) = k2 at hf
  have hB : madeB ks l = if decide (k2.length ≤ 64) && decide (l.length ≤ 64) then (k2, l, 0) else ([], [], 9) := by rw [madeB, hg]
  rw [hB]
  by_cases b1 : k2.length ≤ 64
  · have d1 : decide ((64 : Int) < (k2.length : Int)) = false := decide_eq_false (by omega)
    by_cases b2 : l.length ≤ 64
    · have d2 : decide ((64 : Int) < (l.length : Int)) = false := decide_eq_false (by omega)
      repeat (first
        | ((first | apply Wp.seqItems | apply Wp.items); (· simp only [go_sem, reduceIte, Nat.reduceEqDiff, Nat.reduceAdd, bx, ax, if_true, if_false, Nat.reduceMul, Nat.reduceLeDiff, d1, d2, sps_length, strs_length]; exact rfl))
        | (refine WpItems.nil ⟨?_, ?_⟩; (· first | trivial | simp [pairsQ, pairsOk, apart, ent0]))
        | (apply Wp.cond_lit; (· simp only [go_sem, reduceIte, Nat.reduceEqDiff, Nat.reduceAdd, bx, ax, if_true, if_false, Nat.reduceMul, Nat.reduceLeDiff, d1, d2, sps_length, strs_length]; exact rfl); (· rfl))
        | refine Wp.skip ?_
        | refine Wp.label ?_
        | refine Wp.block ?_
        | refine Wp.exit ?_
        | refine Wp.seq ?_)
      refine Wp.ret ⟨trivial, _, rfl, ?_⟩
      simp only [go_sem, reduceIte, Nat.reduceEqDiff, Nat.reduceAdd, bx, unT, unTs]
      simp only [b1, b2, decide_true, Bool.and_self, if_true]
      exact VSub.refl _
    · have d2 : decide ((64 : Int) < (l.length : Int)) = true := decide_eq_true (by omega)
      repeat (first
        | ((first | apply Wp.seqItems | apply Wp.items); (· simp only [go_sem, reduceIte, Nat.reduceEqDiff, Nat.reduceAdd, bx, ax, if_true, if_false, Nat.reduceMul, Nat.reduceLeDiff, d1, d2, sps_length, strs_length]; exact rfl))
        | (refine WpItems.nil ⟨?_, ?_⟩; (· first | trivial | simp [pairsQ, pairsOk, apart, ent0]))
        | (apply Wp.cond_lit; (· simp only [go_sem, reduceIte, Nat.reduceEqDiff, Nat.reduceAdd, bx, ax, if_true, if_false, Nat.reduceMul, Nat.reduceLeDiff, d1, d2, sps_length, strs_length]; exact rfl); (· rfl))
        | refine Wp.skip ?_
        | refine Wp.label ?_
        | refine Wp.block ?_
        | refine Wp.exit ?_
        | refine Wp.seq ?_)
      refine Wp.ret ⟨trivial, _, rfl, ?_⟩
      simp only [go_sem, reduceIte, Nat.reduceEqDiff, Nat.reduceAdd, bx, unT, unTs]
      simp only [decide_eq_false b2, Bool.and_false, Bool.false_eq_true, if_false]
      exact nil_sub 9
  · have d1 : decide ((64 : Int) < (k2.length : Int)) = true := decide_eq_true (by omega)
    repeat (first
      | ((first | apply Wp.seqItems | apply Wp.items); (· simp only [go_sem, reduceIte, Nat.reduceEqDiff, Nat.reduceAdd, bx, ax, if_true, if_false, Nat.reduceMul, Nat.reduceLeDiff, d1, sps_length, strs_length]; exact rfl))
      | (refine WpItems.nil ⟨?_, ?_⟩; (· first | trivial | simp [pairsQ, pairsOk, apart, ent0]))
      | (apply Wp.cond_lit; (· simp only [go_sem, reduceIte, Nat.reduceEqDiff, Nat.reduceAdd, bx, ax, if_true, if_false, Nat.reduceMul, Nat.reduceLeDiff, d1, sps_length, strs_length]; exact rfl); (· rfl))
      | refine Wp.skip ?_
      | refine Wp.label ?_
      | refine Wp.block ?_
      | refine Wp.exit ?_
      | refine Wp.seq ?_)
    refine Wp.ret ⟨trivial, _, rfl, ?_⟩
    simp only [go_sem, reduceIte, Nat.reduceEqDiff, Nat.reduceAdd, bx, unT, unTs]
    simp only [decide_eq_false b1, Bool.false_and, Bool.false_eq_true, if_false]
    exact nil_sub 9
theorem rising {k : List Bs} {l : List Sp} (h : ksOk k l = true) {i : Nat} : ∀ {j}, i < j → j < k.length → Op.bytesLess (k.getD i []) (k.getD j []) = true
  | 0, hij, _ => absurd hij (by omega)
  | j + 1, hij, hj => by
    have h1 := List.all_eq_true.1 h (j + 1) (List.mem_range.2 hj)
    simp only [kOk, Nat.add_sub_cancel, Bool.and_eq_true, Bool.or_eq_true, decide_eq_true_eq] at h1
    have h2 : Op.bytesLess (k.getD j []) (k.getD (j + 1) []) = true := by
      rcases h1.1 with e | e
      · omega
      · exact e
    by_cases e : i = j
    · subst e; exact h2
    · exact less_trans (rising h (i := i) (j := j) (by omega) (by omega)) h2
def place (k : List Bs) (key : Bs) : Nat := k.findIdx fun x => !Op.bytesLess x key
def there (k : List Bs) (key : Bs) : Bool := decide (place k key < k.length) && decide (k.getD (place k key) [] = key)
theorem place_le (k : List Bs) (key : Bs) : place k key ≤ k.length := List.findIdx_le_length
theorem place_lt {k : List Bs} {key : Bs} {i : Nat} (h : i < place k key) : Op.bytesLess (k.getD i []) key = true := by
  have hl : i < k.length := Nat.lt_of_lt_of_le h (place_le k key)
  have := List.not_of_lt_findIdx h
  rw [getD_el hl]
  simpa using this
theorem place_ge {k : List Bs} {l : List Sp} {key : Bs} (hk : ksOk k l = true) {i : Nat} (h : place k key ≤ i) (hl : i < k.length) : Op.bytesLess (k.getD i []) key = false := by
  have hp : place k key < k.length := Nat.lt_of_le_of_lt h hl
  have h1 : Op.bytesLess (k.getD (place k key) []) key = false := by
    have := List.findIdx_getElem (p := fun x => !Op.bytesLess x key) (xs := k) (w := hp)
    rw [getD_el hp]
    have h2 : (!Op.bytesLess (k[place k key]'hp) key) = true := this
    simpa using h2
  by_cases e : i = place k key
  · rw [e]; exact h1
  · have h2 := rising hk (i := place k key) (j := i) (by omega) hl
    cases hc : Op.bytesLess (k.getD i []) key with
    | false => rfl
    | true => rw [less_trans h2 hc] at h1; cases h1
theorem search_p {k : List Bs} {l : List Sp} (hk : ksOk k l = true) (hl : k.length ≤ 64) (key : Bs) : PCalls Tryz.prog 155 [.sl 1 (strs k) .any, .str key] (.tup [.int .i64 (place k key), .bool (there k key)]) :=
  bsearch_p k (by omega) key (place k key) (place_le k key) (fun i h => place_lt h) (fun i h hi => place_ge hk h hi)
end Go.Proofs.YtkcgpcbpieofnaaGreatDoor.Reads
end
section
set_option linter.unusedSimpArgs false
set_option linter.unusedVariables false
set_option maxRecDepth 10000
namespace Go.Proofs.YtkcgpcbpieofnaaGreatDoor.Reads
open Go Go.Av Go.Proofs Go.Proofs.YtkcgpcbpieofnaaGreatDoor.C Go.Proofs.YtkcgpcbpieofnaaGreatDoor.Batch
def insK (k : List Bs) (key : Bs) : List Bs := if there k key then k else k.take (place k key) ++ key :: k.drop (place k key)
def keyB (k : List Bs) (l : List Sp) (key : Bs) : List Bs × List Sp × Int := if checkB k l then madeB (insK k key) l else ([], [], 4)
theorem strs_cells (l : List Bs) : (strs l).flatMap cellsOf = strs l := by
  induction l with
  | nil => rfl
  | cons s l ih => simp only [strs, List.map_cons, List.flatMap_cons] at ih ⊢; rw [ih]; rfl
theorem strs_shaped (l : List Bs) : (strs l).all shaped = true := by
  simp [strs, shaped, isCell]
theorem cloneK_p (k : List Bs) (h0 : k ≠ []) (hl : k.length ≤ 1000000) (n m : Nat) : ACalls Tryz.prog 160 [.sl 1 (strs k) .any] (H0 n m) (.tsl 1 n 0 k.length none) (.only (upd none' n (some (.cells (strs k)))) [] (n + 1) m) := by
  cases k with
  | nil => exact absurd rfl h0
  | cons s k =>
    have := cloneT_gen (sz := 1) (bytes := 16) f160 (.str s) (strs k) (strs_shaped (s :: k)) (by rw [strs_length]; simp only [List.length_cons] at hl; omega) (by rw [strs_length]; simp only [List.length_cons] at hl; omega) n m
    rw [strs_length] at this
    have e : (AV.str s :: strs k).flatMap cellsOf = strs (s :: k) := strs_cells (s :: k)
    rw [e] at this
    exact this
theorem cloneS_p (l : List Sp) (hl : l.length ≤ 1000000) : PCalls Tryz.prog 157 [.sl 2 (sps l) .any] (.sl 2 (sps l) .any) :=
  clone_gen (sz := 2) (bytes := 32) f157 (sps l) (sps_pure l) (by rw [sps_length]; omega) (by rw [sps_length]; omega)
theorem check_ok {k : List Bs} {l : List Sp} (h : checkB k l = true) : k.length ≤ 64 ∧ l.length ≤ 64 ∧ spsOk l = true ∧ ksOk k l = true := by
  simp only [checkB, Bool.and_eq_true, decide_eq_true_eq] at h
  exact ⟨h.1.1.1, h.1.1.2, h.1.2, h.2⟩
theorem key_p (k : List Bs) (l : List Sp) (key : Bs) : PCalls Tryz.prog 169 [encR k l, .str key] (encO (keyB k l key)) := by
  refine f169.pcallsF (by simp) (by simp [allPure, encR_pure, isPure]) (encO_pure _) ?_
  unfold c169
  have hck := check_p k l
  cases hc : checkB k l with
  | false =>
    rw [hc] at hck
    simp only [Bool.false_eq_true, if_false] at hck
    have d1 : decide ((4 : Int) = 0) = false := rfl
    repeat (first
      | ((first | apply Wp.seqItems | apply Wp.items | ((first
          | (refine WpItems.pcall ?_ ?_ (hck) ?_; (· simp only [go_sem, reduceIte, Nat.reduceEqDiff, Nat.reduceAdd, bx]); (· simp only [go_sem, reduceIte, Nat.reduceEqDiff, Nat.reduceAdd, bx, List.map]; first | exact VSubs.refl _ | (repeat (first | exact VSubs.nil | refine VSubs.cons (by first | exact VSub.refl _ | assumption | exact VSub.cap | exact VSub.any _) ?_))))); apply WpItems.eval)); (· simp only [go_sem, reduceIte, Nat.reduceEqDiff, Nat.reduceAdd, bx, ax, if_true, if_false, Nat.reduceMul, Nat.reduceLeDiff, encR, d1]; exact rfl))
      | (refine WpItems.nil ⟨?_, ?_⟩; (· first | trivial | simp [pairsQ, pairsOk, apart, ent0]))
      | (apply Wp.cond_lit; (· simp only [go_sem, reduceIte, Nat.reduceEqDiff, Nat.reduceAdd, bx, ax, if_true, if_false, Nat.reduceMul, Nat.reduceLeDiff, encR, d1]; exact rfl); (· rfl))
      | refine Wp.skip ?_
      | refine Wp.label ?_
      | refine Wp.block ?_
      | refine Wp.exit ?_
      | refine Wp.seq ?_)
    refine Wp.ret ⟨trivial, _, rfl, ?_⟩
    simp only [go_sem, reduceIte, Nat.reduceEqDiff, Nat.reduceAdd, bx, unT, unTs]
    simp only [keyB, hc, Bool.false_eq_true, if_false]
    exact nil_sub 4
  | true =>
    rw [hc] at hck
    simp only [if_true] at hck
    have d1 : decide ((0 : Int) = 0) = true := rfl
    obtain ⟨b1, b2, b3, b4⟩ := check_ok hc
    have hse := search_p b4 b1 key
    have hpl := place_le k key
    rw [show keyB k l key = madeB (insK k key) l by simp [keyB, hc]]
    repeat (first
      | ((first | apply Wp.seqItems | apply Wp.items | ((first
          | (refine WpItems.pcall ?_ ?_ (hck) ?_; (· simp only [go_sem, reduceIte, Nat.reduceEqDiff, Nat.reduceAdd, bx]); (· simp only [go_sem, reduceIte, Nat.reduceEqDiff, Nat.reduceAdd, bx, List.map]; first | exact VSubs.refl _ | (repeat (first | exact VSubs.nil | refine VSubs.cons (by first | exact VSub.refl _ | assumption | exact VSub.cap | exact VSub.any _) ?_))))); apply WpItems.eval)); (· simp only [go_sem, reduceIte, Nat.reduceEqDiff, Nat.reduceAdd, bx, ax, if_true, if_false, Nat.reduceMul, Nat.reduceLeDiff, encR, d1]; exact rfl))
      | (refine WpItems.nil ⟨?_, ?_⟩; (· first | trivial | simp [pairsQ, pairsOk, apart, ent0]))
      | (apply Wp.cond_lit; (· simp only [go_sem, reduceIte, Nat.reduceEqDiff, Nat.reduceAdd, bx, ax, if_true, if_false, Nat.reduceMul, Nat.reduceLeDiff, encR, d1]; exact rfl); (· rfl))
      | refine Wp.skip ?_
      | refine Wp.label ?_
      | refine Wp.block ?_
      | refine Wp.exit ?_
      | refine Wp.seq ?_)
    by_cases hk0 : k = []
    · subst hk0
      refine WpItems.pcall (by simp only [go_sem]) (by simp only [go_sem, reduceIte, Nat.reduceEqDiff, List.map]; exact VSubs.refl _) (cloneE_gen (sz := 1) (bytes := 16) f160) ?_
      refine WpItems.eval (by simp only [go_sem, reduceIte, Nat.reduceEqDiff, Nat.reduceAdd, bx]; exact rfl) ?_
      refine WpItems.nil ⟨by trivial, ?_⟩
      refine Wp.seq ?_
      refine Wp.seqItems (by simp only [go_sem, reduceIte, Nat.reduceEqDiff, Nat.reduceAdd, bx]; exact rfl) ?_
      refine WpItems.pcall (by simp only [go_sem]) (by simp only [go_sem, reduceIte, Nat.reduceEqDiff, List.map]; exact VSubs.cons VSub.cap (VSubs.refl _)) hse ?_
      refine WpItems.eval (by simp only [go_sem, reduceIte, Nat.reduceEqDiff, Nat.reduceAdd, bx]; exact rfl) ?_
      refine WpItems.nil ⟨by trivial, ?_⟩
      have ht : there [] key = false := rfl
      have hp0 : place [] key = 0 := rfl
      have e : insK [] key = [key] := rfl
      rw [e, ht, hp0]
      refine Wp.seqReg (by simp only [go_sem, reduceIte, Nat.reduceEqDiff, Nat.reduceAdd, bx]; exact rfl) (by trivial) ?_
      refine Wp.cond_true (by simp only [go_sem, reduceIte, Nat.reduceEqDiff, Nat.reduceAdd, bx]) ?_
      refine Wp.regN ?_
      refine WpItemsN.op (by simp only [go_sem, reduceIte, Nat.reduceEqDiff, Nat.reduceAdd, bx]) (by simp only [go_sem, reduceIte, Nat.reduceEqDiff, Nat.reduceAdd, bx]; exact rfl) ?_
      refine WpItemsN.op (by simp only [go_sem, reduceIte, Nat.reduceEqDiff, Nat.reduceAdd, bx]) (by simp only [go_sem, reduceIte, Nat.reduceEqDiff, Nat.reduceAdd, bx]; exact rfl) ?_
      refine WpItemsN.op (by simp only [go_sem, reduceIte, Nat.reduceEqDiff, Nat.reduceAdd, bx]) (by simp only [go_sem, reduceIte, Nat.reduceEqDiff, Nat.reduceAdd, bx]; exact rfl) ?_
      refine WpItemsN.opT (by simp only [go_sem, reduceIte, Nat.reduceEqDiff, Nat.reduceAdd, bx]) (by simp only [aopT, go_sem, reduceIte, Nat.reduceEqDiff, Nat.reduceAdd, bx, List.all_cons, List.all_nil, List.length_cons, List.length_nil, Nat.reduceMul, Nat.reduceLeDiff, and_self, if_true, decide_true, Bool.and_self]; exact rfl) ?_
      refine WpItemsN.acall (by simp only [go_sem]) (by simp only [go_sem, reduceIte, Nat.reduceEqDiff, List.map]; exact VSubs.refl _) (insert_e key (id2 := 2) (h := .only (upd none' 2 (some (.cells [.str key]))) [] 3 0) (by simp [H.only, upd]) rfl) (touch_turn _ (id := 2) (ob := .cells [.str key]) (by simp [upd, cellsOf]) (by simp)) ?_
      refine WpItemsN.op (by simp only [go_sem, reduceIte, Nat.reduceEqDiff, Nat.reduceAdd, bx]) (by simp only [go_sem, reduceIte, Nat.reduceEqDiff, Nat.reduceAdd, bx]; exact rfl) ?_
      refine WpItems.toN (log := []) (WpItems.nil ?_)
      refine Wp.seqItems (by simp only [go_sem, reduceIte, Nat.reduceEqDiff, Nat.reduceAdd, bx, H.turn]; exact rfl) ?_
      refine WpItems.pcall (by simp only [go_sem, reduceIte, Nat.reduceEqDiff, Nat.reduceAdd, bx]) (by simp only [go_sem, reduceIte, Nat.reduceEqDiff, Nat.reduceAdd, bx, List.map]; exact VSubs.refl _) (cloneS_p l (by omega)) ?_
      refine WpItems.eval (by simp only [go_sem, reduceIte, Nat.reduceEqDiff, Nat.reduceAdd, bx]; exact rfl) ?_
      refine WpItems.dcall 3 (by simp only [go_sem]) (by simp only [go_sem, reduceIte, Nat.reduceEqDiff, List.map]; exact VSubs.refl _) (made_p [key] (by simp) l (by omega)) (by simp [upd]) (by simp) ?_
      refine WpItems.eval (by simp only [go_sem, reduceIte, Nat.reduceEqDiff, Nat.reduceAdd, bx, encO, encR]; exact rfl) ?_
      refine WpItems.nil ⟨by trivial, ?_⟩
      refine Wp.ret ⟨trivial, _, rfl, ?_⟩
      simp only [go_sem, reduceIte, Nat.reduceEqDiff, Nat.reduceAdd, bx, unT, unTs]
      exact VSub.refl _
    · refine WpItems.acall (by simp only [go_sem]) (by simp only [go_sem, reduceIte, Nat.reduceEqDiff, List.map]; exact VSubs.refl _) (cloneK_p k hk0 (by omega) _ _) (touch_new _ _) ?_
      refine WpItems.eval (by simp only [go_sem, reduceIte, Nat.reduceEqDiff, Nat.reduceAdd, bx]; exact rfl) ?_
      refine WpItems.nil ⟨by trivial, ?_⟩
      refine Wp.seq ?_
      refine Wp.seqItems (by simp only [go_sem, reduceIte, Nat.reduceEqDiff, Nat.reduceAdd, bx]; exact rfl) ?_
      have look : RCalls Tryz.prog 155 [.tsl 1 2 0 k.length none, .str key] (upd none' 2 (some (.cells (strs k)))) (.tup [.int .i64 (place k key), .bool (there k key)]) := by
        have := hse.look (fun G G' w v h => by simpa only [VRel, VRels] using h) none 2
        rwa [strs_length] at this
      refine WpItems.rcall [2] (by simp only [go_sem]) (by simp only [go_sem, reduceIte, Nat.reduceEqDiff, List.map]; exact VSubs.refl _) (fun id o h => by simp only [upd, none'] at h ⊢; split at h <;> simp_all) (fun id h => by simp only [upd, none'] at h; split at h <;> simp_all) look ?_
      refine WpItems.eval (by simp only [go_sem, reduceIte, Nat.reduceEqDiff, Nat.reduceAdd, bx]; exact rfl) ?_
      refine WpItems.nil ⟨by trivial, ?_⟩
      cases ht : there k key with
      | true =>
        have e : insK k key = k := by simp [insK, ht]
        rw [e]
        repeat (first
          | ((first | apply Wp.seqItems | apply Wp.items); (· simp only [go_sem, reduceIte, Nat.reduceEqDiff, Nat.reduceAdd, bx, ax, if_true, if_false, Nat.reduceMul, Nat.reduceLeDiff, ht]; exact rfl))
          | (refine WpItems.nil ⟨?_, ?_⟩; (· first | trivial | simp [pairsQ, pairsOk, apart, ent0]))
          | (apply Wp.cond_lit; (· simp only [go_sem, reduceIte, Nat.reduceEqDiff, Nat.reduceAdd, bx, ax, if_true, if_false, Nat.reduceMul, Nat.reduceLeDiff, ht]; exact rfl); (· rfl))
          | refine Wp.skip ?_
          | refine Wp.label ?_
          | refine Wp.block ?_
          | refine Wp.exit ?_
          | refine Wp.seq ?_)
        refine WpItems.pcall (by simp only [go_sem, reduceIte, Nat.reduceEqDiff, Nat.reduceAdd, bx]) (by simp only [go_sem, reduceIte, Nat.reduceEqDiff, Nat.reduceAdd, bx, List.map]; exact VSubs.refl _) (cloneS_p l (by omega)) ?_
        refine WpItems.eval (by simp only [go_sem, reduceIte, Nat.reduceEqDiff, Nat.reduceAdd, bx]; exact rfl) ?_
        refine WpItems.dcall 2 (by simp only [go_sem]) (by simp only [go_sem, reduceIte, Nat.reduceEqDiff, List.map]; exact VSubs.refl _) (made_p k (by omega) l (by omega)) (by simp [upd]) (by simp) ?_
        refine WpItems.eval (by simp only [go_sem, reduceIte, Nat.reduceEqDiff, Nat.reduceAdd, bx, encO, encR]; exact rfl) ?_
        refine WpItems.nil ⟨by trivial, ?_⟩
        refine Wp.ret ⟨trivial, _, rfl, ?_⟩
        simp only [go_sem, reduceIte, Nat.reduceEqDiff, Nat.reduceAdd, bx, unT, unTs]
        exact VSub.refl _
      | false =>
        have e : insK k key = k.take (place k key) ++ key :: k.drop (place k key) := by simp [insK, ht]
        rw [e]
        have hpos : 0 < k.length := List.length_pos_iff.2 hk0
        have hln : (k.take (place k key) ++ key :: k.drop (place k key)).length = k.length + 1 := by
          simp only [List.length_append, List.length_cons, List.length_take, List.length_drop]; omega
        refine Wp.seqReg (by simp only [go_sem, reduceIte, Nat.reduceEqDiff, Nat.reduceAdd, bx]; exact rfl) (by trivial) ?_
        refine Wp.cond_true (by simp only [go_sem, reduceIte, Nat.reduceEqDiff, Nat.reduceAdd, bx]) ?_
        refine Wp.regN ?_
        refine WpItemsN.op (by simp only [go_sem, reduceIte, Nat.reduceEqDiff, Nat.reduceAdd, bx]) (by simp only [go_sem, reduceIte, Nat.reduceEqDiff, Nat.reduceAdd, bx]; exact rfl) ?_
        refine WpItemsN.op (by simp only [go_sem, reduceIte, Nat.reduceEqDiff, Nat.reduceAdd, bx]) (by simp only [go_sem, reduceIte, Nat.reduceEqDiff, Nat.reduceAdd, bx]; exact rfl) ?_
        refine WpItemsN.op (by simp only [go_sem, reduceIte, Nat.reduceEqDiff, Nat.reduceAdd, bx]) (by simp only [go_sem, reduceIte, Nat.reduceEqDiff, Nat.reduceAdd, bx]; exact rfl) ?_
        refine WpItemsN.opT (by simp only [go_sem, reduceIte, Nat.reduceEqDiff, Nat.reduceAdd, bx]) (by simp only [aopT, go_sem, reduceIte, Nat.reduceEqDiff, Nat.reduceAdd, bx, List.all_cons, List.all_nil, List.length_cons, List.length_nil, Nat.reduceMul, Nat.reduceLeDiff, and_self, if_true, decide_true, Bool.and_self]; exact rfl) ?_
        refine WpItemsN.acall (by simp only [go_sem]) (by simp only [go_sem, reduceIte, Nat.reduceEqDiff, List.map]; exact VSubs.refl _) (insert_t k (place k key) key hpl (by omega) hpos (id := 2) (id2 := 3) (h := .only (upd (upd none' 2 (some (.cells (strs k)))) 3 (some (.cells [.str key]))) [] 4 0) (by decide) (by simp [H.only, upd]) (by simp [H.only, upd]) rfl) (touch_turn2 _ (id := 2) (id2 := 3) (ob := .cells (strs k)) (ob2 := .cells [.str key]) (by simp [upd]) (by simp [upd, cellsOf]) (by decide) (by simp) (by simp)) ?_
        refine WpItemsN.op (by simp only [go_sem, reduceIte, Nat.reduceEqDiff, Nat.reduceAdd, bx]) (by simp only [go_sem, reduceIte, Nat.reduceEqDiff, Nat.reduceAdd, bx]; exact rfl) ?_
        refine WpItems.toN (log := []) (WpItems.nil ?_)
        refine Wp.seqItems (by simp only [go_sem, reduceIte, Nat.reduceEqDiff, Nat.reduceAdd, bx, H.turn]; exact rfl) ?_
        refine WpItems.pcall (by simp only [go_sem, reduceIte, Nat.reduceEqDiff, Nat.reduceAdd, bx]) (by simp only [go_sem, reduceIte, Nat.reduceEqDiff, Nat.reduceAdd, bx, List.map]; exact VSubs.refl _) (cloneS_p l (by omega)) ?_
        refine WpItems.eval (by simp only [go_sem, reduceIte, Nat.reduceEqDiff, Nat.reduceAdd, bx]; exact rfl) ?_
        have hmd := made_p (k.take (place k key) ++ key :: k.drop (place k key)) (by omega) l (by omega)
        rw [hln] at hmd
        refine WpItems.dcall 4 (by simp only [go_sem]) (by simp only [go_sem, reduceIte, Nat.reduceEqDiff, List.map]; exact VSubs.refl _) hmd (by simp [upd]) (by simp) ?_
        refine WpItems.eval (by simp only [go_sem, reduceIte, Nat.reduceEqDiff, Nat.reduceAdd, bx, encO, encR]; exact rfl) ?_
        refine WpItems.nil ⟨by trivial, ?_⟩
        refine Wp.ret ⟨trivial, _, rfl, ?_⟩
        simp only [go_sem, reduceIte, Nat.reduceEqDiff, Nat.reduceAdd, bx, unT, unTs]
        exact VSub.refl _
end Go.Proofs.YtkcgpcbpieofnaaGreatDoor.Reads
end
section
set_option linter.unusedSimpArgs false
set_option linter.unusedVariables false
set_option maxRecDepth 10000
namespace Go.Proofs.YtkcgpcbpieofnaaGreatDoor.Reads
open Go Go.Av Go.Proofs Go.Proofs.YtkcgpcbpieofnaaGreatDoor.C Go.Proofs.YtkcgpcbpieofnaaGreatDoor.Batch
structure SS where
  x : Sp
  laid : Bool
  out : List Sp
def stepS (s : SS) (y : Sp) : SS :=
  if apartB y s.x = true then ⟨s.x, s.laid, s.out ++ [y]⟩
  else if apartB s.x y = false then ⟨joinB s.x y, s.laid, s.out⟩
  else if s.laid = false then ⟨s.x, true, s.out ++ [s.x] ++ [y]⟩ else ⟨s.x, true, s.out ++ [y]⟩
def spanGo (l : List Sp) (x : Sp) : SS := l.foldl stepS ⟨x, false, []⟩
def spanL (l : List Sp) (x : Sp) : List Sp := if (spanGo l x).laid = true then (spanGo l x).out else (spanGo l x).out ++ [(spanGo l x).x]
def spanB (k : List Bs) (l : List Sp) (x : Sp) : List Bs × List Sp × Int := if checkB k l then madeB k (if hasB x = true then spanL l x else l) else ([], [], 4)
theorem sub2 {g : Nat → Option Av.Obj} {A B : Av.Obj} (h1 : g 1 = some A) (h2 : g 2 = some B) : OLe g (upd (upd none' 1 (some A)) 2 (some B)) := OLe.put (OLe.at h1) h2 (OSub.refl _)
abbrev res0 : Av.Obj := .cells [.sl 1 [] (.exact 0), .sl 2 [] (.exact 0)]
def hS (x : Sp) (tk n m : Nat) : H := ⟨upd (upd none' 1 (some res0)) 2 (some (.cells [.str x.f, .str x.t])), n, [tk], m⟩
theorem rooms32 {a : Nat} (h : a ≤ 128) : ((a + 1) * 32 ≤ 140737488355328 ∧ a + 1 < 4611686018427387904) ∧ (a + 1 + 1) * 32 ≤ 140737488355328 ∧ a + 1 + 1 < 4611686018427387904 := by omega
set_option maxHeartbeats 1000000 in
theorem span_p (k : List Bs) (l : List Sp) (x : Sp) : PCalls Tryz.prog 121 [encR k l, .str x.f, .str x.t] (encO (spanB k l x)) := by
  refine f121.pcallsF (by simp) (by simp [allPure, encR_pure, isPure]) (encO_pure _) ?_
  unfold c121
  have hck := check_p k l
  refine Wp.seqReg (by simp only [go_sem, reduceIte, Nat.reduceEqDiff, Nat.reduceAdd, bx, encR]; exact rfl) (by trivial) ?_
  refine Wp.frz (fun j => j == 0) [(1, .str x.f), (2, .str x.t), (3, .ref [.sl 1 (strs k) .any, .sl 2 (sps l) .any]), (6, .ptr 1 0)] ⟨upd none' 1 (some res0), 2, [], 0⟩ ?_ ?_ (by simp) (by simp [go_sem]) (Nat.le_refl _) ?_
  · simp only [AllSub, go_sem, reduceIte, Nat.reduceEqDiff, unT, and_true, beq_self_eq_true, Nat.reduceBEq, Bool.false_eq_true]
    and_intros <;> exact VSub.refl _
  · intro j o h
    show ∃ o', _ ∧ OSub o' o
    refine ⟨o, ?_, OSub.refl o⟩
    simp only [upd, none'] at h
    split at h
    · rename_i e; subst e; cases h; simp [H.drop, upd]
    · cases h
  refine Wp.straight ?_
  cases hc : checkB k l with
  | false =>
    rw [hc] at hck
    simp only [Bool.false_eq_true, if_false] at hck
    have d1 : decide ((4 : Int) = 0) = false := rfl
    repeat (first
      | ((first | apply Wp.seqItems | apply Wp.items | ((first
          | (refine WpItems.pcall ?_ ?_ (hck) ?_; (· simp only [go_sem, reduceIte, Nat.reduceEqDiff, Nat.reduceAdd, bx]); (· simp only [go_sem, reduceIte, Nat.reduceEqDiff, Nat.reduceAdd, bx, List.map]; first | exact VSubs.refl _ | (repeat (first | exact VSubs.nil | refine VSubs.cons (by first | exact VSub.refl _ | assumption | exact VSub.cap | exact VSub.any _) ?_))))); apply WpItems.eval)); (· simp only [go_sem, reduceIte, Nat.reduceEqDiff, Nat.reduceAdd, bx, ax, if_true, if_false, Nat.reduceMul, Nat.reduceLeDiff, d1]; exact rfl))
      | (refine WpItems.nil ⟨?_, ?_⟩; (· first | trivial | simp [pairsQ, pairsOk, apart, ent0]))
      | (apply Wp.cond_lit; (· simp only [go_sem, reduceIte, Nat.reduceEqDiff, Nat.reduceAdd, bx, ax, if_true, if_false, Nat.reduceMul, Nat.reduceLeDiff, d1]; exact rfl); (· rfl))
      | refine Wp.skip ?_
      | refine Wp.label ?_
      | refine Wp.block ?_
      | refine Wp.exit ?_
      | refine Wp.seq ?_)
    refine Wp.ret ⟨trivial, _, rfl, ?_⟩
    simp only [go_sem, reduceIte, Nat.reduceEqDiff, Nat.reduceAdd, bx, unT, unTs]
    simp only [spanB, hc, Bool.false_eq_true, if_false]
    exact nil_sub 4
  | true =>
    rw [hc] at hck
    simp only [if_true] at hck
    have d1 : decide ((0 : Int) = 0) = true := rfl
    obtain ⟨b1, b2, b3, b4⟩ := check_ok hc
    cases hB : hasB x with
    | false =>
      rw [show spanB k l x = madeB k l by simp [spanB, hc, hB]]
      repeat (first
        | ((first | apply Wp.seqItems | apply Wp.items | ((first
            | (refine WpItems.pcall ?_ ?_ (hck) ?_; (· simp only [go_sem, reduceIte, Nat.reduceEqDiff, Nat.reduceAdd, bx]); (· simp only [go_sem, reduceIte, Nat.reduceEqDiff, Nat.reduceAdd, bx, List.map]; first | exact VSubs.refl _ | (repeat (first | exact VSubs.nil | refine VSubs.cons (by first | exact VSub.refl _ | assumption | exact VSub.cap | exact VSub.any _) ?_))))
            | (refine WpItems.pcall ?_ ?_ (cloneS_p l (by omega)) ?_; (· simp only [go_sem, reduceIte, Nat.reduceEqDiff, Nat.reduceAdd, bx]); (· simp only [go_sem, reduceIte, Nat.reduceEqDiff, Nat.reduceAdd, bx, List.map]; first | exact VSubs.refl _ | (repeat (first | exact VSubs.nil | refine VSubs.cons (by first | exact VSub.refl _ | assumption | exact VSub.cap | exact VSub.any _) ?_))))
            | (refine WpItems.pcall ?_ ?_ (has_p x) ?_; (· simp only [go_sem, reduceIte, Nat.reduceEqDiff, Nat.reduceAdd, bx]); (· simp only [go_sem, reduceIte, Nat.reduceEqDiff, Nat.reduceAdd, bx, List.map]; first | exact VSubs.refl _ | (repeat (first | exact VSubs.nil | refine VSubs.cons (by first | exact VSub.refl _ | assumption | exact VSub.cap | exact VSub.any _) ?_))))); apply WpItems.eval)); (· simp only [go_sem, reduceIte, Nat.reduceEqDiff, Nat.reduceAdd, bx, ax, if_true, if_false, Nat.reduceMul, Nat.reduceLeDiff, d1, hB, encSp]; exact rfl))
        | (refine WpItems.nil ⟨?_, ?_⟩; (· first | trivial | simp [pairsQ, pairsOk, apart, ent0]))
        | (apply Wp.cond_lit; (· simp only [go_sem, reduceIte, Nat.reduceEqDiff, Nat.reduceAdd, bx, ax, if_true, if_false, Nat.reduceMul, Nat.reduceLeDiff, d1, hB, encSp]; exact rfl); (· rfl))
        | refine Wp.skip ?_
        | refine Wp.label ?_
        | refine Wp.block ?_
        | refine Wp.exit ?_
        | refine Wp.seq ?_)
      by_cases hk0 : k = []
      · subst hk0
        refine WpItems.pcall (by simp only [go_sem]) (by simp only [go_sem, reduceIte, Nat.reduceEqDiff, List.map]; exact VSubs.refl _) (cloneE_gen (sz := 1) (bytes := 16) f160) ?_
        refine WpItems.eval (by simp only [go_sem, reduceIte, Nat.reduceEqDiff, Nat.reduceAdd, bx]; exact rfl) ?_
        refine WpItems.pcall (by simp only [go_sem, reduceIte, Nat.reduceEqDiff, Nat.reduceAdd, bx]) (by simp only [go_sem, reduceIte, Nat.reduceEqDiff, Nat.reduceAdd, bx, List.map]; exact VSubs.refl _) (made0_p l (by omega)) ?_
        refine WpItems.eval (by simp only [go_sem, reduceIte, Nat.reduceEqDiff, Nat.reduceAdd, bx, encO, encR]; exact rfl) ?_
        refine WpItems.nil ⟨by trivial, ?_⟩
        refine Wp.ret ⟨trivial, _, rfl, ?_⟩
        simp only [go_sem, reduceIte, Nat.reduceEqDiff, Nat.reduceAdd, bx, unT, unTs]
        exact VSub.refl _
      · refine WpItems.acall (by simp only [go_sem]) (by simp only [go_sem, reduceIte, Nat.reduceEqDiff, List.map]; exact VSubs.refl _) (cloneK_p k hk0 (by omega) _ _) (touch_new _ _) ?_
        refine WpItems.eval (by simp only [go_sem, reduceIte, Nat.reduceEqDiff, Nat.reduceAdd, bx]; exact rfl) ?_
        refine WpItems.dcall 3 (by simp only [go_sem]) (by simp only [go_sem, reduceIte, Nat.reduceEqDiff, List.map]; exact VSubs.refl _) (made_p k (by omega) l (by omega)) (by simp [upd]) (by simp) ?_
        refine WpItems.eval (by simp only [go_sem, reduceIte, Nat.reduceEqDiff, Nat.reduceAdd, bx, encO, encR]; exact rfl) ?_
        refine WpItems.nil ⟨by trivial, ?_⟩
        refine Wp.ret ⟨trivial, _, rfl, ?_⟩
        simp only [go_sem, reduceIte, Nat.reduceEqDiff, Nat.reduceAdd, bx, unT, unTs]
        exact VSub.refl _
    | true =>
      rw [show spanB k l x = madeB k (spanL l x) by simp [spanB, hc, hB]]
      repeat (first
        | ((first | apply Wp.seqItems | apply Wp.items | ((first
            | (refine WpItems.pcall ?_ ?_ (hck) ?_; (· simp only [go_sem, reduceIte, Nat.reduceEqDiff, Nat.reduceAdd, bx]); (· simp only [go_sem, reduceIte, Nat.reduceEqDiff, Nat.reduceAdd, bx, List.map]; first | exact VSubs.refl _ | (repeat (first | exact VSubs.nil | refine VSubs.cons (by first | exact VSub.refl _ | assumption | exact VSub.cap | exact VSub.any _) ?_))))
            | (refine WpItems.pcall ?_ ?_ (cloneS_p l (by omega)) ?_; (· simp only [go_sem, reduceIte, Nat.reduceEqDiff, Nat.reduceAdd, bx]); (· simp only [go_sem, reduceIte, Nat.reduceEqDiff, Nat.reduceAdd, bx, List.map]; first | exact VSubs.refl _ | (repeat (first | exact VSubs.nil | refine VSubs.cons (by first | exact VSub.refl _ | assumption | exact VSub.cap | exact VSub.any _) ?_))))
            | (refine WpItems.pcall ?_ ?_ (has_p x) ?_; (· simp only [go_sem, reduceIte, Nat.reduceEqDiff, Nat.reduceAdd, bx]); (· simp only [go_sem, reduceIte, Nat.reduceEqDiff, Nat.reduceAdd, bx, List.map]; first | exact VSubs.refl _ | (repeat (first | exact VSubs.nil | refine VSubs.cons (by first | exact VSub.refl _ | assumption | exact VSub.cap | exact VSub.any _) ?_))))); apply WpItems.eval)); (· simp only [go_sem, reduceIte, Nat.reduceEqDiff, Nat.reduceAdd, bx, ax, if_true, if_false, Nat.reduceMul, Nat.reduceLeDiff, d1, hB, encSp, sps_length]; exact rfl))
        | (refine WpItems.nil ⟨?_, ?_⟩; (· first | trivial | simp [pairsQ, pairsOk, apart, ent0]))
        | (apply Wp.cond_lit; (· simp only [go_sem, reduceIte, Nat.reduceEqDiff, Nat.reduceAdd, bx, ax, if_true, if_false, Nat.reduceMul, Nat.reduceLeDiff, d1, hB, encSp, sps_length]; exact rfl); (· rfl))
        | refine Wp.skip ?_
        | refine Wp.label ?_
        | refine Wp.block ?_
        | refine Wp.exit ?_
        | refine Wp.seq ?_)
      refine Wp.le (StLe.trans (StLe.tok _ _) (StLe.of (f' := upd (upd none' 1 (some res0)) 2 (some (.cells [.str x.f, .str x.t]))) (n' := 3) (m' := 1) (k' := [0]) (fun i => VSub.refl _) (sub2 (by simp [upd]) (by simp [upd])) (by simp) (by simp) (by simp))) ?_
      refine Wp.loopH [3, 6, 9, 37, 38] (by simp only [go_sem, reduceIte, Nat.reduceEqDiff, List.map, sps_length]; exact rfl) (fun b : Nat × SS × Nat × Nat × Nat => [(11, .sl 2 (sps b.2.1.out) (.own b.2.2.1)), (12, .bool b.2.1.laid), (39, .int .i64 b.1)]) (fun b => hS b.2.1.x b.2.2.1 b.2.2.2.1 b.2.2.2.2)
        (fun b => b.1 ≤ l.length ∧ 3 ≤ b.2.2.2.1 ∧ b.2.1 = (l.take b.1).foldl stepS ⟨x, false, []⟩ ∧ b.2.1.out.length ≤ 2 * b.1) (fun b => l.length - b.1) (0, ⟨x, false, []⟩, 0, 3, 1) ⟨by simp, by simp, rfl, by simp⟩ rfl ?_ ?_
      · simp only [AllSub, go_sem, reduceIte, Nat.reduceEqDiff, Nat.reduceAdd, bx]; and_intros <;> first | exact trivial | exact VSub.refl _ | exact VSub.any _ | exact VSub.own_of rfl | (refine VSub.int ?_; omega)
      rintro ⟨j, s, tk, n, m⟩ ⟨h1, h2, h3, h4⟩
      simp only at h1 h2 h3 h4
      have n1 : ¬ (n = 1) := by omega
      have n1' : ¬ (1 = n) := by omega
      have n2 : ¬ (n = 2) := by omega
      have n2' : ¬ (2 = n) := by omega
      by_cases hj : j < l.length
      · have g1 : decide ((j : Int) < (l.length : Int)) = true := decide_eq_true (by omega)
        have q1 : (0 : Int) ≤ (j : Int) := by omega
        have q2 : (j : Int) < (l.length : Int) := by omega
        have e1 : IntKind.i64.wrap ((j : Int) + 1) = ((j + 1 : Nat) : Int) := by rw [IntWalk.i64_in _ (by omega)]; omega
        have hst : (l.take (j + 1)).foldl stepS ⟨x, false, []⟩ = stepS s (l.getD j default) := by
          rw [List.take_succ_eq_append_getElem hj, List.foldl_append, ← h3, getD_el hj]; rfl
        obtain ⟨⟨r0, r0'⟩, r1, r1'⟩ := rooms32 (a := s.out.length) (by omega)
        generalize hy : l.getD j default = y at hst
        unfold hS
        cases ha : apartB y s.x with
        | true =>
          have hs : stepS s y = ⟨s.x, s.laid, s.out ++ [y]⟩ := by simp [stepS, ha]
          repeat (first
            | ((first | apply Wp.seqItems | apply Wp.items | ((first
                | (refine WpItems.pcall ?_ ?_ (apart_p y s.x) ?_; (· simp only [go_sem, reduceIte, Nat.reduceEqDiff, Nat.reduceAdd, bx]); (· simp only [go_sem, reduceIte, Nat.reduceEqDiff, Nat.reduceAdd, bx, List.map]; first | exact VSubs.refl _ | (repeat (first | exact VSubs.nil | refine VSubs.cons (by first | exact VSub.refl _ | assumption | exact VSub.cap | exact VSub.any _) ?_))))); apply WpItems.eval)); (· simp only [go_sem, reduceIte, Nat.reduceEqDiff, Nat.reduceAdd, bx, ax, if_true, if_false, Nat.reduceMul, Nat.reduceLeDiff, g1, q1, q2, e1, n1, n1', n2, n2', sps_length, Int.toNat_natCast, sps_getD _ _ _ hj, hy, encSp, ha, r0, r0']; exact rfl))
            | (refine WpItems.nil ⟨?_, ?_⟩; (· first | trivial | simp [pairsQ, pairsOk, apart, ent0]))
            | (apply Wp.cond_lit; (· simp only [go_sem, reduceIte, Nat.reduceEqDiff, Nat.reduceAdd, bx, ax, if_true, if_false, Nat.reduceMul, Nat.reduceLeDiff, g1, q1, q2, e1, n1, n1', n2, n2', sps_length, Int.toNat_natCast, sps_getD _ _ _ hj, hy, encSp, ha, r0, r0']; exact rfl); (· rfl))
            | refine Wp.skip ?_
            | refine Wp.label ?_
            | refine Wp.block ?_
            | refine Wp.exit ?_
            | refine Wp.seq ?_)
          refine ⟨(j + 1, ⟨s.x, s.laid, s.out ++ [y]⟩, m, n + 1, m + 1), ⟨hj, by simp only; omega, by simp only; rw [hst, hs], by simp only [List.length_append, List.length_singleton]; clear r0 r1; omega⟩, by simp only; omega, ?_⟩
          refine StLe.tmN (Nat.le_refl _) (sub2 (by simp [upd, n1']) (by simp [upd, n2'])) ?_
          simp only [AllSub, go_sem, reduceIte, Nat.reduceEqDiff, Nat.reduceAdd, bx]; and_intros <;> first | exact trivial | exact VSub.refl _ | exact VSub.any _ | exact VSub.of_eq (by simp [sps, encSp]) | (refine VSub.int ?_; omega)
        | false =>
          cases hb : apartB s.x y with
          | false =>
            have hs : stepS s y = ⟨joinB s.x y, s.laid, s.out⟩ := by simp [stepS, ha, hb]
            repeat (first
              | ((first | apply Wp.seqItems | apply Wp.items | ((first
                  | (refine WpItems.pcall ?_ ?_ (apart_p y s.x) ?_; (· simp only [go_sem, reduceIte, Nat.reduceEqDiff, Nat.reduceAdd, bx]); (· simp only [go_sem, reduceIte, Nat.reduceEqDiff, Nat.reduceAdd, bx, List.map]; first | exact VSubs.refl _ | (repeat (first | exact VSubs.nil | refine VSubs.cons (by first | exact VSub.refl _ | assumption | exact VSub.cap | exact VSub.any _) ?_))))
                  | (refine WpItems.pcall ?_ ?_ (apart_p s.x y) ?_; (· simp only [go_sem, reduceIte, Nat.reduceEqDiff, Nat.reduceAdd, bx]); (· simp only [go_sem, reduceIte, Nat.reduceEqDiff, Nat.reduceAdd, bx, List.map]; first | exact VSubs.refl _ | (repeat (first | exact VSubs.nil | refine VSubs.cons (by first | exact VSub.refl _ | assumption | exact VSub.cap | exact VSub.any _) ?_))))
                  | (refine WpItems.pcall ?_ ?_ (joined_p s.x y) ?_; (· simp only [go_sem, reduceIte, Nat.reduceEqDiff, Nat.reduceAdd, bx]); (· simp only [go_sem, reduceIte, Nat.reduceEqDiff, Nat.reduceAdd, bx, List.map]; first | exact VSubs.refl _ | (repeat (first | exact VSubs.nil | refine VSubs.cons (by first | exact VSub.refl _ | assumption | exact VSub.cap | exact VSub.any _) ?_))))); apply WpItems.eval)); (· simp only [go_sem, reduceIte, Nat.reduceEqDiff, Nat.reduceAdd, bx, ax, if_true, if_false, Nat.reduceMul, Nat.reduceLeDiff, g1, q1, q2, e1, n1, n1', n2, n2', sps_length, Int.toNat_natCast, sps_getD _ _ _ hj, hy, encSp, ha, hb]; exact rfl))
              | (refine WpItems.nil ⟨?_, ?_⟩; (· first | trivial | simp [pairsQ, pairsOk, apart, ent0]))
              | (apply Wp.cond_lit; (· simp only [go_sem, reduceIte, Nat.reduceEqDiff, Nat.reduceAdd, bx, ax, if_true, if_false, Nat.reduceMul, Nat.reduceLeDiff, g1, q1, q2, e1, n1, n1', n2, n2', sps_length, Int.toNat_natCast, sps_getD _ _ _ hj, hy, encSp, ha, hb]; exact rfl); (· rfl))
              | refine Wp.skip ?_
              | refine Wp.label ?_
              | refine Wp.block ?_
              | refine Wp.exit ?_
              | refine Wp.seq ?_)
            refine ⟨(j + 1, ⟨joinB s.x y, s.laid, s.out⟩, tk, n + 1, m), ⟨hj, by simp only; omega, by simp only; rw [hst, hs], by simp only; clear r0 r1; omega⟩, by simp only; omega, ?_⟩
            refine StLe.tmN (Nat.le_refl _) (sub2 (by simp [upd, n1']) (by simp [upd, n2'])) ?_
            simp only [AllSub, go_sem, reduceIte, Nat.reduceEqDiff, Nat.reduceAdd, bx]; and_intros <;> first | exact trivial | exact VSub.refl _ | exact VSub.any _ | (refine VSub.int ?_; omega)
          | true =>
            cases hl : s.laid with
            | true =>
              have hs : stepS s y = ⟨s.x, true, s.out ++ [y]⟩ := by simp [stepS, ha, hb, hl]
              repeat (first
                | ((first | apply Wp.seqItems | apply Wp.items | ((first
                    | (refine WpItems.pcall ?_ ?_ (apart_p y s.x) ?_; (· simp only [go_sem, reduceIte, Nat.reduceEqDiff, Nat.reduceAdd, bx]); (· simp only [go_sem, reduceIte, Nat.reduceEqDiff, Nat.reduceAdd, bx, List.map]; first | exact VSubs.refl _ | (repeat (first | exact VSubs.nil | refine VSubs.cons (by first | exact VSub.refl _ | assumption | exact VSub.cap | exact VSub.any _) ?_))))
                    | (refine WpItems.pcall ?_ ?_ (apart_p s.x y) ?_; (· simp only [go_sem, reduceIte, Nat.reduceEqDiff, Nat.reduceAdd, bx]); (· simp only [go_sem, reduceIte, Nat.reduceEqDiff, Nat.reduceAdd, bx, List.map]; first | exact VSubs.refl _ | (repeat (first | exact VSubs.nil | refine VSubs.cons (by first | exact VSub.refl _ | assumption | exact VSub.cap | exact VSub.any _) ?_))))); apply WpItems.eval)); (· simp only [go_sem, reduceIte, Nat.reduceEqDiff, Nat.reduceAdd, bx, ax, if_true, if_false, Nat.reduceMul, Nat.reduceLeDiff, g1, q1, q2, e1, n1, n1', n2, n2', sps_length, Int.toNat_natCast, sps_getD _ _ _ hj, hy, encSp, ha, hb, hl, r0, r0']; exact rfl))
                | (refine WpItems.nil ⟨?_, ?_⟩; (· first | trivial | simp [pairsQ, pairsOk, apart, ent0]))
                | (apply Wp.cond_lit; (· simp only [go_sem, reduceIte, Nat.reduceEqDiff, Nat.reduceAdd, bx, ax, if_true, if_false, Nat.reduceMul, Nat.reduceLeDiff, g1, q1, q2, e1, n1, n1', n2, n2', sps_length, Int.toNat_natCast, sps_getD _ _ _ hj, hy, encSp, ha, hb, hl, r0, r0']; exact rfl); (· rfl))
                | refine Wp.skip ?_
                | refine Wp.label ?_
                | refine Wp.block ?_
                | refine Wp.exit ?_
                | refine Wp.seq ?_)
              refine ⟨(j + 1, ⟨s.x, true, s.out ++ [y]⟩, m, n + 1, m + 1), ⟨hj, by simp only; omega, by simp only; rw [hst, hs], by simp only [List.length_append, List.length_singleton]; clear r0 r1; omega⟩, by simp only; omega, ?_⟩
              refine StLe.tmN (Nat.le_refl _) (sub2 (by simp [upd, n1']) (by simp [upd, n2'])) ?_
              simp only [AllSub, go_sem, reduceIte, Nat.reduceEqDiff, Nat.reduceAdd, bx]; and_intros <;> first | exact trivial | exact VSub.refl _ | exact VSub.any _ | exact VSub.of_eq (by simp [sps, encSp]) | (refine VSub.int ?_; omega)
            | false =>
              have hs : stepS s y = ⟨s.x, true, s.out ++ [s.x] ++ [y]⟩ := by simp [stepS, ha, hb, hl]
              repeat (first
                | ((first | apply Wp.seqItems | apply Wp.items | ((first
                    | (refine WpItems.pcall ?_ ?_ (apart_p y s.x) ?_; (· simp only [go_sem, reduceIte, Nat.reduceEqDiff, Nat.reduceAdd, bx]); (· simp only [go_sem, reduceIte, Nat.reduceEqDiff, Nat.reduceAdd, bx, List.map]; first | exact VSubs.refl _ | (repeat (first | exact VSubs.nil | refine VSubs.cons (by first | exact VSub.refl _ | assumption | exact VSub.cap | exact VSub.any _) ?_))))
                    | (refine WpItems.pcall ?_ ?_ (apart_p s.x y) ?_; (· simp only [go_sem, reduceIte, Nat.reduceEqDiff, Nat.reduceAdd, bx]); (· simp only [go_sem, reduceIte, Nat.reduceEqDiff, Nat.reduceAdd, bx, List.map]; first | exact VSubs.refl _ | (repeat (first | exact VSubs.nil | refine VSubs.cons (by first | exact VSub.refl _ | assumption | exact VSub.cap | exact VSub.any _) ?_))))); apply WpItems.eval)); (· simp only [go_sem, reduceIte, Nat.reduceEqDiff, Nat.reduceAdd, bx, ax, if_true, if_false, Nat.reduceMul, Nat.reduceLeDiff, g1, q1, q2, e1, n1, n1', n2, n2', sps_length, Int.toNat_natCast, sps_getD _ _ _ hj, hy, encSp, ha, hb, hl, r0, r0', r1, r1']; exact rfl))
                | (refine WpItems.nil ⟨?_, ?_⟩; (· first | trivial | simp [pairsQ, pairsOk, apart, ent0]))
                | (apply Wp.cond_lit; (· simp only [go_sem, reduceIte, Nat.reduceEqDiff, Nat.reduceAdd, bx, ax, if_true, if_false, Nat.reduceMul, Nat.reduceLeDiff, g1, q1, q2, e1, n1, n1', n2, n2', sps_length, Int.toNat_natCast, sps_getD _ _ _ hj, hy, encSp, ha, hb, hl, r0, r0', r1, r1']; exact rfl); (· rfl))
                | refine Wp.skip ?_
                | refine Wp.label ?_
                | refine Wp.block ?_
                | refine Wp.exit ?_
                | refine Wp.seq ?_)
              refine ⟨(j + 1, ⟨s.x, true, s.out ++ [s.x] ++ [y]⟩, m + 1, n + 1, m + 1 + 1), ⟨hj, by simp only; omega, by simp only; rw [hst, hs], by simp only [List.length_append, List.length_singleton]; clear r0 r1; omega⟩, by simp only; omega, ?_⟩
              refine StLe.tmN (Nat.le_refl _) (sub2 (by simp [upd, n1']) (by simp [upd, n2'])) ?_
              simp only [AllSub, go_sem, reduceIte, Nat.reduceEqDiff, Nat.reduceAdd, bx]; and_intros <;> first | exact trivial | exact VSub.refl _ | exact VSub.any _ | exact VSub.of_eq (by simp [sps, encSp]) | (refine VSub.int ?_; omega)
      · obtain rfl : j = l.length := by omega
        have g1 : decide ((l.length : Int) < (l.length : Int)) = false := decide_eq_false (by omega)
        have hgo : spanGo l x = s := by rw [h3, List.take_length]; rfl
        obtain ⟨⟨r0, r0'⟩, -⟩ := rooms32 (a := s.out.length) (by omega)
        have hk9 : k.length ≤ 1000000 := by clear r0; omega
        have hl9 : (spanL l x).length ≤ 1000 := by
          unfold spanL
          rw [hgo]
          split
          · clear r0; omega
          · simp only [List.length_append, List.length_singleton]; clear r0; omega
        have hk8 : k.length ≤ 1152921504606846976 := Nat.le_trans hk9 (by decide)
        have hl8 : (spanL l x).length ≤ 4611686018427387904 := Nat.le_trans hl9 (by decide)
        unfold hS
        cases hl : s.laid with
        | true =>
          have hsp : spanL l x = s.out := by simp [spanL, hgo, hl]
          repeat (first
            | ((first | apply Wp.seqItems | apply Wp.items); (· simp only [go_sem, reduceIte, Nat.reduceEqDiff, Nat.reduceAdd, bx, ax, if_true, if_false, Nat.reduceMul, Nat.reduceLeDiff, g1, hl]; exact rfl))
            | (refine WpItems.nil ⟨?_, ?_⟩; (· first | trivial | simp [pairsQ, pairsOk, apart, ent0]))
            | (apply Wp.cond_lit; (· simp only [go_sem, reduceIte, Nat.reduceEqDiff, Nat.reduceAdd, bx, ax, if_true, if_false, Nat.reduceMul, Nat.reduceLeDiff, g1, hl]; exact rfl); (· rfl))
            | refine Wp.skip ?_
            | refine Wp.label ?_
            | refine Wp.block ?_
            | refine Wp.exit ?_
            | refine Wp.seq ?_)
          by_cases hk0 : k = []
          · subst hk0
            refine WpItems.pcall (by simp only [go_sem]) (by simp only [go_sem, reduceIte, Nat.reduceEqDiff, List.map]; exact VSubs.refl _) (cloneE_gen (sz := 1) (bytes := 16) f160) ?_
            refine WpItems.eval (by simp only [go_sem, reduceIte, Nat.reduceEqDiff, Nat.reduceAdd, bx]; exact rfl) ?_
            rw [hsp] at hl8 ⊢
            refine WpItems.pcall (by simp only [go_sem, reduceIte, Nat.reduceEqDiff, Nat.reduceAdd, bx]) (by simp only [go_sem, reduceIte, Nat.reduceEqDiff, Nat.reduceAdd, bx, List.map]; exact VSubs.cons (VSub.refl _) (VSubs.cons VSub.cap VSubs.nil)) (made0_p s.out hl8) ?_
            refine WpItems.eval (by simp only [go_sem, reduceIte, Nat.reduceEqDiff, Nat.reduceAdd, bx, encO, encR, n1', n1]; exact rfl) ?_
            refine WpItems.nil ⟨by trivial, ?_⟩
            refine Wp.ret ⟨trivial, _, rfl, ?_⟩
            simp only [go_sem, reduceIte, Nat.reduceEqDiff, Nat.reduceAdd, bx, unT, unTs, n1', n1]
            exact VSub.refl _
          · refine WpItems.acall (by simp only [go_sem]) (by simp only [go_sem, reduceIte, Nat.reduceEqDiff, List.map]; exact VSubs.refl _) (cloneK_p k hk0 hk9 _ _) (touch_new _ _) ?_
            refine WpItems.eval (by simp only [go_sem, reduceIte, Nat.reduceEqDiff, Nat.reduceAdd, bx]; exact rfl) ?_
            rw [hsp] at hl8 ⊢
            refine WpItems.dcall n (by simp only [go_sem]) (by simp only [go_sem, reduceIte, Nat.reduceEqDiff, List.map]; exact VSubs.cons (VSub.refl _) (VSubs.cons VSub.cap VSubs.nil)) (made_p k hk8 s.out hl8) (by simp [upd]) (by simp) ?_
            refine WpItems.eval (by simp only [go_sem, reduceIte, Nat.reduceEqDiff, Nat.reduceAdd, bx, encO, encR, n1', n1]; exact rfl) ?_
            refine WpItems.nil ⟨by trivial, ?_⟩
            refine Wp.ret ⟨trivial, _, rfl, ?_⟩
            simp only [go_sem, reduceIte, Nat.reduceEqDiff, Nat.reduceAdd, bx, unT, unTs, n1', n1]
            exact VSub.refl _
        | false =>
          have hsp : spanL l x = s.out ++ [s.x] := by simp [spanL, hgo, hl]
          have hcap : VSub (.sl 2 (sps s.out ++ [.agg [.str s.x.f, .str s.x.t]]) (.own m)) (.sl 2 (sps (s.out ++ [s.x])) .any) := (VSub.of_eq (y := .sl 2 (sps (s.out ++ [s.x])) (.own m)) (by simp [sps, encSp])).trans VSub.cap
          repeat (first
            | ((first | apply Wp.seqItems | apply Wp.items); (· simp only [go_sem, reduceIte, Nat.reduceEqDiff, Nat.reduceAdd, bx, ax, if_true, if_false, Nat.reduceMul, Nat.reduceLeDiff, g1, hl, sps_length, encSp, r0, r0']; exact rfl))
            | (refine WpItems.nil ⟨?_, ?_⟩; (· first | trivial | simp [pairsQ, pairsOk, apart, ent0]))
            | (apply Wp.cond_lit; (· simp only [go_sem, reduceIte, Nat.reduceEqDiff, Nat.reduceAdd, bx, ax, if_true, if_false, Nat.reduceMul, Nat.reduceLeDiff, g1, hl, sps_length, encSp, r0, r0']; exact rfl); (· rfl))
            | refine Wp.skip ?_
            | refine Wp.label ?_
            | refine Wp.block ?_
            | refine Wp.exit ?_
            | refine Wp.seq ?_)
          by_cases hk0 : k = []
          · subst hk0
            refine WpItems.pcall (by simp only [go_sem]) (by simp only [go_sem, reduceIte, Nat.reduceEqDiff, List.map]; exact VSubs.refl _) (cloneE_gen (sz := 1) (bytes := 16) f160) ?_
            refine WpItems.eval (by simp only [go_sem, reduceIte, Nat.reduceEqDiff, Nat.reduceAdd, bx]; exact rfl) ?_
            rw [hsp] at hl8 ⊢
            refine WpItems.pcall (by simp only [go_sem, reduceIte, Nat.reduceEqDiff, Nat.reduceAdd, bx]) (by simp only [go_sem, reduceIte, Nat.reduceEqDiff, Nat.reduceAdd, bx, List.map]; exact VSubs.cons (VSub.refl _) (VSubs.cons hcap VSubs.nil)) (made0_p (s.out ++ [s.x]) hl8) ?_
            refine WpItems.eval (by simp only [go_sem, reduceIte, Nat.reduceEqDiff, Nat.reduceAdd, bx, encO, encR, n1', n1]; exact rfl) ?_
            refine WpItems.nil ⟨by trivial, ?_⟩
            refine Wp.ret ⟨trivial, _, rfl, ?_⟩
            simp only [go_sem, reduceIte, Nat.reduceEqDiff, Nat.reduceAdd, bx, unT, unTs, n1', n1]
            exact VSub.refl _
          · refine WpItems.acall (by simp only [go_sem]) (by simp only [go_sem, reduceIte, Nat.reduceEqDiff, List.map]; exact VSubs.refl _) (cloneK_p k hk0 hk9 _ _) (touch_new _ _) ?_
            refine WpItems.eval (by simp only [go_sem, reduceIte, Nat.reduceEqDiff, Nat.reduceAdd, bx]; exact rfl) ?_
            rw [hsp] at hl8 ⊢
            refine WpItems.dcall n (by simp only [go_sem]) (by simp only [go_sem, reduceIte, Nat.reduceEqDiff, List.map]; exact VSubs.cons (VSub.refl _) (VSubs.cons hcap VSubs.nil)) (made_p k hk8 (s.out ++ [s.x]) hl8) (by simp [upd]) (by simp) ?_
            refine WpItems.eval (by simp only [go_sem, reduceIte, Nat.reduceEqDiff, Nat.reduceAdd, bx, encO, encR, n1', n1]; exact rfl) ?_
            refine WpItems.nil ⟨by trivial, ?_⟩
            refine Wp.ret ⟨trivial, _, rfl, ?_⟩
            simp only [go_sem, reduceIte, Nat.reduceEqDiff, Nat.reduceAdd, bx, unT, unTs, n1', n1]
            exact VSub.refl _
end Go.Proofs.YtkcgpcbpieofnaaGreatDoor.Reads
end
section
set_option linter.unusedSimpArgs false
set_option linter.unusedVariables false
set_option maxRecDepth 100000
namespace Go.Proofs.YtkcgpcbpieofnaaGreatDoor.Desk
open Go Go.Av Go.Proofs Go.Proofs.YtkcgpcbpieofnaaGreatDoor.C Go.Proofs.YtkcgpcbpieofnaaGreatDoor.Batch Go.Proofs.YtkcgpcbpieofnaaGreatDoor.Reads
def unStrs : List AV → Option (List Bs)
  | [] => some []
  | .str s :: l => match unStrs l with
    | some r => some (s :: r)
    | none => none
  | _ => none
def unSps : List AV → Option (List Sp)
  | [] => some []
  | .agg [.str a, .str b] :: l => match unSps l with
    | some r => some (⟨a, b⟩ :: r)
    | none => none
  | _ => none
theorem unStrs_ok : ∀ {l : List AV} {r : List Bs}, unStrs l = some r → l = strs r
  | [], r, h => by simp [unStrs] at h; subst h; rfl
  | x :: l, r, h => by
    cases x <;> simp only [unStrs] at h <;> try (cases h; done)
    split at h
    · rename_i r' h'
      cases h
      rw [unStrs_ok h']; rfl
    · cases h
theorem unSps_ok : ∀ {l : List AV} {r : List Sp}, unSps l = some r → l = sps r
  | [], r, h => by simp [unSps] at h; subst h; rfl
  | x :: l, r, h => by
    unfold unSps at h
    split at h
    · rename_i e; cases e
    · rename_i a b l' e
      cases e
      split at h
      · rename_i r' h'
        cases h
        rw [unSps_ok h']; rfl
      · cases h
    · cases h
def decR : AV → Option (List Bs × List Sp)
  | .agg [.sl s1 xs _, .sl s2 ys _] => match unStrs xs, unSps ys with
    | some k, some l => match (Nat.beq s1 1 || k.isEmpty) && (Nat.beq s2 2 || l.isEmpty) with
      | true => some (k, l)
      | false => none
    | _, _ => none
  | _ => none
theorem decR_ok {x : AV} {k : List Bs} {l : List Sp} (h : decR x = some (k, l)) : VSub x (encR k l) := by
  unfold decR at h
  split at h
  · split at h
    · rename_i s1 xs c1 s2 ys c2 _ _ k' l' h1 h2
      split at h
      · rename_i hc
        cases h
        rw [unStrs_ok h1, unSps_ok h2]
        simp only [Bool.and_eq_true, Bool.or_eq_true] at hc
        have e1 : VSub (.sl s1 (strs k) c1) (.sl 1 (strs k) .any) := by
          rcases hc.1 with e | e
          · rw [Nat.eq_of_beq_eq_true e]; exact VSub.cap
          · have : k = [] := List.isEmpty_iff.1 e
            subst this; exact VSub.nil
        have e2 : VSub (.sl s2 (sps l) c2) (.sl 2 (sps l) .any) := by
          rcases hc.2 with e | e
          · rw [Nat.eq_of_beq_eq_true e]; exact VSub.cap
          · have : l = [] := List.isEmpty_iff.1 e
            subst this; exact VSub.nil
        exact VSub.agg (VSubs.cons e1 (VSubs.cons e2 VSubs.nil))
      · cases h
    · cases h
  · cases h
def readsPP (f : Nat) (args : List AV) : Option AV :=
  match Nat.beq f 169 with
  | true => match args with
    | [r, .str key] => match decR r with
      | some (k, l) => some (encO (keyB k l key))
      | none => none
    | _ => none
  | false => match Nat.beq f 121 with
    | true => match args with
      | [r, .str a, .str b] => match decR r with
        | some (k, l) => some (encO (spanB k l ⟨a, b⟩))
        | none => none
      | _ => none
    | false => none
theorem named {f : Nat} {fn : Func} (h : Tryz.prog.funcs[f]? = some fn) (hb : fn.body.isSome = true) (hn : fn.name ≠ "runtime.NumGoroutine") : ∃ fn, Tryz.prog.funcs[f]? = some fn ∧ fn.body.isSome = true ∧ fn.name ≠ "runtime.NumGoroutine" := ⟨fn, h, hb, hn⟩
theorem readsPP_ok {f : Nat} {args : List AV} {r : AV} (h : readsPP f args = some r) : (∃ vals, VSubs args vals ∧ PCalls Tryz.prog f vals r) ∧ ∃ fn, Tryz.prog.funcs[f]? = some fn ∧ fn.body.isSome = true ∧ fn.name ≠ "runtime.NumGoroutine" := by
  unfold readsPP at h
  split at h
  · rename_i e
    have e := Nat.eq_of_beq_eq_true e
    subst e
    refine ⟨?_, named Tryz.func169 (of_decide_eq_true (by kernel_rfl)) (of_decide_eq_true (by kernel_rfl))⟩
    split at h
    · split at h
      · rename_i hd
        cases h
        exact ⟨_, VSubs.cons (decR_ok hd) (VSubs.refl _), key_p _ _ _⟩
      · cases h
    · cases h
  · split at h
    · rename_i e
      have e := Nat.eq_of_beq_eq_true e
      subst e
      refine ⟨?_, named Tryz.func121 (of_decide_eq_true (by kernel_rfl)) (of_decide_eq_true (by kernel_rfl))⟩
      split at h
      · split at h
        · rename_i hd
          cases h
          exact ⟨_, VSubs.cons (decR_ok hd) (VSubs.refl _), span_p _ _ ⟨_, _⟩⟩
        · cases h
      · cases h
    · cases h
def rowH (id id2 : Nat) (l : List Bs) (x : Bs) (n m : Nat) : H := .only (upd (upd none' id (some (.cells (strs l)))) id2 (some (.cells [.str x]))) [] n m
def rowE (id2 : Nat) (x : Bs) (n m : Nat) : H := .only (upd none' id2 (some (.cells [.str x]))) [] n m
def insPrim (f : Nat) : Prims := fun g args h => match Nat.beq g f with
  | false => none
  | true => match args with
    | [.sl s [] (.exact 0), .int .i64 i, .tsl s2 id2 0 1 _] => match h.objs id2 with
      | some (.cells [.str x]) => match Nat.beq s 1 && Nat.beq s2 1 && decide (i = 0) with
        | true => some (.tsl 1 h.n 0 1 none, h.patch (rowE id2 x h.n h.m) ((rowE id2 x h.n h.m).turn id2 (.cells (strs [x]))), ⟨[], [id2] ++ (List.range 1).map (h.n + ·), []⟩)
        | false => none
      | _ => none
    | [.tsl s id 0 len _, .int .i64 i, .tsl s2 id2 0 1 _] => match h.objs id, h.objs id2 with
      | some (.cells cs), some (.cells [.str x]) => match unStrs cs with
        | some l => match Nat.beq s 1 && Nat.beq s2 1 && Nat.beq l.length len && decide (0 ≤ i) && Nat.ble i.toNat l.length && Nat.blt 0 l.length && Nat.blt l.length 1099511627776 && !Nat.beq id id2 with
          | true => some (.tsl 1 h.n 0 (l.length + 1) none, h.patch (rowH id id2 l x h.n h.m) ((rowH id id2 l x h.n h.m).turn id (.cells (strs (l.take i.toNat ++ x :: l.drop i.toNat)))), ⟨[], [id, id2] ++ (List.range 1).map (h.n + ·), []⟩)
          | false => none
        | none => none
      | _, _ => none
    | _ => none
theorem rowE_sg {σ : Sg} {id2 : Nat} {x : Bs} {n m : Nat} : (rowE id2 x n m).sg σ = rowE id2 x n m := H.ext (fun j => by
  simp only [H.sg, rowE, H.only, upd, none']; split <;> simp [sgO]) rfl rfl rfl
theorem rowE_turn_sg {σ : Sg} {id2 : Nat} {x : Bs} {n m : Nat} {cs : List AV} : ((rowE id2 x n m).turn id2 (.cells cs)).sg σ = (rowE id2 x n m).turn id2 (.cells cs) := H.ext (fun j => by
  simp only [H.sg, H.turn, rowE, H.only, upd, none']; (repeat' split) <;> simp [sgO]) rfl rfl rfl
theorem rowH_sg {σ : Sg} {id id2 : Nat} {l : List Bs} {x : Bs} {n m : Nat} : (rowH id id2 l x n m).sg σ = rowH id id2 l x n m := H.ext (fun j => by
  simp only [H.sg, rowH, H.only, upd, none']; (repeat' split) <;> simp [sgO]) rfl rfl rfl
theorem rowH_turn_sg {σ : Sg} {id id2 : Nat} {l : List Bs} {x : Bs} {n m : Nat} {cs : List AV} : ((rowH id id2 l x n m).turn id (.cells cs)).sg σ = (rowH id id2 l x n m).turn id (.cells cs) := H.ext (fun j => by
  simp only [H.sg, H.turn, rowH, H.only, upd, none']; (repeat' split) <;> simp [sgO]) rfl rfl rfl
theorem tsl_any {sz id off len : Nat} {c : Option Nat} : VSub (.tsl sz id off len c) (.tsl sz id off len none) := by
  intro G w v hv
  simp only [VRel] at hv ⊢
  obtain ⟨h1, ⟨C, c0, T, fr, h2, h3, -, h4⟩ | ⟨h2, h3, -⟩⟩ := hv
  · exact ⟨h1, .inl ⟨C, c0, T, fr, h2, h3, by simp, h4⟩⟩
  · exact ⟨h1, .inr ⟨h2, h3, by simp⟩⟩
theorem insPrim_ok : PrimsOkY Tryz.prog (insPrim 183) := by
  intro σ g args h r h' en hx
  have hf := named Tryz.func183 (of_decide_eq_true (by kernel_rfl)) (of_decide_eq_true (by kernel_rfl))
  unfold insPrim at hx
  split at hx
  · cases hx
  · rename_i e
    have e := Nat.eq_of_beq_eq_true e
    subst e
    split at hx
    · rename_i s i s2 id2 cp2
      split at hx
      · rename_i x ho
        split at hx
        · rename_i hc
          simp only [Bool.and_eq_true, decide_eq_true_eq] at hc
          obtain ⟨⟨c1, c2⟩, c3⟩ := hc
          have c1 := Nat.eq_of_beq_eq_true c1
          have c2 := Nat.eq_of_beq_eq_true c2
          subst c1 c2 c3
          cases hx
          have hs1 : ∀ j o, (rowE id2 x h.n h.m).objs j = some o → h.objs j = some o := fun j o hj => by
            simp only [rowE, H.only, upd, none'] at hj
            split at hj
            · rename_i e; subst e; rw [ho]; exact hj
            · cases hj
          have hi1 : ∀ id, ((rowE id2 x h.n h.m).objs id).isSome → id ∈ [id2] := fun id hx => by
            simp only [rowE, H.only, upd, none'] at hx
            split at hx
            · rename_i e; subst e; simp
            · simp at hx
          have tc := touch_genY σ h (rowE id2 x h.n h.m) ((rowE id2 x h.n h.m).turn id2 (.cells (strs [x]))) (ids := [id2]) ⟨hs1, fun t ht => by simp [rowE, H.only] at ht⟩ rfl rfl hi1 (by simp [rowE, H.turn, H.only]) (by simp [rowE, H.turn, H.only])
          rw [rowE_sg, rowE_turn_sg] at tc
          have ac := insert_e x (id2 := id2) (h := rowE id2 x h.n h.m) (by simp [rowE, H.only, upd]) rfl
          refine ⟨⟨_, _, ?_, fun G w vs hv R F => ac G w vs (VSubs.cons (VSub.refl _) (VSubs.cons (VSub.refl _) (VSubs.cons tsl_any VSubs.nil)) G w vs hv) R F⟩, hf⟩
          simpa [rowE, H.turn, H.only] using tc
        · cases hx
      · cases hx
    · rename_i s id len cp i s2 id2 cp2
      split at hx
      · rename_i cs x ho1 ho2
        split at hx
        · rename_i l hl
          split at hx
          · rename_i hc
            simp only [Bool.and_eq_true, decide_eq_true_eq, Bool.not_eq_true'] at hc
            obtain ⟨⟨⟨⟨⟨⟨⟨c1, c2⟩, c3⟩, c4⟩, c5⟩, c6⟩, c7⟩, c8⟩ := hc
            have c1 := Nat.eq_of_beq_eq_true c1
            have c2 := Nat.eq_of_beq_eq_true c2
            have c3 := Nat.eq_of_beq_eq_true c3
            have c5 := Nat.le_of_ble_eq_true c5
            have c6 := Nat.le_of_ble_eq_true c6
            have c7 := Nat.le_of_ble_eq_true c7
            have c8 : id ≠ id2 := fun e => by rw [e] at c8; simp at c8
            subst c1 c2 c3
            have hcs := unStrs_ok hl
            subst hcs
            cases hx
            have hs1 : ∀ j o, (rowH id id2 l x h.n h.m).objs j = some o → h.objs j = some o := fun j o hj => by
              simp only [rowH, H.only, upd, none'] at hj
              split at hj
              · rename_i e; subst e; rw [ho2]; exact hj
              · split at hj
                · rename_i e; subst e; rw [ho1]; exact hj
                · cases hj
            have hi1 : ∀ j, ((rowH id id2 l x h.n h.m).objs j).isSome → j ∈ [id, id2] := fun j hx => by
              simp only [rowH, H.only, upd, none'] at hx
              split at hx
              · rename_i e; subst e; simp
              · split at hx
                · rename_i e; subst e; simp
                · simp at hx
            have tc := touch_genY σ h (rowH id id2 l x h.n h.m) ((rowH id id2 l x h.n h.m).turn id (.cells (strs (l.take i.toNat ++ x :: l.drop i.toNat)))) (ids := [id, id2]) ⟨hs1, fun t ht => by simp [rowH, H.only] at ht⟩ rfl rfl hi1 (by simp [rowH, H.turn, H.only]) (by simp [rowH, H.turn, H.only])
            rw [rowH_sg, rowH_turn_sg] at tc
            have hi : ((i.toNat : Nat) : Int) = i := Int.toNat_of_nonneg c4
            have ac := insert_t l i.toNat x c5 c7 c6 c8 (h := rowH id id2 l x h.n h.m) (by simp [rowH, H.only, upd, c8]) (by simp [rowH, H.only, upd]) rfl
            rw [hi] at ac
            refine ⟨⟨_, _, ?_, fun G w vs hv R F => ac G w vs (VSubs.cons tsl_any (VSubs.cons (VSub.refl _) (VSubs.cons tsl_any VSubs.nil)) G w vs hv) R F⟩, hf⟩
            simpa [rowH, H.turn, H.only] using tc
          · cases hx
        · cases hx
      · cases hx
    · cases hx
end Go.Proofs.YtkcgpcbpieofnaaGreatDoor.Desk
end
section
set_option linter.unusedVariables false
set_option linter.unusedSimpArgs false
namespace Go.Av
section
variable {P : Program} {T : FT} {N : Nat}
def NoL (h : H) : Prop := ∀ j o, h.objs j = some o → ∀ σ, sgO σ o = o
theorem NoL.sg {h : H} (hn : NoL h) (σ : Sg) : h.sg σ = h := H.ext (fun j => by
  simp only [H.sg]
  cases e : h.objs j with
  | none => rfl
  | some o => simp [hn j o e]) rfl rfl rfl
theorem NoL.none {n : Nat} {T : List Nat} {m : Nat} : NoL (.only none' T n m) := fun j o h => by simp [H.only, none'] at h
theorem NoL.upd {f : Nat → Option Obj} {i : Nat} {cs : List AV} {n n' : Nat} {T T' : List Nat} {m m' : Nat} (h : NoL ⟨f, n, T, m⟩) : NoL ⟨Av.upd f i (some (.cells cs)), n', T', m'⟩ := fun j o e => by
  simp only [Av.upd] at e
  split at e
  · cases e; intro σ; rfl
  · exact h j o e
end
end Go.Av
end
section
set_option maxRecDepth 100000
namespace Go.Proofs.YtkcgpcbpieofnaaGreatDoor.C
open Go.Av
def tabE : FT :=
  (.node 119 ⟨55, c119, [.tmp 10, .tmp 11]⟩ (.node 69 ⟨17, c69, [.tmp 4]⟩ (.node 49 ⟨27, c49, [.cell 2 (some 2)]⟩ (.node 38 ⟨3, c38, [.tmp 0]⟩ (.node 21 ⟨32, c21, [.tmp 4]⟩ (.node 11 ⟨4, c11, [.tmp 0]⟩
  (.node 10 ⟨26, c10, [.tmp 4, .tmp 5]⟩ .leaf .leaf) (.node 15 ⟨72, c15, [.tmp 10, .tmp 11]⟩ .leaf .leaf)) (.node 37 ⟨110, c37, [.tmp 0]⟩ (.node 33 ⟨9, c33, [.tmp 2]⟩ .leaf .leaf) .leaf)) (.node 42
  ⟨15, c42, [.tmp 0, .tmp 1]⟩ (.node 40 ⟨40, c40, [.tmp 4, .tmp 5]⟩ (.node 39 ⟨22, c39, [.tmp 4]⟩ .leaf .leaf) (.node 41 ⟨40, c41, [.tmp 4, .tmp 5]⟩ .leaf .leaf)) (.node 47 ⟨80, c47, [.tmp 4]⟩ (.node
  46 ⟨22, c46, [.cell 4 (some 24)]⟩ .leaf .leaf) .leaf))) (.node 57 ⟨49, c57, [.tmp 2]⟩ (.node 53 ⟨15, c53, [.tmp 8, .tmp 9]⟩ (.node 51 ⟨12, c51, [.tmp 2]⟩ (.node 50 ⟨31, c50, [.tmp 6, .tmp 7]⟩ .leaf
  .leaf) (.node 52 ⟨62, c52, [.cell 2 (some 2), .tmp 3]⟩ .leaf .leaf)) (.node 56 ⟨7, c56, [.tmp 2]⟩ (.node 55 ⟨15, c55, [.tmp 2]⟩ .leaf .leaf) .leaf)) (.node 61 ⟨73, c61, [.tmp 2, .tmp 3]⟩ (.node 59
  ⟨26, c59, [.tmp 2]⟩ (.node 58 ⟨31, c58, [.tmp 4, .tmp 5]⟩ .leaf .leaf) (.node 60 ⟨18, c60, [.tmp 4]⟩ .leaf .leaf)) (.node 63 ⟨47, c63, [.tmp 10, .tmp 11]⟩ (.node 62 ⟨42, c62, [.tmp 4]⟩ .leaf .leaf)
  .leaf)))) (.node 106 ⟨26, c106, [.tmp 4]⟩ (.node 98 ⟨131, c98, [.cell 6 (some 24)]⟩ (.node 82 ⟨10, c82, [.tmp 2]⟩ (.node 78 ⟨29, c78, [.tmp 6]⟩ (.node 73 ⟨20, c73, [.tmp 4]⟩ .leaf .leaf) (.node 79
  ⟨40, c79, [.tmp 2, .tmp 3]⟩ .leaf .leaf)) (.node 84 ⟨12, c84, [.tmp 6]⟩ (.node 83 ⟨29, c83, [.tmp 2]⟩ .leaf .leaf) .leaf)) (.node 103 ⟨26, c103, [.tmp 4]⟩ (.node 100 ⟨90, c100, [.cell 6 (some 24)]⟩
  (.node 99 ⟨7, c99, [.cell 2 (some 24)]⟩ .leaf .leaf) (.node 101 ⟨6, c101, [.cell 2 (some 24)]⟩ .leaf .leaf)) (.node 105 ⟨52, c105, [.tmp 4]⟩ (.node 104 ⟨31, c104, [.tmp 4]⟩ .leaf .leaf) .leaf)))
  (.node 113 ⟨12, c113, [.tmp 2]⟩ (.node 110 ⟨10, c110, [.cell 2 (some 2)]⟩ (.node 108 ⟨33, c108, [.tmp 4]⟩ (.node 107 ⟨26, c107, [.tmp 4]⟩ .leaf .leaf) (.node 109 ⟨10, c109, [.tmp 2]⟩ .leaf .leaf))
  (.node 112 ⟨28, c112, [.tmp 4, .tmp 5]⟩ (.node 111 ⟨23, c111, [.tmp 4]⟩ .leaf .leaf) .leaf)) (.node 116 ⟨5, c116, [.tmp 2]⟩ (.node 115 ⟨55, c115, [.tmp 4]⟩ (.node 114 ⟨32, c114, [.tmp 2]⟩ .leaf
  .leaf) .leaf) (.node 118 ⟨78, c118, [.tmp 4, .tmp 5]⟩ (.node 117 ⟨26, c117, [.tmp 4, .tmp 5]⟩ .leaf .leaf) .leaf))))) (.node 167 ⟨26, c167, [.tmp 4, .tmp 5]⟩ (.node 145 ⟨11, c145, [.tmp 2]⟩ (.node
  130 ⟨12, c130, [.tmp 4]⟩ (.node 126 ⟨21, c126, [.tmp 2, .tmp 3]⟩ (.node 124 ⟨14, c124, [.tmp 4]⟩ (.node 120 ⟨101, c120, [.tmp 8]⟩ .leaf .leaf) (.node 125 ⟨11, c125, [.tmp 4, .tmp 5]⟩ .leaf .leaf))
  (.node 129 ⟨58, c129, [.tmp 6]⟩ (.node 128 ⟨19, c128, [.tmp 4]⟩ .leaf .leaf) .leaf)) (.node 139 ⟨14, c139, [.tmp 4]⟩ (.node 137 ⟨15, c137, [.tmp 2, .tmp 3]⟩ (.node 134 ⟨21, c134, [.tmp 6]⟩ .leaf
  .leaf) (.node 138 ⟨22, c138, [.tmp 2]⟩ .leaf .leaf)) (.node 142 ⟨30, c142, [.tmp 2, .tmp 3]⟩ (.node 141 ⟨58, c141, [.tmp 2, .tmp 3]⟩ .leaf .leaf) .leaf))) (.node 152 ⟨38, c152, [.tmp 2, .tmp 3]⟩
  (.node 149 ⟨9, c149, [.tmp 4]⟩ (.node 147 ⟨12, c147, [.tmp 2]⟩ (.node 146 ⟨10, c146, [.tmp 2]⟩ .leaf .leaf) (.node 148 ⟨31, c148, [.tmp 2]⟩ .leaf .leaf)) (.node 151 ⟨11, c151, [.cell 4 (some 3)]⟩
  (.node 150 ⟨5, c150, [.cell 2 (some 3)]⟩ .leaf .leaf) .leaf)) (.node 155 ⟨54, c155, [.tmp 4, .tmp 5]⟩ (.node 154 ⟨21, c154, []⟩ (.node 153 ⟨8, c153, [.tmp 6]⟩ .leaf .leaf) .leaf) (.node 166 ⟨72,
  c166, [.tmp 2, .tmp 3]⟩ (.node 165 ⟨26, c165, [.tmp 4, .tmp 5]⟩ .leaf .leaf) .leaf)))) (.node 198 ⟨6, c198, [.tmp 2]⟩ (.node 190 ⟨11, c190, [.tmp 4]⟩ (.node 185 ⟨9, c185, [.tmp 4]⟩ (.node 182 ⟨53,
  c182, [.tmp 2, .tmp 3]⟩ (.node 168 ⟨58, c168, [.tmp 2, .tmp 3]⟩ .leaf .leaf) (.node 184 ⟨20, c184, [.tmp 2]⟩ .leaf .leaf)) (.node 187 ⟨9, c187, [.tmp 4]⟩ (.node 186 ⟨9, c186, [.tmp 4]⟩ .leaf .leaf)
  .leaf)) (.node 195 ⟨49, c195, [.tmp 4]⟩ (.node 193 ⟨12, c193, [.tmp 4]⟩ (.node 192 ⟨26, c192, [.tmp 4]⟩ .leaf .leaf) (.node 194 ⟨16, c194, [.tmp 2]⟩ .leaf .leaf)) (.node 197 ⟨17, c197, [.tmp 4]⟩
  (.node 196 ⟨43, c196, []⟩ .leaf .leaf) .leaf))) (.node 236 ⟨15, c236, [.tmp 4]⟩ (.node 221 ⟨62, c221, [.tmp 4]⟩ (.node 216 ⟨24, c216, [.tmp 6]⟩ (.node 215 ⟨24, c215, [.tmp 6]⟩ .leaf .leaf) (.node
  217 ⟨24, c217, [.tmp 6]⟩ .leaf .leaf)) (.node 223 ⟨6, c223, [.tmp 2]⟩ (.node 222 ⟨26, c222, [.tmp 6]⟩ .leaf .leaf) .leaf)) (.node 240 ⟨12, c240, [.tmp 2, .tmp 3]⟩ (.node 239 ⟨7, c239, [.tmp 2]⟩
  (.node 237 ⟨6, c237, [.tmp 2]⟩ .leaf .leaf) .leaf) (.node 259 ⟨10, c259, [.tmp 2, .tmp 3]⟩ (.node 251 ⟨38, c251, [.tmp 2, .tmp 3]⟩ .leaf .leaf) .leaf))))))
theorem tabE_ok : tabE.Ok Tryz.prog :=
  ⟨f119, ⟨f69, ⟨f49, ⟨f38, ⟨f21, ⟨f11, ⟨f10, trivial, trivial⟩, ⟨f15, trivial, trivial⟩⟩, ⟨f37, ⟨f33, trivial, trivial⟩, trivial⟩⟩, ⟨f42, ⟨f40, ⟨f39, trivial, trivial⟩, ⟨f41, trivial, trivial⟩⟩, ⟨f47,
  ⟨f46, trivial, trivial⟩, trivial⟩⟩⟩, ⟨f57, ⟨f53, ⟨f51, ⟨f50, trivial, trivial⟩, ⟨f52, trivial, trivial⟩⟩, ⟨f56, ⟨f55, trivial, trivial⟩, trivial⟩⟩, ⟨f61, ⟨f59, ⟨f58, trivial, trivial⟩, ⟨f60,
  trivial, trivial⟩⟩, ⟨f63, ⟨f62, trivial, trivial⟩, trivial⟩⟩⟩⟩, ⟨f106, ⟨f98, ⟨f82, ⟨f78, ⟨f73, trivial, trivial⟩, ⟨f79, trivial, trivial⟩⟩, ⟨f84, ⟨f83, trivial, trivial⟩, trivial⟩⟩, ⟨f103, ⟨f100,
  ⟨f99, trivial, trivial⟩, ⟨f101, trivial, trivial⟩⟩, ⟨f105, ⟨f104, trivial, trivial⟩, trivial⟩⟩⟩, ⟨f113, ⟨f110, ⟨f108, ⟨f107, trivial, trivial⟩, ⟨f109, trivial, trivial⟩⟩, ⟨f112, ⟨f111, trivial,
  trivial⟩, trivial⟩⟩, ⟨f116, ⟨f115, ⟨f114, trivial, trivial⟩, trivial⟩, ⟨f118, ⟨f117, trivial, trivial⟩, trivial⟩⟩⟩⟩⟩, ⟨f167, ⟨f145, ⟨f130, ⟨f126, ⟨f124, ⟨f120, trivial, trivial⟩, ⟨f125, trivial,
  trivial⟩⟩, ⟨f129, ⟨f128, trivial, trivial⟩, trivial⟩⟩, ⟨f139, ⟨f137, ⟨f134, trivial, trivial⟩, ⟨f138, trivial, trivial⟩⟩, ⟨f142, ⟨f141, trivial, trivial⟩, trivial⟩⟩⟩, ⟨f152, ⟨f149, ⟨f147, ⟨f146,
  trivial, trivial⟩, ⟨f148, trivial, trivial⟩⟩, ⟨f151, ⟨f150, trivial, trivial⟩, trivial⟩⟩, ⟨f155, ⟨f154, ⟨f153, trivial, trivial⟩, trivial⟩, ⟨f166, ⟨f165, trivial, trivial⟩, trivial⟩⟩⟩⟩, ⟨f198,
  ⟨f190, ⟨f185, ⟨f182, ⟨f168, trivial, trivial⟩, ⟨f184, trivial, trivial⟩⟩, ⟨f187, ⟨f186, trivial, trivial⟩, trivial⟩⟩, ⟨f195, ⟨f193, ⟨f192, trivial, trivial⟩, ⟨f194, trivial, trivial⟩⟩, ⟨f197, ⟨f196,
  trivial, trivial⟩, trivial⟩⟩⟩, ⟨f236, ⟨f221, ⟨f216, ⟨f215, trivial, trivial⟩, ⟨f217, trivial, trivial⟩⟩, ⟨f223, ⟨f222, trivial, trivial⟩, trivial⟩⟩, ⟨f240, ⟨f239, ⟨f237, trivial, trivial⟩, trivial⟩,
  ⟨f259, ⟨f251, trivial, trivial⟩, trivial⟩⟩⟩⟩⟩⟩
theorem tabE_named : tabE.named Tryz.prog = true := by kernel_rfl
end Go.Proofs.YtkcgpcbpieofnaaGreatDoor.C
end
section
set_option linter.unusedSimpArgs false
set_option linter.unusedVariables false
set_option maxRecDepth 100000
namespace Go.Proofs.YtkcgpcbpieofnaaGreatDoor.Desk
open Go Go.Av Go.Proofs Go.Proofs.YtkcgpcbpieofnaaGreatDoor.C Go.Proofs.YtkcgpcbpieofnaaGreatDoor.Batch Go.Proofs.YtkcgpcbpieofnaaGreatDoor.Reads
def prims : Prims := orPrims (insPrim 183) (purePrim readsPP)
theorem prims_ok : PrimsOkY Tryz.prog prims := orPrims_ok insPrim_ok (purePrim_ok fun f args r h => readsPP_ok h)
theorem lives25_p : PCalls Tryz.prog 37 [] (.bool true) := pcalls_runY tabE_ok tabE_named prims_ok (k := 100000) (by kernel_rfl)
end Go.Proofs.YtkcgpcbpieofnaaGreatDoor.Desk
end
section
set_option linter.unusedSimpArgs false
set_option linter.unusedVariables false
set_option maxRecDepth 100000
namespace Go.Proofs.YtkcgpcbpieofnaaGreatDoor.Desk
open Go Go.Av Go.Proofs Go.Proofs.YtkcgpcbpieofnaaGreatDoor.C
def ownB (k : Int) : Bool := decide (5 ≤ k) && decide (k ≤ 21)
theorem own_p (k : Int) : PCalls Tryz.prog 33 [.int .i64 k] (.bool (ownB k)) := by
  refine f33.pcalls0 (by simp) rfl rfl ?_
  unfold c33 ownB
  by_cases h : 5 ≤ k
  · have d1 := decide_eq_true h
    repeat (first
      | ((first | apply Wp.seqItemsR | apply Wp.itemsR); (· simp only [go_sem, reduceIte, Nat.reduceEqDiff, Nat.reduceAdd, bx, ax, if_true, if_false, Nat.reduceMul, Nat.reduceLeDiff, d1]; exact rfl))
      | (refine WpItems.nil ⟨?_, ?_⟩; (· first | trivial | simp [pairsQ, pairsOk, apart, ent0]))
      | (apply Wp.cond_lit; (· simp only [go_sem, reduceIte, Nat.reduceEqDiff, Nat.reduceAdd, bx, ax, if_true, if_false, Nat.reduceMul, Nat.reduceLeDiff, d1]; exact rfl); (· rfl))
      | refine Wp.skip ?_
      | refine Wp.label ?_
      | refine Wp.block ?_
      | refine Wp.exit ?_
      | refine Wp.seq ?_)
    refine Wp.ret ⟨trivial, _, rfl, ?_⟩
    simp only [go_sem, reduceIte, Nat.reduceEqDiff, Nat.reduceAdd, bx]
    rw [d1]; exact VSub.refl _
  · have d1 := decide_eq_false h
    repeat (first
      | ((first | apply Wp.seqItemsR | apply Wp.itemsR); (· simp only [go_sem, reduceIte, Nat.reduceEqDiff, Nat.reduceAdd, bx, ax, if_true, if_false, Nat.reduceMul, Nat.reduceLeDiff, d1]; exact rfl))
      | (refine WpItems.nil ⟨?_, ?_⟩; (· first | trivial | simp [pairsQ, pairsOk, apart, ent0]))
      | (apply Wp.cond_lit; (· simp only [go_sem, reduceIte, Nat.reduceEqDiff, Nat.reduceAdd, bx, ax, if_true, if_false, Nat.reduceMul, Nat.reduceLeDiff, d1]; exact rfl); (· rfl))
      | refine Wp.skip ?_
      | refine Wp.label ?_
      | refine Wp.block ?_
      | refine Wp.exit ?_
      | refine Wp.seq ?_)
    refine Wp.ret ⟨trivial, _, rfl, ?_⟩
    simp only [go_sem, reduceIte, Nat.reduceEqDiff, Nat.reduceAdd, bx]
    rw [d1]; exact VSub.refl _
theorem ownR_p (k : Int) : PCalls Tryz.prog 34 [.int .i64 k] (.bool (ownB k)) := by
  refine f34.pcalls0 (by simp) rfl rfl ?_
  unfold c34 ownB
  by_cases h : 5 ≤ k
  · have d1 := decide_eq_true h
    repeat (first
      | ((first | apply Wp.seqItemsR | apply Wp.itemsR); (· simp only [go_sem, reduceIte, Nat.reduceEqDiff, Nat.reduceAdd, bx, ax, if_true, if_false, Nat.reduceMul, Nat.reduceLeDiff, d1]; exact rfl))
      | (refine WpItems.nil ⟨?_, ?_⟩; (· first | trivial | simp [pairsQ, pairsOk, apart, ent0]))
      | (apply Wp.cond_lit; (· simp only [go_sem, reduceIte, Nat.reduceEqDiff, Nat.reduceAdd, bx, ax, if_true, if_false, Nat.reduceMul, Nat.reduceLeDiff, d1]; exact rfl); (· rfl))
      | refine Wp.skip ?_
      | refine Wp.label ?_
      | refine Wp.block ?_
      | refine Wp.exit ?_
      | refine Wp.seq ?_)
    refine Wp.ret ⟨trivial, _, rfl, ?_⟩
    simp only [go_sem, reduceIte, Nat.reduceEqDiff, Nat.reduceAdd, bx]
    rw [d1]; exact VSub.refl _
  · have d1 := decide_eq_false h
    repeat (first
      | ((first | apply Wp.seqItemsR | apply Wp.itemsR); (· simp only [go_sem, reduceIte, Nat.reduceEqDiff, Nat.reduceAdd, bx, ax, if_true, if_false, Nat.reduceMul, Nat.reduceLeDiff, d1]; exact rfl))
      | (refine WpItems.nil ⟨?_, ?_⟩; (· first | trivial | simp [pairsQ, pairsOk, apart, ent0]))
      | (apply Wp.cond_lit; (· simp only [go_sem, reduceIte, Nat.reduceEqDiff, Nat.reduceAdd, bx, ax, if_true, if_false, Nat.reduceMul, Nat.reduceLeDiff, d1]; exact rfl); (· rfl))
      | refine Wp.skip ?_
      | refine Wp.label ?_
      | refine Wp.block ?_
      | refine Wp.exit ?_
      | refine Wp.seq ?_)
    refine Wp.ret ⟨trivial, _, rfl, ?_⟩
    simp only [go_sem, reduceIte, Nat.reduceEqDiff, Nat.reduceAdd, bx]
    rw [d1]; exact VSub.refl _
def chunky (k : Int) : Bool := decide (k = 10) || decide (k = 17)
def stepsB (q : Rq) : Int := if chunky q.kind then IntKind.i64.wrap ((IntKind.i64.wrap (IntKind.i64.wrap ((q.body.length : Int) + 160) - 1)).tdiv 160) else 0
theorem steps_p (q : Rq) : PCalls Tryz.prog 35 [.agg (encQ q)] (.int .i64 (stepsB q)) := by
  refine f35.pcalls0 (by simp) (by simp [allPure, encQ_pure]) rfl ?_
  unfold c35 stepsB chunky encQ
  by_cases h1 : q.kind = 10
  · have d1 := decide_eq_true h1
    repeat (first
      | ((first | apply Wp.seqItemsR | apply Wp.itemsR); (· simp only [go_sem, reduceIte, Nat.reduceEqDiff, Nat.reduceAdd, bx, ax, if_true, if_false, Nat.reduceMul, Nat.reduceLeDiff, d1]; exact rfl))
      | (refine WpItems.nil ⟨?_, ?_⟩; (· first | trivial | simp [pairsQ, pairsOk, apart, ent0]))
      | (apply Wp.cond_lit; (· simp only [go_sem, reduceIte, Nat.reduceEqDiff, Nat.reduceAdd, bx, ax, if_true, if_false, Nat.reduceMul, Nat.reduceLeDiff, d1]; exact rfl); (· rfl))
      | refine Wp.skip ?_
      | refine Wp.label ?_
      | refine Wp.block ?_
      | refine Wp.exit ?_
      | refine Wp.seq ?_)
    refine Wp.ret ⟨trivial, _, rfl, ?_⟩
    simp only [go_sem, reduceIte, Nat.reduceEqDiff, Nat.reduceAdd, bx]
    rw [d1]; exact VSub.refl _
  · have d1 := decide_eq_false h1
    by_cases h2 : q.kind = 17
    · have d2 := decide_eq_true h2
      repeat (first
        | ((first | apply Wp.seqItemsR | apply Wp.itemsR); (· simp only [go_sem, reduceIte, Nat.reduceEqDiff, Nat.reduceAdd, bx, ax, if_true, if_false, Nat.reduceMul, Nat.reduceLeDiff, d1, d2]; exact rfl))
        | (refine WpItems.nil ⟨?_, ?_⟩; (· first | trivial | simp [pairsQ, pairsOk, apart, ent0]))
        | (apply Wp.cond_lit; (· simp only [go_sem, reduceIte, Nat.reduceEqDiff, Nat.reduceAdd, bx, ax, if_true, if_false, Nat.reduceMul, Nat.reduceLeDiff, d1, d2]; exact rfl); (· rfl))
        | refine Wp.skip ?_
        | refine Wp.label ?_
        | refine Wp.block ?_
        | refine Wp.exit ?_
        | refine Wp.seq ?_)
      refine Wp.ret ⟨trivial, _, rfl, ?_⟩
      simp only [go_sem, reduceIte, Nat.reduceEqDiff, Nat.reduceAdd, bx]
      rw [d1, d2]; exact VSub.refl _
    · have d2 := decide_eq_false h2
      repeat (first
        | ((first | apply Wp.seqItemsR | apply Wp.itemsR); (· simp only [go_sem, reduceIte, Nat.reduceEqDiff, Nat.reduceAdd, bx, ax, if_true, if_false, Nat.reduceMul, Nat.reduceLeDiff, d1, d2]; exact rfl))
        | (refine WpItems.nil ⟨?_, ?_⟩; (· first | trivial | simp [pairsQ, pairsOk, apart, ent0]))
        | (apply Wp.cond_lit; (· simp only [go_sem, reduceIte, Nat.reduceEqDiff, Nat.reduceAdd, bx, ax, if_true, if_false, Nat.reduceMul, Nat.reduceLeDiff, d1, d2]; exact rfl); (· rfl))
        | refine Wp.skip ?_
        | refine Wp.label ?_
        | refine Wp.block ?_
        | refine Wp.exit ?_
        | refine Wp.seq ?_)
      refine Wp.ret ⟨trivial, _, rfl, ?_⟩
      simp only [go_sem, reduceIte, Nat.reduceEqDiff, Nat.reduceAdd, bx]
      rw [d1, d2]; exact VSub.refl _
theorem stepsR_p (q : Rq) : PCalls Tryz.prog 36 [.agg (encQ q)] (.int .i64 (stepsB q)) := by
  refine f36.pcalls0 (by simp) (by simp [allPure, encQ_pure]) rfl ?_
  unfold c36 stepsB chunky encQ
  by_cases h1 : q.kind = 10
  · have d1 := decide_eq_true h1
    repeat (first
      | ((first | apply Wp.seqItemsR | apply Wp.itemsR); (· simp only [go_sem, reduceIte, Nat.reduceEqDiff, Nat.reduceAdd, bx, ax, if_true, if_false, Nat.reduceMul, Nat.reduceLeDiff, d1]; exact rfl))
      | (refine WpItems.nil ⟨?_, ?_⟩; (· first | trivial | simp [pairsQ, pairsOk, apart, ent0]))
      | (apply Wp.cond_lit; (· simp only [go_sem, reduceIte, Nat.reduceEqDiff, Nat.reduceAdd, bx, ax, if_true, if_false, Nat.reduceMul, Nat.reduceLeDiff, d1]; exact rfl); (· rfl))
      | refine Wp.skip ?_
      | refine Wp.label ?_
      | refine Wp.block ?_
      | refine Wp.exit ?_
      | refine Wp.seq ?_)
    refine Wp.ret ⟨trivial, _, rfl, ?_⟩
    simp only [go_sem, reduceIte, Nat.reduceEqDiff, Nat.reduceAdd, bx]
    rw [d1]; exact VSub.refl _
  · have d1 := decide_eq_false h1
    by_cases h2 : q.kind = 17
    · have d2 := decide_eq_true h2
      repeat (first
        | ((first | apply Wp.seqItemsR | apply Wp.itemsR); (· simp only [go_sem, reduceIte, Nat.reduceEqDiff, Nat.reduceAdd, bx, ax, if_true, if_false, Nat.reduceMul, Nat.reduceLeDiff, d1, d2]; exact rfl))
        | (refine WpItems.nil ⟨?_, ?_⟩; (· first | trivial | simp [pairsQ, pairsOk, apart, ent0]))
        | (apply Wp.cond_lit; (· simp only [go_sem, reduceIte, Nat.reduceEqDiff, Nat.reduceAdd, bx, ax, if_true, if_false, Nat.reduceMul, Nat.reduceLeDiff, d1, d2]; exact rfl); (· rfl))
        | refine Wp.skip ?_
        | refine Wp.label ?_
        | refine Wp.block ?_
        | refine Wp.exit ?_
        | refine Wp.seq ?_)
      refine Wp.ret ⟨trivial, _, rfl, ?_⟩
      simp only [go_sem, reduceIte, Nat.reduceEqDiff, Nat.reduceAdd, bx]
      rw [d1, d2]; exact VSub.refl _
    · have d2 := decide_eq_false h2
      repeat (first
        | ((first | apply Wp.seqItemsR | apply Wp.itemsR); (· simp only [go_sem, reduceIte, Nat.reduceEqDiff, Nat.reduceAdd, bx, ax, if_true, if_false, Nat.reduceMul, Nat.reduceLeDiff, d1, d2]; exact rfl))
        | (refine WpItems.nil ⟨?_, ?_⟩; (· first | trivial | simp [pairsQ, pairsOk, apart, ent0]))
        | (apply Wp.cond_lit; (· simp only [go_sem, reduceIte, Nat.reduceEqDiff, Nat.reduceAdd, bx, ax, if_true, if_false, Nat.reduceMul, Nat.reduceLeDiff, d1, d2]; exact rfl); (· rfl))
        | refine Wp.skip ?_
        | refine Wp.label ?_
        | refine Wp.block ?_
        | refine Wp.exit ?_
        | refine Wp.seq ?_)
      refine Wp.ret ⟨trivial, _, rfl, ?_⟩
      simp only [go_sem, reduceIte, Nat.reduceEqDiff, Nat.reduceAdd, bx]
      rw [d1, d2]; exact VSub.refl _
theorem kinds_p (q : Rq) (k : Int) : PCalls Tryz.prog 5 [.agg (encQ q), .int .i64 k] (.bool true) := by
  refine f5.pcalls0 (by simp) (by simp [allPure, encQs_pure, isPure]) rfl ?_
  unfold c5
  have e1 : (encQ q).all isCell = true := rfl
  have e2 : Av.part 0 (some 14) (encQ q) = some (.agg (encQ q)) := rfl
  have b1 : decide (ownB k = ownB k) = true := by simp
  have b2 : decide (stepsB q = stepsB q) = true := by simp
  repeat (first
    | ((first | apply Wp.seqItemsR | apply Wp.itemsR | ((first
        | (refine WpItems.pcall ?_ ?_ (own_p k) ?_; (· simp only [go_sem, reduceIte, Nat.reduceEqDiff, Nat.reduceAdd, bx]); (· simp only [go_sem, reduceIte, Nat.reduceEqDiff, Nat.reduceAdd, bx, List.map]; first | exact VSubs.refl _ | (repeat (first | exact VSubs.nil | refine VSubs.cons (by first | exact VSub.refl _ | assumption | exact VSub.cap | exact VSub.any _) ?_))))
        | (refine WpItems.pcall ?_ ?_ (ownR_p k) ?_; (· simp only [go_sem, reduceIte, Nat.reduceEqDiff, Nat.reduceAdd, bx]); (· simp only [go_sem, reduceIte, Nat.reduceEqDiff, Nat.reduceAdd, bx, List.map]; first | exact VSubs.refl _ | (repeat (first | exact VSubs.nil | refine VSubs.cons (by first | exact VSub.refl _ | assumption | exact VSub.cap | exact VSub.any _) ?_))))
        | (refine WpItems.pcall ?_ ?_ (steps_p q) ?_; (· simp only [go_sem, reduceIte, Nat.reduceEqDiff, Nat.reduceAdd, bx]); (· simp only [go_sem, reduceIte, Nat.reduceEqDiff, Nat.reduceAdd, bx, List.map]; first | exact VSubs.refl _ | (repeat (first | exact VSubs.nil | refine VSubs.cons (by first | exact VSub.refl _ | assumption | exact VSub.cap | exact VSub.any _) ?_))))
        | (refine WpItems.pcall ?_ ?_ (stepsR_p q) ?_; (· simp only [go_sem, reduceIte, Nat.reduceEqDiff, Nat.reduceAdd, bx]); (· simp only [go_sem, reduceIte, Nat.reduceEqDiff, Nat.reduceAdd, bx, List.map]; first | exact VSubs.refl _ | (repeat (first | exact VSubs.nil | refine VSubs.cons (by first | exact VSub.refl _ | assumption | exact VSub.cap | exact VSub.any _) ?_))))
        | (refine WpItems.pcall ?_ ?_ (lives25_p) ?_; (· simp only [go_sem, reduceIte, Nat.reduceEqDiff, Nat.reduceAdd, bx]); (· simp only [go_sem, reduceIte, Nat.reduceEqDiff, Nat.reduceAdd, bx, List.map]; first | exact VSubs.refl _ | (repeat (first | exact VSubs.nil | refine VSubs.cons (by first | exact VSub.refl _ | assumption | exact VSub.cap | exact VSub.any _) ?_))))); apply WpItems.evR)); (· simp only [go_sem, reduceIte, Nat.reduceEqDiff, Nat.reduceAdd, bx, ax, if_true, if_false, Nat.reduceMul, Nat.reduceLeDiff, e1, e2, b1, b2, beq_self_eq_true, decide_true]; exact rfl))
    | (refine WpItems.nil ⟨?_, ?_⟩; (· first | trivial | simp [pairsQ, pairsOk, apart, ent0]))
    | (apply Wp.cond_lit; (· simp only [go_sem, reduceIte, Nat.reduceEqDiff, Nat.reduceAdd, bx, ax, if_true, if_false, Nat.reduceMul, Nat.reduceLeDiff, e1, e2, b1, b2, beq_self_eq_true, decide_true]; exact rfl); (· rfl))
    | refine Wp.skip ?_
    | refine Wp.label ?_
    | refine Wp.block ?_
    | refine Wp.exit ?_
    | refine Wp.seq ?_)
  refine Wp.ret ⟨trivial, _, rfl, ?_⟩
  simp only [go_sem, reduceIte, Nat.reduceEqDiff, Nat.reduceAdd, bx]
  exact VSub.refl _
theorem law_DeskKinds {b : Nat} (avs : List AV) (h : Av.All2 (ArgFits Tryz.prog 6) Tryz.f5.params.toList avs) (_ : bulkAs avs ≤ b) : PCalls Tryz.prog 5 avs (.bool true) := by
  rw [Tryz.params5] at h
  cases h with | cons h0 h => cases h with | cons h1 h =>
  cases h
  obtain ⟨q, rfl, -⟩ := open_q h0
  obtain ⟨k, rfl, -⟩ := open_i Tryz.underlying86 (by kernel_rfl) h1
  exact kinds_p q k
end Go.Proofs.YtkcgpcbpieofnaaGreatDoor.Desk
end
section
set_option linter.unusedSimpArgs false
set_option linter.unusedVariables false
namespace Go.Proofs.YtkcgpcbpieofnaaGreatDoor.Desk
open Go Go.Av Go.Proofs Go.Proofs.YtkcgpcbpieofnaaGreatDoor.C
open Go.ChangeShapes Go.WideShapes Go.ChangeAt Go.RowKit
set_option maxRecDepth 100000 in
theorem met_DeskKinds (os : Os) : laidMet Tryz.prog Rows.deskKindsRow.laid ((laidWorld os).forCall (fun _ _ => 0) ⟨#[], #[.agg #[.int .i64 0, .int .i64 0, .string ⟨#[]⟩, .string ⟨#[]⟩, .string ⟨#[]⟩, .string ⟨#[]⟩, .string ⟨#[]⟩, .string ⟨#[]⟩, .int .i64 0, .int .i64 0, .int .i64 0, .int .i64 0, .int .i64 0, .slice none 0 0], .int .i64 0], []⟩).memory :=
  laidMet_of_run' 8 (by kernel_rfl) (by kernel_rfl)
set_option maxRecDepth 100000 in
theorem reads_DeskKinds (os : Os) {H : Type} (enc : TypeId × Value → H) : ∃ places, DataW.whole enc Tryz.prog ((laidWorld os).forCall (fun _ _ => 0) ⟨#[], #[.agg #[.int .i64 0, .int .i64 0, .string ⟨#[]⟩, .string ⟨#[]⟩, .string ⟨#[]⟩, .string ⟨#[]⟩, .string ⟨#[]⟩, .string ⟨#[]⟩, .int .i64 0, .int .i64 0, .int .i64 0, .int .i64 0, .int .i64 0, .slice none 0 0], .int .i64 0], []⟩).memory Tryz.f5.params.toList Rows.deskKindsSpec.vars false (#[.agg #[.int .i64 0, .int .i64 0, .string ⟨#[]⟩, .string ⟨#[]⟩, .string ⟨#[]⟩, .string ⟨#[]⟩, .string ⟨#[]⟩, .string ⟨#[]⟩, .int .i64 0, .int .i64 0, .int .i64 0, .int .i64 0, .int .i64 0, .slice none 0 0], .int .i64 0] : Array Value).toList 8 = some ([.agg [.lit (.int .i64 0), .lit (.int .i64 0), .lit (.string []), .lit (.string []), .lit (.string []), .lit (.string []), .lit (.string []), .lit (.string []), .agg [.lit (.int .i64 0), .agg [.lit (.int .i64 0), .lit (.int .i64 0)]], .lit (.int .i64 0), .lit (.int .i64 0), .nil], .lit (.int .i64 0)], [], places) :=
  ⟨[], by kernel_rfl⟩
set_option maxRecDepth 100000 in
theorem lifted_DeskKinds (os : Os) (started : os.Started) (H : Type) (enc : TypeId × Value → H) (F : Stop.Interp) :
    ReturnsInHanded {} Tryz.checked os 5 .any ((OpenSpec.ofChange Rows.deskKindsSpec).preRow enc Tryz.prog Tryz.f5 Rows.deskKindsRow.domain false Rows.deskKindsRow.laid) (((OpenSpec.ofChange Rows.deskKindsSpec).at F).post enc Tryz.prog Tryz.f5 false true false false) := by
  obtain ⟨places, hx⟩ := reads_DeskKinds os enc
  refine returnsInHanded_of_row (C := Tryz.checked) (s := OpenSpec.ofChange Rows.deskKindsSpec) own started (by kernel_rfl) Tryz.func5
    (witness_row_at (enc := enc) (C := Tryz.checked) false (laidWorld os) #[.agg #[.int .i64 0, .int .i64 0, .string ⟨#[]⟩, .string ⟨#[]⟩, .string ⟨#[]⟩, .string ⟨#[]⟩, .string ⟨#[]⟩, .string ⟨#[]⟩, .int .i64 0, .int .i64 0, .int .i64 0, .int .i64 0, .int .i64 0, .slice none 0 0], .int .i64 0] rfl (by kernel_rfl) (by kernel_rfl) (by kernel_rfl)
      (OpenSpec.preRow_of_cond 8 hx (by kernel_rfl) (fun k hk => by cases hk) (by kernel_rfl) (met_DeskKinds os))) ?_
  intro Wd base args ds gs before hval hW _ _ hwt _ _ _
  exact calls_row laid bulk rowed full rfl (fun l hl => by match l, hl with | [_, _], _ => rfl) rfl Tryz.underlying4 (by kernel_rfl) (by kernel_rfl) hval hW hwt (fun avs h hb => law_DeskKinds avs h hb)
theorem said_DeskKinds : Rows.DeskKindsSaid :=
  OpenClaim.holds_of_cond 5 Tryz.f5 rfl rfl rfl rfl rfl rfl rfl ⟨rfl, rfl, rfl, rfl, rfl⟩ rfl rfl rfl rfl rfl (by kernel_rfl) Tryz.func5 (by kernel_rfl)
    (of_decide_eq_true (by kernel_rfl)) (by unfold Func.isWrapper; first | (rw [if_pos (by decide +kernel)]; kernel_rfl) | (rw [if_neg (by decide +kernel)]; exact ⟨rfl, rfl⟩))
    (fun os started H enc _ F => by rw [OpenClaim.pre_eq_preRow]; exact lifted_DeskKinds os started H enc F)
theorem plain_DeskKinds (f : FuncId) (fn : Func) (hf : Tryz.pinned.checked.prog.funcNamed "ambry/ambrylaw25.DeskKinds" = some f) (hfn : Tryz.pinned.checked.prog.funcs[f]? = some fn) :
    false = Tryz.pinned.checked.prog.looks [] ∧ ∀ (j : Nat) t, fn.params[j]? = some t → Tryz.pinned.checked.prog.wantsStandIn t = false := by
  obtain rfl : f = 5 := Option.some.inj ((show Tryz.prog.funcNamed "ambry/ambrylaw25.DeskKinds" = some 5 by kernel_rfl).symm.trans hf) |>.symm
  obtain rfl : fn = Tryz.f5 := (Option.some.inj (Tryz.func5.symm.trans hfn)).symm
  refine ⟨by kernel_rfl, fun j t ht => ?_⟩
  have hall : Tryz.f5.params.toList.all (fun t => !Tryz.prog.wantsStandIn t) = true := by kernel_rfl
  have := List.all_eq_true.1 hall t (by simpa using Array.mem_of_getElem? ht)
  exact (by simpa using this : Tryz.prog.wantsStandIn t = false)
theorem card_DeskKinds : Rows.DeskKindsCardSaid :=
  Claim7.holds_tied_plain_at .later [] _ _ _ _ said_DeskKinds (fun _ h => by cases h) (by kernel_rfl) (fun _ h => by cases h) deskKinds_row_tie rfl ⟨rfl, rfl⟩ (by kernel_rfl) rfl plain_DeskKinds (by kernel_rfl)
#print axioms card_DeskKinds
end Go.Proofs.YtkcgpcbpieofnaaGreatDoor.Desk
end
