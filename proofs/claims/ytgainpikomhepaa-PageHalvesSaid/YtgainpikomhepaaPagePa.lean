/- Chapter 08: a list with one more, and with one less. Chapter 08: Drop. -/
import Derived.Test.YtgainpikomhepaaPageIns
import Derived.Test.YtgainpikomhepaaPageQ
import Derived.Test.YtgainpikomhepaaPageV
set_option linter.unusedSimpArgs false
set_option linter.unusedVariables false
set_option maxRecDepth 10000
namespace Go.Proofs.Ytgainpikomhepaa.Page
open Go Go.Av Go.Proofs Go.Proofs.Ytgainpikomhepaa.C

/-- slices.Insert of one text into an empty row -/
theorem insert_e (x : List UInt8) {id2 : Nat} {h : H} (ho2 : h.objs id2 = some (.cells [.str x])) (htk : h.toks = []) :
    ACalls Try.prog 64 [.sl 1 [] (.exact 0), .int .i64 0, .tsl 1 id2 0 1 none] h (.sl 1 (strs [x]) .any) (h.less id2) := by
  intro G w vs hv R F
  simp only [VRels] at hv
  obtain ⟨v1, _, rfl, hv1, v2, _, rfl, hv2, v3, _, rfl, hv3, rfl⟩ := hv
  have hbase : ∃ a0, v1 = .slice a0 0 0 := by
    simp only [VRel, CapOk] at hv1
    rcases hv1 with ⟨-, h, -⟩ | ⟨B, off, C, vs, q1, -, -, -, -, q6⟩
    · exact h
    · subst q6; exact ⟨_, by simpa using q1⟩
  obtain ⟨a0, rfl⟩ := hbase
  simp only [VRel] at hv2 hv3
  subst hv2
  obtain ⟨hd2, hv3⟩ := hv3
  obtain ⟨C2, c2, T2, fr2, rfl, ⟨hnC2, -⟩, -, hg2, hroom2⟩ | ⟨hz, -⟩ := hv3
  rotate_left
  · omega
  obtain ⟨-, hown2, hB2, us2, rest2, T2', fr2', hg2', hvs2, hfr2, -⟩ := R.obj id2 _ ho2
  have hus2 : us2 = [.string ⟨x.toArray⟩] := by
    simp only [VRels, VRel] at hvs2
    obtain ⟨v, _, rfl, rfl, rfl⟩ := hvs2
    rfl
  subst hus2
  rw [hg2] at hg2'
  obtain ⟨rfl, rfl, rfl⟩ : c2 = ([Value.string ⟨x.toArray⟩] ++ rest2).toArray ∧ T2 = T2' ∧ fr2 = fr2' := by simpa using hg2'
  have hvs' : ∀ (j : Nat) v, ([Value.string ⟨x.toArray⟩] : List Value)[j]? = some v → w.cell? ⟨G.ι id2, 0 + j, none⟩ = some v := fun j v => cell_of hg2 j v
  have h1v : ∀ v ∈ ([Value.string ⟨x.toArray⟩] : List Value), v.oneCell' = true := by simp [Value.oneCell']
  have key := Any2.slices_Insert_string_end_grow lays22 a0 0 0 (G.ι id2) 0 1 C2 [] [.string ⟨x.toArray⟩] w (by omega) (Nat.le_refl _) (by omega) (by omega) rfl rfl (fun _ => rfl) (fun a ha j v hj => by simp at hj) hvs' h1v
  refine key.mono ?_
  rintro e w' ⟨rfl, rfl⟩
  have hgc' : 0 + 1 ≤ grownCap w (0 + 1) 0 (lays22_ren.t 9) := by simp [grownCap, Question.cut]
  generalize grownCap w (0 + 1) 0 (lays22_ren.t 9) = C0 at hgc' ⊢
  generalize Builtin.zeroCells (Value.string ⟨#[]⟩).cells (C0 - (0 + 1)) = Zc
  have hs : (w.drew.alloc (.cells (([] ++ [Value.string ⟨x.toArray⟩]).toArray ++ Zc) (lays22_ren.t 9))).heap.size = w.heap.size + 1 := by
    show (w.heap.push _).size = _
    rw [Array.size_push]
  have hold : ∀ b, b < w.heap.size → (w.drew.alloc (.cells (([] ++ [Value.string ⟨x.toArray⟩]).toArray ++ Zc) (lays22_ren.t 9))).heap[b]? = w.heap[b]? := fun b hb => by
    show (w.heap.push _)[b]? = _
    rw [Array.getElem?_push, if_neg (Nat.ne_of_lt hb)]
  have hnew : (w.drew.alloc (.cells (([] ++ [Value.string ⟨x.toArray⟩]).toArray ++ Zc) (lays22_ren.t 9))).heap[w.heap.size]? = some (.cells (sv [x] ++ Zc.toList).toArray (lays22_ren.t 9) (0, 0)) := by
    show (w.heap.push _)[w.heap.size]? = _
    rw [Array.getElem?_push_size]
    refine congrArg some (congrArg (fun c => Go.Obj.cells c _ (0, 0)) (Array.ext' ?_))
    simp only [Array.toList_append]
    rfl
  obtain ⟨G', T1, R1, V⟩ := row_end (w' := w.drew.alloc (.cells (([] ++ [Value.string ⟨x.toArray⟩]).toArray ++ Zc) (lays22_ren.t 9))) (B := w.heap.size) (off := 0) (C := C0) (xs := strs [x]) (vs := sv [x]) R ho2 htk (by omega) rfl rfl (fun b hb _ => hold b hb) (by rw [hold _ hB2]; exact SameForm.refl _) (.inr (Nat.le_refl _)) (by simpa [strs] using hgc') rfl (sv_elems _) (fun v hv => sv_one hv) (cell_of hnew)
  exact ⟨_, G', rfl, T1, R1, V⟩

theorem strs_shaped (l : List (List UInt8)) : (strs l).all shaped = true := by
  simp [strs, shaped, isCell]

theorem strs_cells (l : List (List UInt8)) : (strs l).flatMap cellsOf = strs l := by
  induction l with
  | nil => rfl
  | cons s l ih => simp only [strs, List.map_cons, List.flatMap_cons] at ih ⊢; rw [ih]; rfl

/-- the same, as 'with' has it -/
theorem insert_x (l : List (List UInt8)) (i : Nat) (x : List UInt8) (hi : i ≤ l.length) (hl : l.length < 1099511627776) (h0 : 0 < l.length) :
    ACalls Try.prog 64 [.tsl 1 0 0 l.length none, .int .i64 i, .tsl 1 1 0 1 none] ⟨upd (upd none' 0 (some (.cells ((strs l).flatMap cellsOf)))) 1 (some (.cells [.str x])), 2, [], 0⟩ (.sl 1 (strs (l.take i ++ x :: l.drop i)) .any) (H.less ⟨upd (upd none' 0 (some (.cells ((strs l).flatMap cellsOf)))) 1 (some (.cells [.str x])), 2, [], 0⟩ 0) :=
  insert_a l i x hi hl h0 (id2 := 1) (by decide) (by simp [upd, strs_cells]) (by simp [upd]) rfl

theorem with_p (l : List (List UInt8)) (i : Nat) (x : List UInt8) (hi : i ≤ l.length) (hl : l.length < 1099511627776) :
    PCalls Try.prog 51 [.sl 1 (strs l) .any, .int .i64 i, .str x] (.sl 1 (strs (l.take i ++ x :: l.drop i)) .any) := by
  refine f51.pcalls0 (by simp) (by simp [allPure, isPure, capPure, strs_pure]) (by simp [isPure, capPure, strs_pure]) ?_
  unfold c51
  refine Wp.seqReg (by simp only [go_sem, reduceIte, Nat.reduceEqDiff, Nat.reduceAdd, Bool.false_eq_true, Bool.true_beq, Bool.false_beq, Bool.not_true, Bool.not_false]; exact rfl) (by trivial) ?_
  refine Wp.seq (Wp.regN ?_)
  refine WpItemsN.op (by simp only [go_sem, reduceIte, Nat.reduceEqDiff, Nat.reduceAdd, Bool.false_eq_true, Bool.true_beq, Bool.false_beq, Bool.not_true, Bool.not_false]) (by simp only [go_sem, reduceIte, Nat.reduceEqDiff, Nat.reduceAdd, Bool.false_eq_true, Bool.true_beq, Bool.false_beq, Bool.not_true, Bool.not_false]; exact rfl) ?_
  cases l with
  | nil =>
    have hi0 : i = 0 := by simpa using hi
    subst hi0
    refine WpItemsN.pcall (by simp only [go_sem]) (by simp only [go_sem, List.map]; exact VSubs.refl _) (cloneE_gen (sz := 1) (bytes := 16) f50) ?_
    refine WpItemsN.op (by simp only [go_sem, reduceIte, Nat.reduceEqDiff, Nat.reduceAdd, Bool.false_eq_true, Bool.true_beq, Bool.false_beq, Bool.not_true, Bool.not_false]) (by simp only [go_sem, reduceIte, Nat.reduceEqDiff, Nat.reduceAdd, Bool.false_eq_true, Bool.true_beq, Bool.false_beq, Bool.not_true, Bool.not_false]; exact rfl) ?_
    refine WpItemsN.op (by simp only [go_sem, reduceIte, Nat.reduceEqDiff, Nat.reduceAdd, Bool.false_eq_true, Bool.true_beq, Bool.false_beq, Bool.not_true, Bool.not_false]) (by simp only [go_sem, reduceIte, Nat.reduceEqDiff, Nat.reduceAdd, Bool.false_eq_true, Bool.true_beq, Bool.false_beq, Bool.not_true, Bool.not_false]; exact rfl) ?_
    refine WpItemsN.opT (by simp only [go_sem, reduceIte, Nat.reduceEqDiff, Nat.reduceAdd, Bool.false_eq_true, Bool.true_beq, Bool.false_beq, Bool.not_true, Bool.not_false]) (by simp only [aopT, go_sem, reduceIte, Nat.reduceEqDiff, Nat.reduceAdd, Bool.false_eq_true, Bool.true_beq, Bool.false_beq, Bool.not_true, Bool.not_false, List.all_cons, List.all_nil, List.length_cons, List.length_nil, Nat.reduceMul, Nat.reduceLeDiff, and_self, if_true, decide_true, Bool.and_self]; exact rfl) ?_
    refine WpItemsN.acall (by simp only [go_sem]) (by simp only [go_sem, List.map]; exact VSubs.refl _) (insert_e x (by simp [upd, cellsOf]) rfl) (touch_gen _ _ _ (ids := [0]) ?_ rfl rfl ?_ (Nat.le_refl _) (Nat.le_refl _)) ?_
    · exact ⟨fun j o h => h, fun t h => h⟩
    · intro id h; simp only [H0, H.only, upd, none'] at h; split at h <;> simp_all
    refine WpItemsN.op (by simp only [go_sem, reduceIte, Nat.reduceEqDiff, Nat.reduceAdd, Bool.false_eq_true, Bool.true_beq, Bool.false_beq, Bool.not_true, Bool.not_false]) (by simp only [go_sem, reduceIte, Nat.reduceEqDiff, Nat.reduceAdd, Bool.false_eq_true, Bool.true_beq, Bool.false_beq, Bool.not_true, Bool.not_false]; exact rfl) ?_
    refine WpItems.toN (log := []) (WpItems.nil ?_)
    refine Wp.ret ⟨trivial, _, rfl, ?_⟩
    simp only [go_sem, reduceIte, Nat.reduceEqDiff, Nat.reduceAdd, Bool.false_eq_true, Bool.true_beq, Bool.false_beq, Bool.not_true, Bool.not_false]
    exact VSub.refl _
  | cons s l =>
    simp only [List.length_cons] at hi hl
    refine WpItemsN.acall (by simp only [go_sem]) (by simp only [go_sem, List.map]; exact VSubs.refl _) (cloneT_gen (sz := 1) (bytes := 16) f50 (.str s) (strs l) (strs_shaped (s :: l)) (by rw [strs_length]; omega) (by rw [strs_length]; omega) 0 0) (touch_new (H0 0 0) _) ?_
    refine WpItemsN.op (by simp only [go_sem, reduceIte, Nat.reduceEqDiff, Nat.reduceAdd, Bool.false_eq_true, Bool.true_beq, Bool.false_beq, Bool.not_true, Bool.not_false]) (by simp only [go_sem, reduceIte, Nat.reduceEqDiff, Nat.reduceAdd, Bool.false_eq_true, Bool.true_beq, Bool.false_beq, Bool.not_true, Bool.not_false]; exact rfl) ?_
    refine WpItemsN.op (by simp only [go_sem, reduceIte, Nat.reduceEqDiff, Nat.reduceAdd, Bool.false_eq_true, Bool.true_beq, Bool.false_beq, Bool.not_true, Bool.not_false]) (by simp only [go_sem, reduceIte, Nat.reduceEqDiff, Nat.reduceAdd, Bool.false_eq_true, Bool.true_beq, Bool.false_beq, Bool.not_true, Bool.not_false]; exact rfl) ?_
    refine WpItemsN.opT (by simp only [go_sem, reduceIte, Nat.reduceEqDiff, Nat.reduceAdd, Bool.false_eq_true, Bool.true_beq, Bool.false_beq, Bool.not_true, Bool.not_false]) (by simp only [aopT, go_sem, reduceIte, Nat.reduceEqDiff, Nat.reduceAdd, Bool.false_eq_true, Bool.true_beq, Bool.false_beq, Bool.not_true, Bool.not_false, List.all_cons, List.all_nil, List.length_cons, List.length_nil, Nat.reduceMul, Nat.reduceLeDiff, and_self, if_true, decide_true, Bool.and_self]; exact rfl) ?_
    refine WpItemsN.acall (by simp only [go_sem]) (by simp only [go_sem, List.map]; exact VSubs.refl _) (insert_x (s :: l) i x hi (by simpa using hl) (by simp)) (touch_gen _ _ _ (ids := [0, 1]) ?_ rfl rfl ?_ (Nat.le_refl _) (Nat.le_refl _)) ?_
    · exact ⟨fun j o h => h, fun t h => h⟩
    · intro id h; simp only [H0, H.only, upd, none'] at h; split at h <;> simp_all
    refine WpItemsN.op (by simp only [go_sem, reduceIte, Nat.reduceEqDiff, Nat.reduceAdd, Bool.false_eq_true, Bool.true_beq, Bool.false_beq, Bool.not_true, Bool.not_false]) (by simp only [go_sem, reduceIte, Nat.reduceEqDiff, Nat.reduceAdd, Bool.false_eq_true, Bool.true_beq, Bool.false_beq, Bool.not_true, Bool.not_false]; exact rfl) ?_
    refine WpItems.toN (log := []) (WpItems.nil ?_)
    refine Wp.ret ⟨trivial, _, rfl, ?_⟩
    simp only [go_sem, reduceIte, Nat.reduceEqDiff, Nat.reduceAdd, Bool.false_eq_true, Bool.true_beq, Bool.false_beq, Bool.not_true, Bool.not_false]
    exact VSub.refl _

theorem delete_x (l : List (List UInt8)) (i : Nat) (hi : i < l.length) (hl : l.length < 1099511627776) :
    ACalls Try.prog 65 [.tsl 1 0 0 l.length none, .int .i64 i, .int .i64 ((i + 1 : Nat) : Int)] (.only (upd none' 0 (some (.cells ((strs l).flatMap cellsOf)))) [] 1 0) (.sl 1 (strs (l.take i ++ l.drop (i + 1))) .any) (H.less (.only (upd none' 0 (some (.cells ((strs l).flatMap cellsOf)))) [] 1 0) 0) :=
  delete_a l i hi hl (by simp [H.only, upd, strs_cells]) rfl

theorem without_p (l : List (List UInt8)) (i : Nat) (hi : i < l.length) (hl : l.length < 1099511627776) :
    PCalls Try.prog 53 [.sl 1 (strs l) .any, .int .i64 i] (.sl 1 (strs (l.take i ++ l.drop (i + 1))) .any) := by
  refine f53.pcalls0 (by simp) (by simp [allPure, isPure, capPure, strs_pure]) (by simp [isPure, capPure, strs_pure]) ?_
  unfold c53
  have hw : IntKind.i64.wrap ((i : Int) + 1) = ((i + 1 : Nat) : Int) := by rw [IntWalk.i64_in _ (by omega)]; rfl
  refine Wp.seqReg (by simp only [go_sem, reduceIte, Nat.reduceEqDiff, Nat.reduceAdd, Bool.false_eq_true, Bool.true_beq, Bool.false_beq, Bool.not_true, Bool.not_false]; exact rfl) (by trivial) ?_
  refine Wp.seq (Wp.regN ?_)
  refine WpItemsN.op (by simp only [go_sem, reduceIte, Nat.reduceEqDiff, Nat.reduceAdd, Bool.false_eq_true, Bool.true_beq, Bool.false_beq, Bool.not_true, Bool.not_false]) (by simp only [go_sem, reduceIte, Nat.reduceEqDiff, Nat.reduceAdd, Bool.false_eq_true, Bool.true_beq, Bool.false_beq, Bool.not_true, Bool.not_false]; exact rfl) ?_
  cases l with
  | nil => simp at hi
  | cons s l =>
    simp only [List.length_cons] at hi hl
    refine WpItemsN.acall (by simp only [go_sem]) (by simp only [go_sem, List.map]; exact VSubs.refl _) (cloneT_gen (sz := 1) (bytes := 16) f50 (.str s) (strs l) (strs_shaped (s :: l)) (by rw [strs_length]; omega) (by rw [strs_length]; omega) 0 0) (touch_new (H0 0 0) _) ?_
    refine WpItemsN.op (by simp only [go_sem, reduceIte, Nat.reduceEqDiff, Nat.reduceAdd, Bool.false_eq_true, Bool.true_beq, Bool.false_beq, Bool.not_true, Bool.not_false]) (by simp only [go_sem, reduceIte, Nat.reduceEqDiff, Nat.reduceAdd, Bool.false_eq_true, Bool.true_beq, Bool.false_beq, Bool.not_true, Bool.not_false, hw]; exact rfl) ?_
    refine WpItemsN.op (by simp only [go_sem, reduceIte, Nat.reduceEqDiff, Nat.reduceAdd, Bool.false_eq_true, Bool.true_beq, Bool.false_beq, Bool.not_true, Bool.not_false]) (by simp only [go_sem, reduceIte, Nat.reduceEqDiff, Nat.reduceAdd, Bool.false_eq_true, Bool.true_beq, Bool.false_beq, Bool.not_true, Bool.not_false, hw]; exact rfl) ?_
    refine WpItemsN.op (by simp only [go_sem, reduceIte, Nat.reduceEqDiff, Nat.reduceAdd, Bool.false_eq_true, Bool.true_beq, Bool.false_beq, Bool.not_true, Bool.not_false]) (by simp only [go_sem, reduceIte, Nat.reduceEqDiff, Nat.reduceAdd, Bool.false_eq_true, Bool.true_beq, Bool.false_beq, Bool.not_true, Bool.not_false, hw]; exact rfl) ?_
    refine WpItemsN.acall (by simp only [go_sem]) (by simp only [go_sem, List.map]; exact VSubs.refl _) (delete_x (s :: l) i hi (by simpa using hl)) (touch_gen _ _ _ (ids := [0]) ?_ rfl rfl ?_ (Nat.le_refl _) (Nat.le_refl _)) ?_
    · exact ⟨fun j o h => h, fun t h => h⟩
    · intro id h; simp only [H0, H.only, upd, none'] at h; split at h <;> simp_all
    refine WpItemsN.op (by simp only [go_sem, reduceIte, Nat.reduceEqDiff, Nat.reduceAdd, Bool.false_eq_true, Bool.true_beq, Bool.false_beq, Bool.not_true, Bool.not_false]) (by simp only [go_sem, reduceIte, Nat.reduceEqDiff, Nat.reduceAdd, Bool.false_eq_true, Bool.true_beq, Bool.false_beq, Bool.not_true, Bool.not_false]; exact rfl) ?_
    refine WpItems.toN (log := []) (WpItems.nil ?_)
    refine Wp.ret ⟨trivial, _, rfl, ?_⟩
    simp only [go_sem, reduceIte, Nat.reduceEqDiff, Nat.reduceAdd, Bool.false_eq_true, Bool.true_beq, Bool.false_beq, Bool.not_true, Bool.not_false]
    exact VSub.refl _

def emptyN : Node := ⟨false, [], [], []⟩
def cutN (n : Node) (i : Nat) : Node := ⟨true, n.keys.take i ++ n.keys.drop (i + 1), n.vals.take i ++ n.vals.drop (i + 1), []⟩
def dropN (n : Node) (key : List UInt8) : Node := if outFound n key then cutN n (place n key) else emptyN

theorem found_facts {n : Node} {key : List UInt8} (h : outFound n key = true) : right n = true ∧ n.leaf = true ∧ place n key < n.keys.length ∧ n.vals.length = n.keys.length ∧ n.keys.getD (place n key) [] = key := by
  simp only [outFound, found, Bool.and_eq_true, decide_eq_true_eq] at h
  obtain ⟨h1, ⟨h2, h3⟩, h4⟩ := h
  refine ⟨h1, h2, h3, ?_, h4⟩
  simp [right, h2] at h1
  exact h1.2.1.1

theorem drop_p (n : Node) (hn : Nb n) (hs : Ns n) (key : List UInt8) : PCalls Try.prog 28 [encNode n, .str key] (.tup [encNode (dropN n key), .bool (outFound n key)]) := by
  refine f28.pcalls0 (by simp) (by simp [allPure, encNode_pure, isPure]) (by simp [isPure, allPure, encNode_pure]) ?_
  unfold c28
  obtain ⟨sk, sv', si⟩ := hs
  refine Wp.seqReg (by simp only [go_sem, reduceIte, Nat.reduceEqDiff, Nat.reduceAdd, Bool.false_eq_true, Bool.true_beq, Bool.false_beq, Bool.not_true, Bool.not_false, encNode]; exact rfl) (by trivial) ?_
  refine Wp.seqItems (by simp only [go_sem, reduceIte, Nat.reduceEqDiff, Nat.reduceAdd, Bool.false_eq_true, Bool.true_beq, Bool.false_beq, Bool.not_true, Bool.not_false]; exact rfl) ?_
  refine WpItems.pcall (by simp only [go_sem, reduceIte, Nat.reduceEqDiff, Nat.reduceAdd, Bool.false_eq_true, Bool.true_beq, Bool.false_beq, Bool.not_true, Bool.not_false]) (by simp only [go_sem, reduceIte, Nat.reduceEqDiff, Nat.reduceAdd, Bool.false_eq_true, Bool.true_beq, Bool.false_beq, Bool.not_true, Bool.not_false, List.map]; exact VSubs.refl _) (find_p n hn key) ?_
  refine WpItems.eval (by simp only [go_sem, reduceIte, Nat.reduceEqDiff, Nat.reduceAdd, Bool.false_eq_true, Bool.true_beq, Bool.false_beq, Bool.not_true, Bool.not_false]; exact rfl) ?_
  refine WpItems.nil ⟨by trivial, ?_⟩
  refine Wp.seq ?_
  refine Wp.seqReg (by simp only [go_sem, reduceIte, Nat.reduceEqDiff, Nat.reduceAdd, Bool.false_eq_true, Bool.true_beq, Bool.false_beq, Bool.not_true, Bool.not_false]; exact rfl) (by trivial) ?_
  cases hf : outFound n key with
  | false =>
    refine Wp.cond_true (by simp only [go_sem, reduceIte, Nat.reduceEqDiff, Nat.reduceAdd, Bool.false_eq_true, Bool.true_beq, Bool.false_beq, Bool.not_true, Bool.not_false, hf]) ?_
    refine Wp.seqReg (by simp only [go_sem, reduceIte, Nat.reduceEqDiff, Nat.reduceAdd, Bool.false_eq_true, Bool.true_beq, Bool.false_beq, Bool.not_true, Bool.not_false]; exact rfl) (by trivial) ?_
    refine Wp.ret ⟨trivial, _, rfl, ?_⟩
    simp only [go_sem, reduceIte, Nat.reduceEqDiff, Nat.reduceAdd, Bool.false_eq_true, Bool.true_beq, Bool.false_beq, Bool.not_true, Bool.not_false, hf]
    simp only [dropN, hf, if_false, Bool.false_eq_true, emptyN, encNode]
    exact VSub.tup (VSubs.cons (VSub.agg (VSubs.cons (VSub.refl _) (VSubs.cons VSub.cap (VSubs.cons VSub.cap (VSubs.cons VSub.cap VSubs.nil))))) (VSubs.cons (VSub.refl _) VSubs.nil))
  | true =>
    obtain ⟨h1, h2, h3, h4, -⟩ := found_facts hf
    have hp : outPlace n key = place n key := by simp [outPlace, h1]
    refine Wp.cond_false (by simp only [go_sem, reduceIte, Nat.reduceEqDiff, Nat.reduceAdd, Bool.false_eq_true, Bool.true_beq, Bool.false_beq, Bool.not_true, Bool.not_false, hf]) ?_
    refine Wp.skip ?_
    refine Wp.seqItems (by simp only [go_sem, reduceIte, Nat.reduceEqDiff, Nat.reduceAdd, Bool.false_eq_true, Bool.true_beq, Bool.false_beq, Bool.not_true, Bool.not_false, hp]; exact rfl) ?_
    refine WpItems.pcall (by simp only [go_sem, reduceIte, Nat.reduceEqDiff, Nat.reduceAdd, Bool.false_eq_true, Bool.true_beq, Bool.false_beq, Bool.not_true, Bool.not_false]) (by simp only [go_sem, reduceIte, Nat.reduceEqDiff, Nat.reduceAdd, Bool.false_eq_true, Bool.true_beq, Bool.false_beq, Bool.not_true, Bool.not_false, List.map]; exact VSubs.refl _) (without_p n.keys (place n key) h3 (by omega)) ?_
    refine WpItems.eval (by simp only [go_sem, reduceIte, Nat.reduceEqDiff, Nat.reduceAdd, Bool.false_eq_true, Bool.true_beq, Bool.false_beq, Bool.not_true, Bool.not_false, hp]; exact rfl) ?_
    refine WpItems.pcall (by simp only [go_sem, reduceIte, Nat.reduceEqDiff, Nat.reduceAdd, Bool.false_eq_true, Bool.true_beq, Bool.false_beq, Bool.not_true, Bool.not_false]) (by simp only [go_sem, reduceIte, Nat.reduceEqDiff, Nat.reduceAdd, Bool.false_eq_true, Bool.true_beq, Bool.false_beq, Bool.not_true, Bool.not_false, List.map]; exact VSubs.refl _) (without_p n.vals (place n key) (by omega) (by omega)) ?_
    refine WpItems.eval (by simp only [go_sem, reduceIte, Nat.reduceEqDiff, Nat.reduceAdd, Bool.false_eq_true, Bool.true_beq, Bool.false_beq, Bool.not_true, Bool.not_false]; exact rfl) ?_
    refine WpItems.nil ⟨by simp [pairsQ, pairsOk, apart, ent0], ?_⟩
    refine Wp.ret ⟨trivial, _, rfl, ?_⟩
    simp only [go_sem, reduceIte, Nat.reduceEqDiff, Nat.reduceAdd, Bool.false_eq_true, Bool.true_beq, Bool.false_beq, Bool.not_true, Bool.not_false, hf]
    simp only [dropN, hf, if_true, cutN, encNode]
    exact VSub.tup (VSubs.cons (VSub.agg (VSubs.cons (VSub.refl _) (VSubs.cons (VSub.refl _) (VSubs.cons (VSub.refl _) (VSubs.cons VSub.cap VSubs.nil))))) (VSubs.cons (VSub.refl _) VSubs.nil))
end Go.Proofs.Ytgainpikomhepaa.Page
