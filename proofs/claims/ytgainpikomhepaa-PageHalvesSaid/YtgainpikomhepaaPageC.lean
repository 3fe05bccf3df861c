/- Library searches over rows of plain things: slices.IndexFunc, slices.ContainsFunc, for any element kind of one cell. -/
import Derived.Test.YtgainpikomhepaaPageB
set_option linter.unusedSimpArgs false
set_option linter.unusedVariables false
set_option maxRecDepth 10000
namespace Go.Proofs.Ytgainpikomhepaa.Page
open Go Go.Av Go.Proofs Go.Proofs.Ytgainpikomhepaa.C

def ix {α : Type} (p : α → Bool) (l : List α) : Int := if l.any p then (l.findIdx p : Nat) else -1

theorem ix_found {α : Type} {p : α → Bool} {l : List α} {j : Nat} (hj : j < l.length) (h : p l[j] = true) (hs : ∀ i (hi : i < l.length), i < j → p l[i] = false) : ix p l = j := by
  have h1 : l.any p = true := List.any_eq_true.2 ⟨l[j], List.getElem_mem hj, h⟩
  have h2 : l.findIdx p = j := (List.findIdx_eq hj).2 ⟨h, fun i hi => hs i (by omega) hi⟩
  simp [ix, h1, h2]
theorem ix_none {α : Type} {p : α → Bool} {l : List α} (hs : ∀ i (hi : i < l.length), p l[i] = false) : ix p l = -1 := by
  have h1 : l.any p = false := by
    rw [List.any_eq_false]
    intro x hx
    obtain ⟨i, hi, rfl⟩ := List.mem_iff_getElem.1 hx
    simp [hs i hi]
  simp [ix, h1]
theorem ix_nonneg {α : Type} {p : α → Bool} {l : List α} : decide (0 ≤ ix p l) = l.any p := by
  unfold ix
  cases l.any p <;> simp

theorem cells_of_cell {x : AV} (h : isCell x = true) : cellsOf x = [x] := by cases x <;> simp_all [isCell, cellsOf]
theorem shaped_of_cell {x : AV} (h : isCell x = true) : shaped x = true := by simp [shaped, h]

theorem index_gen {f : FuncId} (hF : FnIs Try.prog f 19 c66 [.tmp 4]) {α : Type} (enc : α → AV) (hpure : ∀ x, isPure (enc x) = true) (hcell : ∀ x, isCell (enc x) = true) (l : List α) (hl : l.length ≤ 4611686018427387904)
    (p : α → Bool) {g : FuncId} {fn : Func} (hf : Try.prog.funcs[g]? = some fn) (hb : fn.body.isSome = true) (hn : fn.name ≠ "runtime.NumGoroutine") (hp : ∀ x ∈ l, PCalls Try.prog g [enc x] (.bool (p x))) :
    PCalls Try.prog f [.sl 1 (l.map enc) .any, .clo (.func g) [] []] (.int .i64 (ix p l)) := by
  refine hF.pcalls (by simp) (allPure_ok _ (by simp [allPure, isPure, capPure, allPure_map hpure])) (isPure_ok _ rfl) fun k m => ?_
  unfold c66
  refine Wp.seqReg (by simp only [go_sem, reduceIte, Nat.reduceEqDiff, Nat.reduceAdd, Bool.false_eq_true, Bool.true_beq, Bool.false_beq, Bool.not_true, Bool.not_false]; exact rfl) (by trivial) ?_
  refine Wp.seq ?_
  refine Wp.seqReg (by simp only [go_sem, reduceIte, Nat.reduceEqDiff, Nat.reduceAdd, Bool.false_eq_true, Bool.true_beq, Bool.false_beq, Bool.not_true, Bool.not_false, List.length_map]; exact rfl) (by trivial) ?_
  refine Wp.block ?_
  refine Wp.loopK [0, 1, 7] (by simp only [go_sem, reduceIte, Nat.reduceEqDiff, Nat.reduceAdd, Bool.false_eq_true, Bool.true_beq, Bool.false_beq, Bool.not_true, Bool.not_false, List.map]; exact rfl) (fun j : Nat => [(8, .int .i64 j)]) (fun j => j ≤ l.length ∧ ∀ i (hi : i < l.length), i < j → p l[i] = false) (fun j => l.length - j) 0 ⟨Nat.zero_le _, fun i hi h => absurd h (by omega)⟩ ?_ ?_
  · simp only [AllSub, go_sem, reduceIte, Nat.reduceEqDiff, Nat.reduceAdd, Bool.false_eq_true, Bool.true_beq, Bool.false_beq, Bool.not_true, Bool.not_false]; and_intros <;> first | exact trivial | exact VSub.refl _ | exact VSub.any _ | (refine VSub.int ?_; omega)
  · intro j hj
    obtain ⟨hj, hs⟩ := hj
    refine Wp.seqReg (by simp only [go_sem, reduceIte, Nat.reduceEqDiff, Nat.reduceAdd, Bool.false_eq_true, Bool.true_beq, Bool.false_beq, Bool.not_true, Bool.not_false]; exact rfl) (by trivial) ?_
    refine Wp.seq ?_
    refine Wp.cond_split (b := decide ((j : Int) < (l.length : Int))) (by simp only [go_sem, reduceIte, Nat.reduceEqDiff, Nat.reduceAdd, Bool.false_eq_true, Bool.true_beq, Bool.false_beq, Bool.not_true, Bool.not_false]) (fun hc => ?_) (fun hc => ?_)
    · have h1 : (0 : Int) ≤ (j : Int) := by omega
      have h2 : (j : Int) < (l.length : Int) := by simpa using hc
      have h3 : j < l.length := by omega
      have h4 : (l.map enc).getD j .any = enc l[j] := by simp [List.getD, h3]
      have hI := hcell l[j]
      have hC := cells_of_cell hI
      simp only [isCell] at hI
      simp only [cellsOf] at hC
      refine Wp.skip ?_
      refine Wp.seq ?_
      refine Wp.block ?_
      refine Wp.seqReg (by simp only [go_sem, reduceIte, Nat.reduceEqDiff, Nat.reduceAdd, Bool.false_eq_true, Bool.true_beq, Bool.false_beq, Bool.not_true, Bool.not_false]; exact rfl) (by trivial) ?_
      refine Wp.seqItems (by simp only [go_sem, reduceIte, Nat.reduceEqDiff, Nat.reduceAdd, Bool.false_eq_true, Bool.true_beq, Bool.false_beq, Bool.not_true, Bool.not_false, List.length_map, h1, h2, and_self, if_true, Int.toNat_natCast, h4, hI, hC]; exact rfl) ?_
      refine WpItems.pcallv (r := .bool (p l[j])) (by simp only [go_sem]) (by simp only [go_sem, reduceIte, Nat.reduceEqDiff]; exact rfl) hf hb hn (by simp only [go_sem, reduceIte, Nat.reduceEqDiff, List.map]; exact VSubs.refl _) (hp _ (List.getElem_mem h3)) ?_
      refine WpItems.eval (by simp only [go_sem, reduceIte, Nat.reduceEqDiff, Nat.reduceAdd, Bool.false_eq_true, Bool.true_beq, Bool.false_beq, Bool.not_true, Bool.not_false]; exact rfl) ?_
      refine WpItems.nil ⟨by trivial, ?_⟩
      refine Wp.cond_split (b := p l[j]) (by simp only [go_sem, reduceIte, Nat.reduceEqDiff, Nat.reduceAdd, Bool.false_eq_true, Bool.true_beq, Bool.false_beq, Bool.not_true, Bool.not_false]) (fun hd => ?_) (fun hd => ?_)
      · refine Wp.seqReg (by simp only [go_sem, reduceIte, Nat.reduceEqDiff, Nat.reduceAdd, Bool.false_eq_true, Bool.true_beq, Bool.false_beq, Bool.not_true, Bool.not_false]; exact rfl) (by trivial) ?_
        refine Wp.ret ⟨trivial, _, rfl, ?_⟩
        simp only [go_sem, reduceIte, Nat.reduceEqDiff, Nat.reduceAdd, Bool.false_eq_true, Bool.true_beq, Bool.false_beq, Bool.not_true, Bool.not_false]
        rw [ix_found h3 hd hs]
        exact VSub.refl _
      · refine Wp.skip ?_
        refine Wp.reg1 (by simp only [go_sem, reduceIte, Nat.reduceEqDiff, Nat.reduceAdd, Bool.false_eq_true, Bool.true_beq, Bool.false_beq, Bool.not_true, Bool.not_false]; simp (disch := omega) only [IntWalk.i64_in]; exact rfl) (by trivial) ?_
        refine ⟨j + 1, ⟨by omega, fun i hi h => ?_⟩, by omega, ?_⟩
        · by_cases he : i = j
          · subst he; exact hd
          · exact hs i hi (by omega)
        · refine StLe.tm (by simp only [AllSub, go_sem, reduceIte, Nat.reduceEqDiff, Nat.reduceAdd, Bool.false_eq_true, Bool.true_beq, Bool.false_beq, Bool.not_true, Bool.not_false]; and_intros <;> first | exact trivial | exact VSub.refl _ | exact VSub.any _ | (refine VSub.int ?_; omega))
    · have : ¬ (j : Int) < (l.length : Int) := by simpa using hc
      refine Wp.exit ?_
      refine Wp.seqReg (by simp only [go_sem, reduceIte, Nat.reduceEqDiff, Nat.reduceAdd, Bool.false_eq_true, Bool.true_beq, Bool.false_beq, Bool.not_true, Bool.not_false]; exact rfl) (by trivial) ?_
      refine Wp.ret ⟨trivial, _, rfl, ?_⟩
      simp only [go_sem, reduceIte, Nat.reduceEqDiff, Nat.reduceAdd, Bool.false_eq_true, Bool.true_beq, Bool.false_beq, Bool.not_true, Bool.not_false]
      rw [ix_none fun i hi => hs i hi (by omega)]
      exact VSub.refl _

theorem contains_gen {f f' : FuncId} (hF : FnIs Try.prog f 9 (.seq (.reg [⟨some 4, none, .mov (.c (.bool false))⟩] none) (.seq (.reg [⟨some 5, none, .mov (.t 0)⟩, ⟨some 6, none, .mov (.t 1)⟩, ⟨some 7, none, .call f' [(.t 5), (.t 6)]⟩, ⟨some 8, none, .bin .geq (.t 7) (.c (.int .i64 0))⟩, ⟨some 4, none, .mov (.t 8)⟩] none) .ret)) [.tmp 4])
    {α : Type} (enc : α → AV) (hpure : ∀ x, isPure (enc x) = true) (l : List α) (p : α → Bool) {g : FuncId} (hi : PCalls Try.prog f' [.sl 1 (l.map enc) .any, .clo (.func g) [] []] (.int .i64 (ix p l))) :
    PCalls Try.prog f [.sl 1 (l.map enc) .any, .clo (.func g) [] []] (.bool (l.any p)) := by
  refine hF.pcalls (by simp) (allPure_ok _ (by simp [allPure, isPure, capPure, allPure_map hpure])) (isPure_ok _ rfl) fun k m => ?_
  refine Wp.seqReg (by simp only [go_sem, reduceIte, Nat.reduceEqDiff, Nat.reduceAdd, Bool.false_eq_true, Bool.true_beq, Bool.false_beq, Bool.not_true, Bool.not_false]; exact rfl) (by trivial) ?_
  refine Wp.seqItems (by simp only [go_sem, reduceIte, Nat.reduceEqDiff, Nat.reduceAdd, Bool.false_eq_true, Bool.true_beq, Bool.false_beq, Bool.not_true, Bool.not_false]; exact rfl) ?_
  refine WpItems.pcall (by simp only [go_sem, reduceIte, Nat.reduceEqDiff, Nat.reduceAdd, Bool.false_eq_true, Bool.true_beq, Bool.false_beq, Bool.not_true, Bool.not_false]) (by simp only [go_sem, reduceIte, Nat.reduceEqDiff, Nat.reduceAdd, Bool.false_eq_true, Bool.true_beq, Bool.false_beq, Bool.not_true, Bool.not_false, List.map]; exact VSubs.refl _) (hi) ?_
  refine WpItems.eval (by simp only [go_sem, reduceIte, Nat.reduceEqDiff, Nat.reduceAdd, Bool.false_eq_true, Bool.true_beq, Bool.false_beq, Bool.not_true, Bool.not_false]; exact rfl) ?_
  refine WpItems.nil ⟨by trivial, ?_⟩
  refine Wp.ret ⟨trivial, _, rfl, ?_⟩
  simp only [go_sem, reduceIte, Nat.reduceEqDiff, Nat.reduceAdd, Bool.false_eq_true, Bool.true_beq, Bool.false_beq, Bool.not_true, Bool.not_false]
  rw [← ix_nonneg]
  exact VSub.refl _
end Go.Proofs.Ytgainpikomhepaa.Page
