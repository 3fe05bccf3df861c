/- Chapter 08: Find of the program, the walk. -/
import Derived.Test.YtgainpikomhepaaPageO
set_option linter.unusedSimpArgs false
set_option linter.unusedVariables false
set_option maxRecDepth 10000
namespace Go.Proofs.Ytgainpikomhepaa.Page
open Go Go.Av Go.Proofs Go.Proofs.Ytgainpikomhepaa.C

theorem least_mono {l : List (List UInt8)} (h : keysOk l = true) (key : List UInt8) (i j : Nat) (hij : i < j) (hj : j < l.length) (hp : least key (l.getD i []) = true) : least key (l.getD j []) = true := by
  have hr := rising h hij hj
  unfold least at hp ⊢
  cases hx : Op.bytesLess (l.getD j []) key
  · rfl
  · rw [less_trans hr hx] at hp; cases hp
theorem above_mono {l : List (List UInt8)} (h : keysOk l = true) (key : List UInt8) (i j : Nat) (hij : i < j) (hj : j < l.length) (hp : above key (l.getD i []) = true) : above key (l.getD j []) = true := by
  have hr := rising h hij hj
  unfold above at hp ⊢
  cases hx : Op.bytesLess (l.getD j []) key
  · by_cases he : l.getD j [] = key
    · rw [he] at hr; rw [hr] at hp; cases hp
    · rw [decide_eq_false he]; rfl
  · rw [less_trans hr hx] at hp; cases hp

theorem two_ids {k : Nat} {x y : Av.Obj} : ∀ id, (upd (upd none' k (some x)) (k + 1) (some y) id).isSome → id ∈ [k, k + 1] := by
  intro id h
  simp only [upd] at h
  split at h
  · simp; omega
  · split at h
    · simp; omega
    · simp [none'] at h
end Go.Proofs.Ytgainpikomhepaa.Page
