/- Chapter 15: how rows of pairs differ: plain data. -/
import Derived.Test.YtlefnohibjcekaaLessB
set_option linter.unusedSimpArgs false
set_option linter.unusedVariables false
set_option maxRecDepth 10000
namespace Go.Proofs.Ytlefnohibjcekaa.Batch
open Go Go.Av Go.Proofs Go.Proofs.Ytlefnohibjcekaa.C

abbrev Bs := List UInt8
structure Pr where
  k : Bs
  v : Bs
  deriving DecidableEq
structure Ch where
  k : Bs
  v : Bs
  d : Bool
  deriving DecidableEq

instance : Inhabited Pr := ⟨⟨[], []⟩⟩
instance : Inhabited Ch := ⟨⟨[], [], false⟩⟩

def encPr (p : Pr) : AV := .agg [.str p.k, .str p.v]
def encCh (c : Ch) : AV := .agg [.str c.k, .str c.v, .bool c.d]
def prs (l : List Pr) : List AV := l.map encPr
def chs (l : List Ch) : List AV := l.map encCh

theorem prs_length (l : List Pr) : (prs l).length = l.length := by simp [prs]
theorem chs_length (l : List Ch) : (chs l).length = l.length := by simp [chs]
theorem prs_getD (l : List Pr) (k : Nat) (d : AV) (h : k < l.length) : (prs l).getD k d = encPr (l.getD k default) := by
  simp [prs, List.getD, List.getElem?_map, List.getElem?_eq_getElem h]
theorem chs_getD (l : List Ch) (k : Nat) (d : AV) (h : k < l.length) : (chs l).getD k d = encCh (l.getD k default) := by
  simp [chs, List.getD, List.getElem?_map, List.getElem?_eq_getElem h]
theorem allPure_map {α : Type} {f : α → AV} (h : ∀ x, isPure (f x) = true) : ∀ l : List α, allPure (l.map f) = true
  | [] => rfl
  | x :: l => by simp only [List.map_cons, allPure, h x, Bool.true_and]; exact allPure_map h l
theorem prs_pure (l : List Pr) : allPure (prs l) = true := allPure_map (fun x => by simp [encPr, isPure, allPure]) l
theorem chs_pure (l : List Ch) : allPure (chs l) = true := allPure_map (fun x => by simp [encCh, isPure, allPure]) l

def riseAt (l : List Pr) (i : Nat) : Bool := decide (i = 0) || Op.bytesLess (l.getD (i - 1) default).k (l.getD i default).k
def rises (l : List Pr) : Bool := (List.range l.length).all (riseAt l)

def differ : List Pr → List Pr → List Ch
  | [], b => b.map fun p => ⟨p.k, p.v, false⟩
  | x :: a, [] => ⟨x.k, [], true⟩ :: differ a []
  | x :: a, y :: b =>
    if Op.bytesLess x.k y.k then ⟨x.k, [], true⟩ :: differ a (y :: b)
    else if Op.bytesLess y.k x.k then ⟨y.k, y.v, false⟩ :: differ (x :: a) b
    else if x.v = y.v then differ a b else ⟨y.k, y.v, false⟩ :: differ a b
termination_by a b => a.length + b.length

def outDiffer (a b : List Pr) : List Ch := if rises a && rises b then differ a b else []

theorem drop_at {α : Type} [Inhabited α] {l : List α} {i : Nat} (h : i < l.length) : l.drop i = l.getD i default :: l.drop (i + 1) := by
  rw [List.drop_eq_getElem_cons h, List.getD_eq_getElem?_getD, List.getElem?_eq_getElem h]; rfl

theorem differ_del {a b : List Pr} {i k : Nat} (hi : i < a.length) (h : b.length ≤ k ∨ k < b.length ∧ Op.bytesLess (a.getD i default).k (b.getD k default).k = true) :
    differ (a.drop i) (b.drop k) = ⟨(a.getD i default).k, [], true⟩ :: differ (a.drop (i + 1)) (b.drop k) := by
  rw [drop_at hi]
  rcases h with h | ⟨h, hl⟩
  · rw [List.drop_eq_nil_of_le h, differ]
  · rw [drop_at h, differ, if_pos hl]

theorem differ_put {a b : List Pr} {i k : Nat} (hk : k < b.length) (h : a.length ≤ i ∨ i < a.length ∧ Op.bytesLess (a.getD i default).k (b.getD k default).k = false ∧ Op.bytesLess (b.getD k default).k (a.getD i default).k = true) :
    differ (a.drop i) (b.drop k) = ⟨(b.getD k default).k, (b.getD k default).v, false⟩ :: differ (a.drop i) (b.drop (k + 1)) := by
  rw [drop_at hk]
  rcases h with h | ⟨h, hl, hg⟩
  · rw [List.drop_eq_nil_of_le h, differ, differ]; rfl
  · rw [drop_at h, differ, hl, hg]
    simp only [Bool.false_eq_true, if_false, if_true]

theorem differ_eq {a b : List Pr} {i k : Nat} (hi : i < a.length) (hk : k < b.length) (h : Op.bytesLess (a.getD i default).k (b.getD k default).k = false) (h2 : Op.bytesLess (b.getD k default).k (a.getD i default).k = false) :
    differ (a.drop i) (b.drop k) = if (a.getD i default).v = (b.getD k default).v then differ (a.drop (i + 1)) (b.drop (k + 1)) else ⟨(b.getD k default).k, (b.getD k default).v, false⟩ :: differ (a.drop (i + 1)) (b.drop (k + 1)) := by
  rw [drop_at hi, drop_at hk, differ, h, h2]
  simp only [Bool.false_eq_true, if_false]

theorem differ_end {a b : List Pr} {i k : Nat} (hi : a.length ≤ i) (hk : b.length ≤ k) : differ (a.drop i) (b.drop k) = [] := by
  rw [List.drop_eq_nil_of_le hi, List.drop_eq_nil_of_le hk, differ]; rfl

theorem differ_len (a b : List Pr) : (differ a b).length ≤ a.length + b.length := by
  induction a, b using differ.induct with
  | case1 b => simp [differ]
  | case2 x a ih => rw [differ]; simp only [List.length_cons] at ih ⊢; omega
  | case3 x a y b h ih => rw [differ, if_pos h]; simp only [List.length_cons] at ih ⊢; omega
  | case4 x a y b h h2 ih => rw [differ, if_neg h, if_pos h2]; simp only [List.length_cons] at ih ⊢; omega
  | case5 x a y b h h2 h3 ih => rw [differ, if_neg h, if_neg h2, if_pos h3]; simp only [List.length_cons] at ih ⊢; omega
  | case6 x a y b h h2 h3 ih => rw [differ, if_neg h, if_neg h2, if_neg h3]; simp only [List.length_cons] at ih ⊢; omega
end Go.Proofs.Ytlefnohibjcekaa.Batch
