/- Chapter 08: a node's bytes, as data, and how many there are. -/
import Derived.Test.YtgainpikomhepaaPageF
set_option linter.unusedSimpArgs false
set_option linter.unusedVariables false
set_option maxRecDepth 10000
namespace Go.Proofs.Ytgainpikomhepaa.Page
open Go Go.Av Go.Proofs Go.Proofs.Ytgainpikomhepaa.C

def row (n : Node) (i : Nat) : List UInt8 :=
  be 1 (n.keys.getD i []).length ++ n.keys.getD i [] ++ (if n.leaf then be 2 (n.vals.getD i []).length ++ n.vals.getD i [] else be 4 (n.kids.getD (i + 1) 0).toNat)
def rows (n : Node) : Nat → List UInt8
  | 0 => []
  | j + 1 => rows n j ++ row n j
def head (n : Node) : List UInt8 := (if n.leaf then [76] else [73]) ++ be 2 n.keys.length ++ (if n.leaf then [] else be 4 (n.kids.getD 0 0).toNat)
def text (n : Node) : List UInt8 := head n ++ rows n n.keys.length
def bytesOf (n : Node) : List UInt8 := text n ++ List.replicate (1024 - size n) 0

theorem row_length (n : Node) (i : Nat) : (row n i).length = (if n.leaf then 3 else 5) + (n.keys.getD i []).length + (if n.leaf then (n.vals.getD i []).length else 0) := by
  unfold row
  cases n.leaf <;> simp [be_length] <;> omega
theorem rows_length (n : Node) (hv : n.leaf = true → n.vals.length = n.keys.length) : ∀ j, j ≤ n.keys.length → (rows n j).length = (if n.leaf then 3 else 5) * j + tot (n.keys.take j) + (if n.leaf then tot (n.vals.take j) else 0)
  | 0, _ => by simp [rows, tot]
  | j + 1, h => by
    rw [rows, List.length_append, rows_length n hv j (by omega), row_length, tot_snoc n.keys j h]
    cases hl : n.leaf
    · simp only [Bool.false_eq_true, if_false]; omega
    · simp only [if_true]
      rw [tot_snoc n.vals j (by rw [hv hl]; omega)]
      omega
theorem head_length (n : Node) : (head n).length = if n.leaf then 3 else 7 := by
  unfold head
  cases n.leaf <;> simp [be_length]
theorem text_length (n : Node) (hv : n.leaf = true → n.vals.length = n.keys.length) : (text n).length = size n := by
  rw [text, List.length_append, head_length, rows_length n hv _ (Nat.le_refl _), List.take_length]
  unfold size
  cases hl : n.leaf
  · simp only [Bool.false_eq_true, if_false]; omega
  · simp only [if_true]
    rw [← hv hl, List.take_length]; omega

structure Right (n : Node) : Prop where
  keys : ∀ i, i < n.keys.length → (n.keys.getD i []).length ≤ 128
  vals : n.leaf = true → n.vals.length = n.keys.length
  kids : n.leaf = false → n.kids.length = n.keys.length + 1
  val : n.leaf = true → ∀ i, i < n.keys.length → (n.vals.getD i []).length ≤ 200
  kid : n.leaf = false → ∀ i, i < n.keys.length + 1 → 0 ≤ n.kids.getD i 0 ∧ n.kids.getD i 0 < 16384

theorem any_at {α : Type} {p : α → Bool} {l : List α} {d : α} (h : l.any p = false) {i : Nat} (hi : i < l.length) : p (l.getD i d) = false := by
  rw [List.getD_eq_getElem?_getD, List.getElem?_eq_getElem hi]
  rw [List.any_eq_false] at h
  simpa using h _ (List.getElem_mem hi)

theorem right_parts {n : Node} (h : right n = true) : Right n := by
  rw [right, Bool.and_eq_true] at h
  obtain ⟨hk, h⟩ := h
  refine ⟨fun i hi => ?_, fun hl => ?_, fun hl => ?_, fun hl i hi => ?_, fun hl i hi => ?_⟩
  · have := keysOk_at hk hi
    rw [keyOk, Bool.and_eq_true] at this
    exact of_decide_eq_true this.1
  all_goals rw [hl] at h; simp only [if_true, if_false, Bool.false_eq_true, Bool.and_eq_true, decide_eq_true_eq, Bool.not_eq_true'] at h
  · exact h.1.1
  · exact h.1.2
  · have := any_at (d := []) h.2 (i := i) (by omega)
    have := of_decide_eq_false this
    omega
  · have := any_at (d := 0) h.2 (i := i) (by omega)
    rw [stray, Bool.or_eq_false_iff] at this
    have h1 := of_decide_eq_false this.1
    have h2 := of_decide_eq_false this.2
    omega

theorem size_rows (n : Node) (hr : Right n) (j : Nat) (hj : j ≤ n.keys.length) : (head n ++ rows n j).length ≤ size n := by
  rw [List.length_append, head_length, rows_length n hr.vals j hj]
  have h1 := tot_take n.keys j
  have h2 := tot_take n.vals j
  unfold size
  have h3 : (if n.leaf then 3 else 5) * j ≤ (if n.leaf then 3 else 5) * n.keys.length := Nat.mul_le_mul_left _ hj
  cases hl : n.leaf <;> rw [hl] at h3 <;> simp only [if_true, if_false, Bool.false_eq_true] at h3 ⊢ <;> omega
end Go.Proofs.Ytgainpikomhepaa.Page
