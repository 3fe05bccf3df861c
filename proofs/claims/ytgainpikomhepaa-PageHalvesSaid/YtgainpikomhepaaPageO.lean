/- Chapter 08: Find of the program. -/
import Derived.Test.YtgainpikomhepaaPageN
set_option linter.unusedSimpArgs false
set_option linter.unusedVariables false
set_option maxRecDepth 10000
namespace Go.Proofs.Ytgainpikomhepaa.Page
open Go Go.Av Go.Proofs Go.Proofs.Ytgainpikomhepaa.C

def least (key k : List UInt8) : Bool := !Op.bytesLess k key
def above (key k : List UInt8) : Bool := !(Op.bytesLess k key || decide (k = key))
def place (n : Node) (key : List UInt8) : Nat := if n.leaf then n.keys.findIdx (least key) else n.keys.findIdx (above key)
def found (n : Node) (key : List UInt8) : Bool := n.leaf && decide (place n key < n.keys.length) && decide (n.keys.getD (place n key) [] = key)

theorem findIdx_le (p : List UInt8 → Bool) (l : List (List UInt8)) : l.findIdx p ≤ l.length := List.findIdx_le_length
theorem before_idx {p : List UInt8 → Bool} {l : List (List UInt8)} {i : Nat} (h : i < l.findIdx p) : p (l.getD i []) = false := by
  have hl : i < l.length := Nat.lt_of_lt_of_le h (findIdx_le p l)
  have := List.not_of_lt_findIdx h
  rw [List.getD_eq_getElem?_getD, List.getElem?_eq_getElem hl]
  simpa using this
theorem from_idx {p : List UInt8 → Bool} {l : List (List UInt8)} (mono : ∀ i j, i < j → j < l.length → p (l.getD i []) = true → p (l.getD j []) = true) {i : Nat} (h : l.findIdx p ≤ i) (hi : i < l.length) : p (l.getD i []) = true := by
  have hl : l.findIdx p < l.length := by omega
  have h0 : p (l.getD (l.findIdx p) []) = true := by
    rw [List.getD_eq_getElem?_getD, List.getElem?_eq_getElem hl]
    simpa using List.findIdx_getElem (w := hl)
  by_cases he : i = l.findIdx p
  · rw [he]; exact h0
  · exact mono _ _ (by omega) hi h0
end Go.Proofs.Ytgainpikomhepaa.Page
