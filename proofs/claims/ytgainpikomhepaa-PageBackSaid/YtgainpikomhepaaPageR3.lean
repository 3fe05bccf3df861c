/- Chapter 08: the scanner's pieces; a node out of bytes, as data. -/
import Derived.Test.YtgainpikomhepaaPageR2
set_option linter.unusedSimpArgs false
set_option linter.unusedVariables false
set_option maxRecDepth 10000
namespace Go.Proofs.Ytgainpikomhepaa.Page
open Go Go.Av Go.Proofs Go.Proofs.Ytgainpikomhepaa.C

theorem upd_upd (id : Nat) (f : Nat → Option Av.Obj) (x y : Option Av.Obj) : upd (upd f id x) id y = upd f id y := by funext j; simp only [upd]; split <;> rfl

theorem piece_p (b : List UInt8) (s : Scan) (w : Nat) (hb : b.length ≤ 1099511627776) (hs : s.pos ≤ b.length) (hw : w ≤ 4) (id n m : Nat) :
    ACalls Try.prog 43 [.ptr id 0, .int .i64 w] (.only (upd none' id (some (scanO b s))) [] n m) (.str (pieceS b s w).1) (.only (upd none' id (some (scanO b (pieceS b s w).2))) [] n m) := by
  suffices h : ∃ r h', ACalls Try.prog 43 [.ptr id 0, .int .i64 w] (.only (upd none' id (some (scanO b s))) [] n m) r h' ∧ r = (.str (pieceS b s w).1) ∧ h' = (.only (upd none' id (some (scanO b (pieceS b s w).2))) [] n m) by
    obtain ⟨r, h', ha, rfl, rfl⟩ := h; exact ha
  refine f43.acalls (by simp) ?_
  unfold c43
  refine Wp.seqReg (by simp only [go_sem, reduceIte, Nat.reduceEqDiff, Nat.reduceAdd, Bool.false_eq_true, Bool.true_beq, Bool.false_beq, Bool.not_true, Bool.not_false]; exact rfl) (by trivial) ?_
  refine Wp.seqItems (by simp only [go_sem, reduceIte, Nat.reduceEqDiff, Nat.reduceAdd, Bool.false_eq_true, Bool.true_beq, Bool.false_beq, Bool.not_true, Bool.not_false]; exact rfl) ?_
  refine WpItems.acall (by simp only [go_sem]) (by simp only [go_sem, reduceIte, Nat.reduceEqDiff, List.map]; exact VSubs.refl _) (number_p b s w hb hs hw id n m) (touch_write _ (id := id) (ob := scanO b s) (ob' := scanO b (numS b s w).2) (by simp [upd])) ?_
  have hv := numS_val (b := b) (s := s) (w := w)
  have hp := numS_le (b := b) (w := w) hs
  have hpw : (256 : Nat) ^ w ≤ 256 ^ 4 := Nat.pow_le_pow_right (by omega) (by omega)
  unfold pieceS
  generalize (numS b s w).1 = V at *
  generalize (numS b s w).2 = s1 at *
  obtain ⟨p, ok⟩ := s1
  simp only at hp
  have g1 : IntKind.i64.wrap ((b.length : Int) - (p : Int)) = (b.length : Int) - (p : Int) := IntWalk.i64_in _ (by omega)
  simp only [scanO]
  refine WpItems.eval (by simp only [go_sem, reduceIte, Nat.reduceEqDiff, Nat.reduceAdd, Bool.false_eq_true, Bool.true_beq, Bool.false_beq, Bool.not_true, Bool.not_false, upd_upd]; exact rfl) ?_
  refine WpItems.nil ⟨by trivial, ?_⟩
  refine Wp.seq ?_
  by_cases hc : (ok && decide (p + V ≤ b.length)) = true
  · have hc' := hc
    simp only [Bool.and_eq_true, decide_eq_true_eq] at hc'
    obtain ⟨rfl, hc2⟩ := hc'
    have g2 : decide ((V : Int) ≤ (b.length : Int) - (p : Int)) = true := decide_eq_true (by omega)
    have g3 : IntKind.i64.wrap ((p : Int) + (V : Int)) = ((p + V : Nat) : Int) := by rw [IntWalk.i64_in _ (by omega)]; omega
    have g4 : IntKind.i64.wrap (((p + V : Nat) : Int) - (V : Int)) = (p : Int) := by rw [IntWalk.i64_in _ (by omega)]; omega
    have x1 : (0 : Int) ≤ (p : Int) := by omega
    have x2 : (p : Int) ≤ ((p + V : Nat) : Int) := by omega
    have x3 : (0 : Int) ≤ ((p + V : Nat) : Int) := by omega
    have x4 : ((p + V : Nat) : Int) ≤ (b.length : Int) := by omega
    have lp : (((bytesAV b).take (p + V)).drop p) = bytesAV ((b.drop p).take V) := by
      simp only [bytesAV, ← List.map_take, ← List.map_drop]
      rw [List.drop_take]; congr 2; congr 1; omega
    rw [if_pos (by simpa using hc2)]
    repeat (first
      | (refine Wp.seqItems (its := ?_) (t' := ?_) (h' := ?_) (log := ?_) ?_ ?_; rotate_left 4; (· simp only [go_sem, reduceIte, Nat.reduceEqDiff, Nat.reduceAdd, Bool.false_eq_true, Bool.true_beq, Bool.false_beq, Bool.not_true, Bool.not_false, and_self, true_and, and_true, if_true, if_false, true_or, or_true, Nat.zero_mul, Nat.one_mul, Nat.zero_le, Nat.reduceMul, Nat.reduceLeDiff, decide_true, decide_false, Int.toNat_natCast, List.length_append, List.filter_cons, List.filter_nil, ne_eq, not_true_eq_false, not_false_eq_true, g1, g2, g3, g4, x1, x2, x3, x4, lp, upd_upd, unBytes_bytes]; exact rfl))
      | (refine Wp.items (its := ?_) (t' := ?_) (h' := ?_) (log := ?_) ?_ ?_; rotate_left 4; (· simp only [go_sem, reduceIte, Nat.reduceEqDiff, Nat.reduceAdd, Bool.false_eq_true, Bool.true_beq, Bool.false_beq, Bool.not_true, Bool.not_false, and_self, true_and, and_true, if_true, if_false, true_or, or_true, Nat.zero_mul, Nat.one_mul, Nat.zero_le, Nat.reduceMul, Nat.reduceLeDiff, decide_true, decide_false, Int.toNat_natCast, List.length_append, List.filter_cons, List.filter_nil, ne_eq, not_true_eq_false, not_false_eq_true, g1, g2, g3, g4, x1, x2, x3, x4, lp, upd_upd, unBytes_bytes]; exact rfl))
      | (refine WpItems.nil ⟨?_, ?_⟩; (· first | trivial | simp [pairsQ, pairsOk, apart, ent0]))
      | (refine Wp.cond_true ?_ ?_; (· simp only [go_sem, reduceIte, Nat.reduceEqDiff, Nat.reduceAdd, Bool.false_eq_true, Bool.true_beq, Bool.false_beq, Bool.not_true, Bool.not_false, and_self, true_and, and_true, if_true, if_false, true_or, or_true, Nat.zero_mul, Nat.one_mul, Nat.zero_le, Nat.reduceMul, Nat.reduceLeDiff, decide_true, decide_false, Int.toNat_natCast, List.length_append, List.filter_cons, List.filter_nil, ne_eq, not_true_eq_false, not_false_eq_true, g1, g2, g3, g4, x1, x2, x3, x4, lp, upd_upd, unBytes_bytes]))
      | (refine Wp.cond_false ?_ ?_; (· simp only [go_sem, reduceIte, Nat.reduceEqDiff, Nat.reduceAdd, Bool.false_eq_true, Bool.true_beq, Bool.false_beq, Bool.not_true, Bool.not_false, and_self, true_and, and_true, if_true, if_false, true_or, or_true, Nat.zero_mul, Nat.one_mul, Nat.zero_le, Nat.reduceMul, Nat.reduceLeDiff, decide_true, decide_false, Int.toNat_natCast, List.length_append, List.filter_cons, List.filter_nil, ne_eq, not_true_eq_false, not_false_eq_true, g1, g2, g3, g4, x1, x2, x3, x4, lp, upd_upd, unBytes_bytes]))
      | refine Wp.skip ?_
      | refine Wp.block ?_
      | refine Wp.exit ?_
      | refine Wp.seq ?_)
    refine Wp.ret ⟨trivial, _, rfl, ?_, ?_⟩
    · first | rfl | simp only [go_sem, reduceIte, Nat.reduceEqDiff]
    · first | rfl | simp only [go_sem, reduceIte, Nat.reduceEqDiff]
  · rw [if_neg (by simpa using hc)]
    cases ok with
    | false =>
      repeat (first
        | (refine Wp.seqItems (its := ?_) (t' := ?_) (h' := ?_) (log := ?_) ?_ ?_; rotate_left 4; (· simp only [go_sem, reduceIte, Nat.reduceEqDiff, Nat.reduceAdd, Bool.false_eq_true, Bool.true_beq, Bool.false_beq, Bool.not_true, Bool.not_false, and_self, true_and, and_true, if_true, if_false, true_or, or_true, Nat.zero_mul, Nat.one_mul, Nat.zero_le, Nat.reduceMul, Nat.reduceLeDiff, decide_true, decide_false, Int.toNat_natCast, List.length_append, List.filter_cons, List.filter_nil, ne_eq, not_true_eq_false, not_false_eq_true, g1, upd_upd]; exact rfl))
        | (refine Wp.items (its := ?_) (t' := ?_) (h' := ?_) (log := ?_) ?_ ?_; rotate_left 4; (· simp only [go_sem, reduceIte, Nat.reduceEqDiff, Nat.reduceAdd, Bool.false_eq_true, Bool.true_beq, Bool.false_beq, Bool.not_true, Bool.not_false, and_self, true_and, and_true, if_true, if_false, true_or, or_true, Nat.zero_mul, Nat.one_mul, Nat.zero_le, Nat.reduceMul, Nat.reduceLeDiff, decide_true, decide_false, Int.toNat_natCast, List.length_append, List.filter_cons, List.filter_nil, ne_eq, not_true_eq_false, not_false_eq_true, g1, upd_upd]; exact rfl))
        | (refine WpItems.nil ⟨?_, ?_⟩; (· first | trivial | simp [pairsQ, pairsOk, apart, ent0]))
        | (refine Wp.cond_true ?_ ?_; (· simp only [go_sem, reduceIte, Nat.reduceEqDiff, Nat.reduceAdd, Bool.false_eq_true, Bool.true_beq, Bool.false_beq, Bool.not_true, Bool.not_false, and_self, true_and, and_true, if_true, if_false, true_or, or_true, Nat.zero_mul, Nat.one_mul, Nat.zero_le, Nat.reduceMul, Nat.reduceLeDiff, decide_true, decide_false, Int.toNat_natCast, List.length_append, List.filter_cons, List.filter_nil, ne_eq, not_true_eq_false, not_false_eq_true, g1, upd_upd]))
        | (refine Wp.cond_false ?_ ?_; (· simp only [go_sem, reduceIte, Nat.reduceEqDiff, Nat.reduceAdd, Bool.false_eq_true, Bool.true_beq, Bool.false_beq, Bool.not_true, Bool.not_false, and_self, true_and, and_true, if_true, if_false, true_or, or_true, Nat.zero_mul, Nat.one_mul, Nat.zero_le, Nat.reduceMul, Nat.reduceLeDiff, decide_true, decide_false, Int.toNat_natCast, List.length_append, List.filter_cons, List.filter_nil, ne_eq, not_true_eq_false, not_false_eq_true, g1, upd_upd]))
        | refine Wp.skip ?_
        | refine Wp.block ?_
        | refine Wp.exit ?_
        | refine Wp.seq ?_)
      refine Wp.ret ⟨trivial, _, rfl, ?_, ?_⟩
      · first | rfl | simp only [go_sem, reduceIte, Nat.reduceEqDiff]
      · first | rfl | simp only [go_sem, reduceIte, Nat.reduceEqDiff]
    | true =>
      have hlt : ¬ p + V ≤ b.length := by simpa using hc
      have g2 : decide ((V : Int) ≤ (b.length : Int) - (p : Int)) = false := decide_eq_false (by omega)
      repeat (first
        | (refine Wp.seqItems (its := ?_) (t' := ?_) (h' := ?_) (log := ?_) ?_ ?_; rotate_left 4; (· simp only [go_sem, reduceIte, Nat.reduceEqDiff, Nat.reduceAdd, Bool.false_eq_true, Bool.true_beq, Bool.false_beq, Bool.not_true, Bool.not_false, and_self, true_and, and_true, if_true, if_false, true_or, or_true, Nat.zero_mul, Nat.one_mul, Nat.zero_le, Nat.reduceMul, Nat.reduceLeDiff, decide_true, decide_false, Int.toNat_natCast, List.length_append, List.filter_cons, List.filter_nil, ne_eq, not_true_eq_false, not_false_eq_true, g1, g2, upd_upd]; exact rfl))
        | (refine Wp.items (its := ?_) (t' := ?_) (h' := ?_) (log := ?_) ?_ ?_; rotate_left 4; (· simp only [go_sem, reduceIte, Nat.reduceEqDiff, Nat.reduceAdd, Bool.false_eq_true, Bool.true_beq, Bool.false_beq, Bool.not_true, Bool.not_false, and_self, true_and, and_true, if_true, if_false, true_or, or_true, Nat.zero_mul, Nat.one_mul, Nat.zero_le, Nat.reduceMul, Nat.reduceLeDiff, decide_true, decide_false, Int.toNat_natCast, List.length_append, List.filter_cons, List.filter_nil, ne_eq, not_true_eq_false, not_false_eq_true, g1, g2, upd_upd]; exact rfl))
        | (refine WpItems.nil ⟨?_, ?_⟩; (· first | trivial | simp [pairsQ, pairsOk, apart, ent0]))
        | (refine Wp.cond_true ?_ ?_; (· simp only [go_sem, reduceIte, Nat.reduceEqDiff, Nat.reduceAdd, Bool.false_eq_true, Bool.true_beq, Bool.false_beq, Bool.not_true, Bool.not_false, and_self, true_and, and_true, if_true, if_false, true_or, or_true, Nat.zero_mul, Nat.one_mul, Nat.zero_le, Nat.reduceMul, Nat.reduceLeDiff, decide_true, decide_false, Int.toNat_natCast, List.length_append, List.filter_cons, List.filter_nil, ne_eq, not_true_eq_false, not_false_eq_true, g1, g2, upd_upd]))
        | (refine Wp.cond_false ?_ ?_; (· simp only [go_sem, reduceIte, Nat.reduceEqDiff, Nat.reduceAdd, Bool.false_eq_true, Bool.true_beq, Bool.false_beq, Bool.not_true, Bool.not_false, and_self, true_and, and_true, if_true, if_false, true_or, or_true, Nat.zero_mul, Nat.one_mul, Nat.zero_le, Nat.reduceMul, Nat.reduceLeDiff, decide_true, decide_false, Int.toNat_natCast, List.length_append, List.filter_cons, List.filter_nil, ne_eq, not_true_eq_false, not_false_eq_true, g1, g2, upd_upd]))
        | refine Wp.skip ?_
        | refine Wp.block ?_
        | refine Wp.exit ?_
        | refine Wp.seq ?_)
      refine Wp.ret ⟨trivial, _, rfl, ?_, ?_⟩
      · first | rfl | simp only [go_sem, reduceIte, Nat.reduceEqDiff]
      · first | rfl | simp only [go_sem, reduceIte, Nat.reduceEqDiff]

/-- what has been read -/
structure Acc where
  keys : List (List UInt8)
  vals : List (List UInt8)
  kids : List Int
  s : Scan

def keyS (b : List UInt8) (a : Acc) : List UInt8 × Scan := pieceS b a.s 1
def stepS (leaf : Bool) (b : List UInt8) (a : Acc) : Acc :=
  if leaf then ⟨a.keys ++ [(pieceS b a.s 1).1], a.vals ++ [(pieceS b (pieceS b a.s 1).2 2).1], a.kids, (pieceS b (pieceS b a.s 1).2 2).2⟩
  else ⟨a.keys ++ [(pieceS b a.s 1).1], a.vals, a.kids ++ [((numS b (pieceS b a.s 1).2 4).1 : Int)], (numS b (pieceS b a.s 1).2 4).2⟩
def loopS (leaf : Bool) (b : List UInt8) : Nat → Acc → Acc
  | 0, a => a
  | c + 1, a => if a.s.ok then loopS leaf b c (stepS leaf b a) else a
def startS (leaf : Bool) (b : List UInt8) : Acc := if leaf then ⟨[], [], [], ⟨3, true⟩⟩ else ⟨[], [], [((numS b ⟨3, true⟩ 4).1 : Int)], (numS b ⟨3, true⟩ 4).2⟩
def leafOf (b : List UInt8) : Bool := decide (b.getD 0 0 = 76)
def accOf (b : List UInt8) : Acc := loopS (leafOf b) b (val ((b.drop 1).take 2)) (startS (leafOf b) b)
def nodeOf (b : List UInt8) : Node := ⟨leafOf b, (accOf b).keys, (accOf b).vals, (accOf b).kids⟩
/-- bytes that are a node's -/
def isPage (b : List UInt8) : Bool := decide (b.length = 1024) && (accOf b).s.ok && decide (check (nodeOf b) = 0) && decide (bytesOf (nodeOf b) = b)
def readN (b : List UInt8) : Node := if isPage b then nodeOf b else zeroN
def readE (b : List UInt8) : Nat := if isPage b then 0 else 4
end Go.Proofs.Ytgainpikomhepaa.Page
