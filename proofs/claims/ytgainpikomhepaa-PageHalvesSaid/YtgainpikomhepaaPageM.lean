/- Chapter 08: the tests of Find. -/
import Derived.Test.YtgainpikomhepaaPageL
set_option linter.unusedSimpArgs false
set_option linter.unusedVariables false
set_option maxRecDepth 10000
namespace Go.Proofs.Ytgainpikomhepaa.Page
open Go Go.Av Go.Proofs Go.Proofs.Ytgainpikomhepaa.C

def nodeCells (n : Node) : List AV := [.bool n.leaf, .sl 1 (strs n.keys) .any, .sl 1 (strs n.vals) .any, .sl 1 (ints n.kids) .any]

theorem above_p (n : Node) (key : List UInt8) (i : Nat) (hi : i < n.keys.length) (objs : Nat → Option Av.Obj) (a b : Nat) (ha : objs a = some (.cells (nodeCells n))) (hb : objs b = some (.cells [.str key])) :
    RCalls Try.prog 40 [.int .i64 i, .ptr a 0, .ptr b 0] objs (.bool (!(Op.bytesLess (n.keys.getD i []) key || decide (n.keys.getD i [] = key)))) := by
  refine f40.rcalls (by simp) fun k m => ?_
  unfold c40
  unfold nodeCells at ha
  have h1 : (0 : Int) ≤ (i : Int) := by omega
  have h2 : (i : Int) < (n.keys.length : Int) := by omega
  refine Wp.seqReg (by simp only [go_sem, reduceIte, Nat.reduceEqDiff, Nat.reduceAdd, Bool.false_eq_true, Bool.true_beq, Bool.false_beq, Bool.not_true, Bool.not_false]; exact rfl) (by trivial) ?_
  refine Wp.seqReg (by simp only [go_sem, reduceIte, Nat.reduceEqDiff, Nat.reduceAdd, Bool.false_eq_true, Bool.true_beq, Bool.false_beq, Bool.not_true, Bool.not_false, ha, hb, Int.toNat_natCast, strs_getD _ _ _ hi, h1, h2, and_self, if_true]; exact rfl) (by simp [pairsQ, pairsOk, apart, ent0]) ?_
  refine Wp.ret ⟨trivial, _, rfl, ?_, rfl⟩
  simp only [go_sem, reduceIte, Nat.reduceEqDiff]

theorem least_p (n : Node) (key : List UInt8) (i : Nat) (hi : i < n.keys.length) (objs : Nat → Option Av.Obj) (a b : Nat) (ha : objs a = some (.cells (nodeCells n))) (hb : objs b = some (.cells [.str key])) :
    RCalls Try.prog 41 [.int .i64 i, .ptr a 0, .ptr b 0] objs (.bool (!Op.bytesLess (n.keys.getD i []) key)) := by
  refine f41.rcalls (by simp) fun k m => ?_
  unfold c41
  unfold nodeCells at ha
  have h1 : (0 : Int) ≤ (i : Int) := by omega
  have h2 : (i : Int) < (n.keys.length : Int) := by omega
  refine Wp.seqReg (by simp only [go_sem, reduceIte, Nat.reduceEqDiff, Nat.reduceAdd, Bool.false_eq_true, Bool.true_beq, Bool.false_beq, Bool.not_true, Bool.not_false]; exact rfl) (by trivial) ?_
  refine Wp.seqReg (by simp only [go_sem, reduceIte, Nat.reduceEqDiff, Nat.reduceAdd, Bool.false_eq_true, Bool.true_beq, Bool.false_beq, Bool.not_true, Bool.not_false, ha, hb, Int.toNat_natCast, strs_getD _ _ _ hi, h1, h2, and_self, if_true]; exact rfl) (by simp [pairsQ, pairsOk, apart, ent0]) ?_
  refine Wp.ret ⟨trivial, _, rfl, ?_, rfl⟩
  simp only [go_sem, reduceIte, Nat.reduceEqDiff]
end Go.Proofs.Ytgainpikomhepaa.Page
