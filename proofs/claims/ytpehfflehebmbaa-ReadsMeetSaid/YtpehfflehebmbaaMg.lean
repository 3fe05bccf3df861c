/- ReadsMeet: the statement 'ReadsMeetSaid', closed by the law that the walk shows. No condition. -/
import Derived.Deep.CondSized
import Derived.IntWalk
import Derived.KernelRfl
import Derived.Laws.Append
import Derived.Laws.AppendOwn
import Derived.Laws.BytesArg
import Derived.Laws.Cover3
import Derived.Laws.Entries
import Derived.Laws.IdiomCopy
import Derived.Laws.IdiomStrings
import Derived.Laws.Pointers
import Derived.Laws.Small
import Derived.Laws.Strings
import Derived.Laws.StructEq
import Derived.MapKept
import Derived.OpenShut
import Derived.Orders
import Derived.OrdersIn
import Derived.ProofKit
import Derived.RangeFuncRecord
import Derived.RangeFuncSeq
import Derived.ReadAgain
import Derived.Scope
import Derived.Shelf.Slices.Cells
import Derived.Shelf.Slices.Delete
import Derived.Shelf.Spec.SlicesInsertGrow
import Derived.SizedLaws
import Derived.Test.YtpehfflehebmbaaRows
import Derived.Test.YtpehfflehebmbaaMgD
section
set_option linter.unusedSimpArgs false
set_option linter.unusedVariables false
set_option maxRecDepth 10000
namespace Go.Proofs.Ytpehfflehebmbaa.Space
open Go Go.Av Go.Proofs Go.Proofs.Ytpehfflehebmbaa.C Go.Proofs.Ytpehfflehebmbaa.Batch
def mayB (x : It) (ahead : Bs) (first : Bool) (last : Int) : Bool := decide ((x.1.length : Int) ≤ 128) && (first || Op.bytesLess ahead x.1) && decide (0 < x.2.length) && chB x.2 && decide ((x.2.getD 0 default).t ≤ last)
theorem may_p (x : It) (hl : x.2.length ≤ 1152921504606846976) (ahead : Bs) (first : Bool) (last : Int) : PCalls Try.prog 65 [encI x, .str ahead, .bool first, .int .i64 last] (.bool (mayB x ahead first last)) := by
  refine f65.pcalls0 (by simp) (by simp [allPure, isPure, capPure, encI, vAV, vers_pure]) rfl ?_
  unfold c65
  obtain ⟨q, vs⟩ := x
  have hck := check_p vs (by simp only at hl; omega)
  have i0 : (0 : Int) ≤ 0 := by omega
  have t0 : Int.toNat 0 = 0 := rfl
  by_cases h1 : (q.length : Int) ≤ 128
  · have d1 := decide_eq_true h1
    cases h2 : (first || Op.bytesLess ahead q) with
    | false =>
      rw [Bool.or_eq_false_iff] at h2
      repeat' (first
        | (refine WpItems.nil ⟨?_, ?_⟩; (· first | trivial | simp [pairsQ, pairsOk, apart, ent0]))
        | (apply WpItems.evU; (· simp only [go_sem, reduceIte, Nat.reduceEqDiff, Nat.reduceAdd, bx, ax, if_true, if_false, Nat.reduceMul, Nat.reduceLeDiff, encI, vAV, d1, h2.1, h2.2, List.length_map]; exact rfl); (· simp only [go_sem, reduceIte, Nat.reduceEqDiff, Nat.reduceAdd, bx, ax, if_true, if_false, Nat.reduceMul, Nat.reduceLeDiff, encI, vAV, d1, h2.1, h2.2, List.length_map]; exact rfl))
        | (apply WpItems.part 1; (· simp only [go_sem, reduceIte, Nat.reduceEqDiff, Nat.reduceAdd, bx, ax, if_true, if_false, Nat.reduceMul, Nat.reduceLeDiff, encI, vAV, d1, h2.1, h2.2, List.length_map]; exact rfl); (try simp only [List.drop_succ_cons, List.drop_zero, List.drop_nil]))
        | (refine WpItems.gsplit_dec (p := ?_) ?_ (fun hc => ?_) (fun hc => ?_); rotate_left; (· simp only [go_sem, reduceIte, Nat.reduceEqDiff, Nat.reduceAdd, bx, ax, if_true, if_false, Nat.reduceMul, Nat.reduceLeDiff, encI, vAV, d1, h2.1, h2.2, List.length_map]; exact rfl))
        | (refine WpItems.gsplit_ndec (p := ?_) ?_ (fun hc => ?_) (fun hc => ?_); rotate_left; (· simp only [go_sem, reduceIte, Nat.reduceEqDiff, Nat.reduceAdd, bx, ax, if_true, if_false, Nat.reduceMul, Nat.reduceLeDiff, encI, vAV, d1, h2.1, h2.2, List.length_map]; exact rfl))
        | (refine WpItems.gsplit (b := ?_) ?_ (fun hc => ?_) (fun hc => ?_); rotate_left; (· simp only [go_sem, reduceIte, Nat.reduceEqDiff, Nat.reduceAdd, bx, ax, if_true, if_false, Nat.reduceMul, Nat.reduceLeDiff, encI, vAV, d1, h2.1, h2.2, List.length_map]; exact rfl))
        | refine Wp.seqRegS ?_
        | refine Wp.regS ?_
        | (refine Wp.cond_true ?_ ?_; (· simp only [go_sem, reduceIte, Nat.reduceEqDiff, Nat.reduceAdd, bx, ax, if_true, if_false, Nat.reduceMul, Nat.reduceLeDiff, encI, vAV, d1, h2.1, h2.2, List.length_map]))
        | (refine Wp.cond_false ?_ ?_; (· simp only [go_sem, reduceIte, Nat.reduceEqDiff, Nat.reduceAdd, bx, ax, if_true, if_false, Nat.reduceMul, Nat.reduceLeDiff, encI, vAV, d1, h2.1, h2.2, List.length_map]))
        | (refine Wp.cond_dec (p := ?_) ?_ (fun hc => ?_) (fun hc => ?_); rotate_left; (· simp only [go_sem, reduceIte, Nat.reduceEqDiff, Nat.reduceAdd, bx, ax, if_true, if_false, Nat.reduceMul, Nat.reduceLeDiff, encI, vAV, d1, h2.1, h2.2, List.length_map]; exact rfl))
        | (refine Wp.cond_ndec (p := ?_) ?_ (fun hc => ?_) (fun hc => ?_); rotate_left; (· simp only [go_sem, reduceIte, Nat.reduceEqDiff, Nat.reduceAdd, bx, ax, if_true, if_false, Nat.reduceMul, Nat.reduceLeDiff, encI, vAV, d1, h2.1, h2.2, List.length_map]; exact rfl))
        | (refine Wp.cond_split (b := ?_) ?_ (fun hc => ?_) (fun hc => ?_); rotate_left; (· simp only [go_sem, reduceIte, Nat.reduceEqDiff, Nat.reduceAdd, bx, ax, if_true, if_false, Nat.reduceMul, Nat.reduceLeDiff, encI, vAV, d1, h2.1, h2.2, List.length_map]; exact rfl))
        | refine Wp.skip ?_
        | refine Wp.label ?_
        | refine Wp.block ?_
        | refine Wp.exit ?_
        | refine Wp.seq ?_)
      refine Wp.ret ⟨trivial, _, rfl, ?_⟩
      simp only [go_sem, reduceIte, Nat.reduceEqDiff, Nat.reduceAdd, bx]
      simp [mayB, h2]; exact VSub.refl _
    | true =>
      cases first with
      | true =>
        cases vs with
        | nil =>
          have e1 : decide ((0 : Int) < ((0 : Nat) : Int)) = false := rfl
          repeat' (first
            | (refine WpItems.nil ⟨?_, ?_⟩; (· first | trivial | simp [pairsQ, pairsOk, apart, ent0]))
            | (apply WpItems.evU; (· simp only [go_sem, reduceIte, Nat.reduceEqDiff, Nat.reduceAdd, bx, ax, if_true, if_false, Nat.reduceMul, Nat.reduceLeDiff, encI, vAV, d1, Bool.true_or, List.map_nil, List.length_nil, e1, List.length_map]; exact rfl); (· simp only [go_sem, reduceIte, Nat.reduceEqDiff, Nat.reduceAdd, bx, ax, if_true, if_false, Nat.reduceMul, Nat.reduceLeDiff, encI, vAV, d1, Bool.true_or, List.map_nil, List.length_nil, e1, List.length_map]; exact rfl))
            | (apply WpItems.part 1; (· simp only [go_sem, reduceIte, Nat.reduceEqDiff, Nat.reduceAdd, bx, ax, if_true, if_false, Nat.reduceMul, Nat.reduceLeDiff, encI, vAV, d1, Bool.true_or, List.map_nil, List.length_nil, e1, List.length_map]; exact rfl); (try simp only [List.drop_succ_cons, List.drop_zero, List.drop_nil]))
            | (refine WpItems.gsplit_dec (p := ?_) ?_ (fun hc => ?_) (fun hc => ?_); rotate_left; (· simp only [go_sem, reduceIte, Nat.reduceEqDiff, Nat.reduceAdd, bx, ax, if_true, if_false, Nat.reduceMul, Nat.reduceLeDiff, encI, vAV, d1, Bool.true_or, List.map_nil, List.length_nil, e1, List.length_map]; exact rfl))
            | (refine WpItems.gsplit_ndec (p := ?_) ?_ (fun hc => ?_) (fun hc => ?_); rotate_left; (· simp only [go_sem, reduceIte, Nat.reduceEqDiff, Nat.reduceAdd, bx, ax, if_true, if_false, Nat.reduceMul, Nat.reduceLeDiff, encI, vAV, d1, Bool.true_or, List.map_nil, List.length_nil, e1, List.length_map]; exact rfl))
            | (refine WpItems.gsplit (b := ?_) ?_ (fun hc => ?_) (fun hc => ?_); rotate_left; (· simp only [go_sem, reduceIte, Nat.reduceEqDiff, Nat.reduceAdd, bx, ax, if_true, if_false, Nat.reduceMul, Nat.reduceLeDiff, encI, vAV, d1, Bool.true_or, List.map_nil, List.length_nil, e1, List.length_map]; exact rfl))
            | refine Wp.seqRegS ?_
            | refine Wp.regS ?_
            | (refine Wp.cond_true ?_ ?_; (· simp only [go_sem, reduceIte, Nat.reduceEqDiff, Nat.reduceAdd, bx, ax, if_true, if_false, Nat.reduceMul, Nat.reduceLeDiff, encI, vAV, d1, Bool.true_or, List.map_nil, List.length_nil, e1, List.length_map]))
            | (refine Wp.cond_false ?_ ?_; (· simp only [go_sem, reduceIte, Nat.reduceEqDiff, Nat.reduceAdd, bx, ax, if_true, if_false, Nat.reduceMul, Nat.reduceLeDiff, encI, vAV, d1, Bool.true_or, List.map_nil, List.length_nil, e1, List.length_map]))
            | (refine Wp.cond_dec (p := ?_) ?_ (fun hc => ?_) (fun hc => ?_); rotate_left; (· simp only [go_sem, reduceIte, Nat.reduceEqDiff, Nat.reduceAdd, bx, ax, if_true, if_false, Nat.reduceMul, Nat.reduceLeDiff, encI, vAV, d1, Bool.true_or, List.map_nil, List.length_nil, e1, List.length_map]; exact rfl))
            | (refine Wp.cond_ndec (p := ?_) ?_ (fun hc => ?_) (fun hc => ?_); rotate_left; (· simp only [go_sem, reduceIte, Nat.reduceEqDiff, Nat.reduceAdd, bx, ax, if_true, if_false, Nat.reduceMul, Nat.reduceLeDiff, encI, vAV, d1, Bool.true_or, List.map_nil, List.length_nil, e1, List.length_map]; exact rfl))
            | (refine Wp.cond_split (b := ?_) ?_ (fun hc => ?_) (fun hc => ?_); rotate_left; (· simp only [go_sem, reduceIte, Nat.reduceEqDiff, Nat.reduceAdd, bx, ax, if_true, if_false, Nat.reduceMul, Nat.reduceLeDiff, encI, vAV, d1, Bool.true_or, List.map_nil, List.length_nil, e1, List.length_map]; exact rfl))
            | refine Wp.skip ?_
            | refine Wp.label ?_
            | refine Wp.block ?_
            | refine Wp.exit ?_
            | refine Wp.seq ?_)
          refine Wp.ret ⟨trivial, _, rfl, ?_⟩
          simp only [go_sem, reduceIte, Nat.reduceEqDiff, Nat.reduceAdd, bx]
          simp [mayB]; exact VSub.refl _
        | cons v l =>
          have e1 : decide ((0 : Int) < ((l.length + 1 : Nat) : Int)) = true := decide_eq_true (by omega)
          have e3 : (0 : Int) < ((l.length + 1 : Nat) : Int) := by omega
          cases h3 : chB (v :: l) with
          | false =>
            have e2 : decide ((4 : Int) = 0) = false := rfl
            rw [h3] at hck
            repeat' (first
              | (refine WpItems.nil ⟨?_, ?_⟩; (· first | trivial | simp [pairsQ, pairsOk, apart, ent0]))
              | (apply WpItems.evU; (· simp only [go_sem, reduceIte, Nat.reduceEqDiff, Nat.reduceAdd, bx, ax, if_true, if_false, Nat.reduceMul, Nat.reduceLeDiff, encI, vAV, d1, Bool.true_or, List.length_map, List.length_cons, e1, e2, Bool.false_eq_true, if_false, List.length_map]; exact rfl); (· simp only [go_sem, reduceIte, Nat.reduceEqDiff, Nat.reduceAdd, bx, ax, if_true, if_false, Nat.reduceMul, Nat.reduceLeDiff, encI, vAV, d1, Bool.true_or, List.length_map, List.length_cons, e1, e2, Bool.false_eq_true, if_false, List.length_map]; exact rfl))
              | (apply WpItems.part 1; (· simp only [go_sem, reduceIte, Nat.reduceEqDiff, Nat.reduceAdd, bx, ax, if_true, if_false, Nat.reduceMul, Nat.reduceLeDiff, encI, vAV, d1, Bool.true_or, List.length_map, List.length_cons, e1, e2, Bool.false_eq_true, if_false, List.length_map]; exact rfl); (try simp only [List.drop_succ_cons, List.drop_zero, List.drop_nil]))
              | (refine WpItems.pcall ?_ ?_ (hck) ?_; (· simp only [go_sem, reduceIte, Nat.reduceEqDiff, Nat.reduceAdd, bx]); (· simp only [go_sem, reduceIte, Nat.reduceEqDiff, Nat.reduceAdd, bx, List.map, ax, if_true, if_false, Nat.reduceMul, Nat.reduceLeDiff, encI, vAV, d1, Bool.true_or, List.length_map, List.length_cons, e1, e2, Bool.false_eq_true, if_false, List.length_map]; first | exact VSubs.refl _ | (repeat (first | exact VSubs.nil | refine VSubs.cons (by first | exact VSub.refl _ | assumption | exact VSub.cap | exact VSub.any _) ?_))))
              | (refine WpItems.gsplit_dec (p := ?_) ?_ (fun hc => ?_) (fun hc => ?_); rotate_left; (· simp only [go_sem, reduceIte, Nat.reduceEqDiff, Nat.reduceAdd, bx, ax, if_true, if_false, Nat.reduceMul, Nat.reduceLeDiff, encI, vAV, d1, Bool.true_or, List.length_map, List.length_cons, e1, e2, Bool.false_eq_true, if_false, List.length_map]; exact rfl))
              | (refine WpItems.gsplit_ndec (p := ?_) ?_ (fun hc => ?_) (fun hc => ?_); rotate_left; (· simp only [go_sem, reduceIte, Nat.reduceEqDiff, Nat.reduceAdd, bx, ax, if_true, if_false, Nat.reduceMul, Nat.reduceLeDiff, encI, vAV, d1, Bool.true_or, List.length_map, List.length_cons, e1, e2, Bool.false_eq_true, if_false, List.length_map]; exact rfl))
              | (refine WpItems.gsplit (b := ?_) ?_ (fun hc => ?_) (fun hc => ?_); rotate_left; (· simp only [go_sem, reduceIte, Nat.reduceEqDiff, Nat.reduceAdd, bx, ax, if_true, if_false, Nat.reduceMul, Nat.reduceLeDiff, encI, vAV, d1, Bool.true_or, List.length_map, List.length_cons, e1, e2, Bool.false_eq_true, if_false, List.length_map]; exact rfl))
              | refine Wp.seqRegS ?_
              | refine Wp.regS ?_
              | (refine Wp.cond_true ?_ ?_; (· simp only [go_sem, reduceIte, Nat.reduceEqDiff, Nat.reduceAdd, bx, ax, if_true, if_false, Nat.reduceMul, Nat.reduceLeDiff, encI, vAV, d1, Bool.true_or, List.length_map, List.length_cons, e1, e2, Bool.false_eq_true, if_false, List.length_map]))
              | (refine Wp.cond_false ?_ ?_; (· simp only [go_sem, reduceIte, Nat.reduceEqDiff, Nat.reduceAdd, bx, ax, if_true, if_false, Nat.reduceMul, Nat.reduceLeDiff, encI, vAV, d1, Bool.true_or, List.length_map, List.length_cons, e1, e2, Bool.false_eq_true, if_false, List.length_map]))
              | (refine Wp.cond_dec (p := ?_) ?_ (fun hc => ?_) (fun hc => ?_); rotate_left; (· simp only [go_sem, reduceIte, Nat.reduceEqDiff, Nat.reduceAdd, bx, ax, if_true, if_false, Nat.reduceMul, Nat.reduceLeDiff, encI, vAV, d1, Bool.true_or, List.length_map, List.length_cons, e1, e2, Bool.false_eq_true, if_false, List.length_map]; exact rfl))
              | (refine Wp.cond_ndec (p := ?_) ?_ (fun hc => ?_) (fun hc => ?_); rotate_left; (· simp only [go_sem, reduceIte, Nat.reduceEqDiff, Nat.reduceAdd, bx, ax, if_true, if_false, Nat.reduceMul, Nat.reduceLeDiff, encI, vAV, d1, Bool.true_or, List.length_map, List.length_cons, e1, e2, Bool.false_eq_true, if_false, List.length_map]; exact rfl))
              | (refine Wp.cond_split (b := ?_) ?_ (fun hc => ?_) (fun hc => ?_); rotate_left; (· simp only [go_sem, reduceIte, Nat.reduceEqDiff, Nat.reduceAdd, bx, ax, if_true, if_false, Nat.reduceMul, Nat.reduceLeDiff, encI, vAV, d1, Bool.true_or, List.length_map, List.length_cons, e1, e2, Bool.false_eq_true, if_false, List.length_map]; exact rfl))
              | refine Wp.skip ?_
              | refine Wp.label ?_
              | refine Wp.block ?_
              | refine Wp.exit ?_
              | refine Wp.seq ?_)
            refine Wp.ret ⟨trivial, _, rfl, ?_⟩
            simp only [go_sem, reduceIte, Nat.reduceEqDiff, Nat.reduceAdd, bx]
            simp [mayB, h3]; exact VSub.refl _
          | true =>
            have e2 : decide ((0 : Int) = 0) = true := rfl
            rw [h3] at hck
            repeat' (first
              | (refine WpItems.nil ⟨?_, ?_⟩; (· first | trivial | simp [pairsQ, pairsOk, apart, ent0]))
              | (apply WpItems.evU; (· simp only [go_sem, reduceIte, Nat.reduceEqDiff, Nat.reduceAdd, bx, ax, if_true, if_false, Nat.reduceMul, Nat.reduceLeDiff, encI, vAV, d1, Bool.true_or, List.length_map, List.length_cons, e1, e2, e3, i0, t0, List.map_cons, List.getD_cons_zero, encV, if_true, List.length_map]; exact rfl); (· simp only [go_sem, reduceIte, Nat.reduceEqDiff, Nat.reduceAdd, bx, ax, if_true, if_false, Nat.reduceMul, Nat.reduceLeDiff, encI, vAV, d1, Bool.true_or, List.length_map, List.length_cons, e1, e2, e3, i0, t0, List.map_cons, List.getD_cons_zero, encV, if_true, List.length_map]; exact rfl))
              | (apply WpItems.part 1; (· simp only [go_sem, reduceIte, Nat.reduceEqDiff, Nat.reduceAdd, bx, ax, if_true, if_false, Nat.reduceMul, Nat.reduceLeDiff, encI, vAV, d1, Bool.true_or, List.length_map, List.length_cons, e1, e2, e3, i0, t0, List.map_cons, List.getD_cons_zero, encV, if_true, List.length_map]; exact rfl); (try simp only [List.drop_succ_cons, List.drop_zero, List.drop_nil]))
              | (refine WpItems.pcall ?_ ?_ (hck) ?_; (· simp only [go_sem, reduceIte, Nat.reduceEqDiff, Nat.reduceAdd, bx]); (· simp only [go_sem, reduceIte, Nat.reduceEqDiff, Nat.reduceAdd, bx, List.map, ax, if_true, if_false, Nat.reduceMul, Nat.reduceLeDiff, encI, vAV, d1, Bool.true_or, List.length_map, List.length_cons, e1, e2, e3, i0, t0, List.map_cons, List.getD_cons_zero, encV, if_true, List.length_map]; first | exact VSubs.refl _ | (repeat (first | exact VSubs.nil | refine VSubs.cons (by first | exact VSub.refl _ | assumption | exact VSub.cap | exact VSub.any _) ?_))))
              | (refine WpItems.gsplit_dec (p := ?_) ?_ (fun hc => ?_) (fun hc => ?_); rotate_left; (· simp only [go_sem, reduceIte, Nat.reduceEqDiff, Nat.reduceAdd, bx, ax, if_true, if_false, Nat.reduceMul, Nat.reduceLeDiff, encI, vAV, d1, Bool.true_or, List.length_map, List.length_cons, e1, e2, e3, i0, t0, List.map_cons, List.getD_cons_zero, encV, if_true, List.length_map]; exact rfl))
              | (refine WpItems.gsplit_ndec (p := ?_) ?_ (fun hc => ?_) (fun hc => ?_); rotate_left; (· simp only [go_sem, reduceIte, Nat.reduceEqDiff, Nat.reduceAdd, bx, ax, if_true, if_false, Nat.reduceMul, Nat.reduceLeDiff, encI, vAV, d1, Bool.true_or, List.length_map, List.length_cons, e1, e2, e3, i0, t0, List.map_cons, List.getD_cons_zero, encV, if_true, List.length_map]; exact rfl))
              | (refine WpItems.gsplit (b := ?_) ?_ (fun hc => ?_) (fun hc => ?_); rotate_left; (· simp only [go_sem, reduceIte, Nat.reduceEqDiff, Nat.reduceAdd, bx, ax, if_true, if_false, Nat.reduceMul, Nat.reduceLeDiff, encI, vAV, d1, Bool.true_or, List.length_map, List.length_cons, e1, e2, e3, i0, t0, List.map_cons, List.getD_cons_zero, encV, if_true, List.length_map]; exact rfl))
              | refine Wp.seqRegS ?_
              | refine Wp.regS ?_
              | (refine Wp.cond_true ?_ ?_; (· simp only [go_sem, reduceIte, Nat.reduceEqDiff, Nat.reduceAdd, bx, ax, if_true, if_false, Nat.reduceMul, Nat.reduceLeDiff, encI, vAV, d1, Bool.true_or, List.length_map, List.length_cons, e1, e2, e3, i0, t0, List.map_cons, List.getD_cons_zero, encV, if_true, List.length_map]))
              | (refine Wp.cond_false ?_ ?_; (· simp only [go_sem, reduceIte, Nat.reduceEqDiff, Nat.reduceAdd, bx, ax, if_true, if_false, Nat.reduceMul, Nat.reduceLeDiff, encI, vAV, d1, Bool.true_or, List.length_map, List.length_cons, e1, e2, e3, i0, t0, List.map_cons, List.getD_cons_zero, encV, if_true, List.length_map]))
              | (refine Wp.cond_dec (p := ?_) ?_ (fun hc => ?_) (fun hc => ?_); rotate_left; (· simp only [go_sem, reduceIte, Nat.reduceEqDiff, Nat.reduceAdd, bx, ax, if_true, if_false, Nat.reduceMul, Nat.reduceLeDiff, encI, vAV, d1, Bool.true_or, List.length_map, List.length_cons, e1, e2, e3, i0, t0, List.map_cons, List.getD_cons_zero, encV, if_true, List.length_map]; exact rfl))
              | (refine Wp.cond_ndec (p := ?_) ?_ (fun hc => ?_) (fun hc => ?_); rotate_left; (· simp only [go_sem, reduceIte, Nat.reduceEqDiff, Nat.reduceAdd, bx, ax, if_true, if_false, Nat.reduceMul, Nat.reduceLeDiff, encI, vAV, d1, Bool.true_or, List.length_map, List.length_cons, e1, e2, e3, i0, t0, List.map_cons, List.getD_cons_zero, encV, if_true, List.length_map]; exact rfl))
              | (refine Wp.cond_split (b := ?_) ?_ (fun hc => ?_) (fun hc => ?_); rotate_left; (· simp only [go_sem, reduceIte, Nat.reduceEqDiff, Nat.reduceAdd, bx, ax, if_true, if_false, Nat.reduceMul, Nat.reduceLeDiff, encI, vAV, d1, Bool.true_or, List.length_map, List.length_cons, e1, e2, e3, i0, t0, List.map_cons, List.getD_cons_zero, encV, if_true, List.length_map]; exact rfl))
              | refine Wp.skip ?_
              | refine Wp.label ?_
              | refine Wp.block ?_
              | refine Wp.exit ?_
              | refine Wp.seq ?_)
            refine Wp.ret ⟨trivial, _, rfl, ?_⟩
            simp only [go_sem, reduceIte, Nat.reduceEqDiff, Nat.reduceAdd, bx]
            simp [mayB, h1, h3, h2]; exact VSub.refl _
      | false =>
        rw [Bool.false_or] at h2
        cases vs with
        | nil =>
          have e1 : decide ((0 : Int) < ((0 : Nat) : Int)) = false := rfl
          repeat' (first
            | (refine WpItems.nil ⟨?_, ?_⟩; (· first | trivial | simp [pairsQ, pairsOk, apart, ent0]))
            | (apply WpItems.evU; (· simp only [go_sem, reduceIte, Nat.reduceEqDiff, Nat.reduceAdd, bx, ax, if_true, if_false, Nat.reduceMul, Nat.reduceLeDiff, encI, vAV, d1, h2, List.map_nil, List.length_nil, e1, List.length_map]; exact rfl); (· simp only [go_sem, reduceIte, Nat.reduceEqDiff, Nat.reduceAdd, bx, ax, if_true, if_false, Nat.reduceMul, Nat.reduceLeDiff, encI, vAV, d1, h2, List.map_nil, List.length_nil, e1, List.length_map]; exact rfl))
            | (apply WpItems.part 1; (· simp only [go_sem, reduceIte, Nat.reduceEqDiff, Nat.reduceAdd, bx, ax, if_true, if_false, Nat.reduceMul, Nat.reduceLeDiff, encI, vAV, d1, h2, List.map_nil, List.length_nil, e1, List.length_map]; exact rfl); (try simp only [List.drop_succ_cons, List.drop_zero, List.drop_nil]))
            | (refine WpItems.gsplit_dec (p := ?_) ?_ (fun hc => ?_) (fun hc => ?_); rotate_left; (· simp only [go_sem, reduceIte, Nat.reduceEqDiff, Nat.reduceAdd, bx, ax, if_true, if_false, Nat.reduceMul, Nat.reduceLeDiff, encI, vAV, d1, h2, List.map_nil, List.length_nil, e1, List.length_map]; exact rfl))
            | (refine WpItems.gsplit_ndec (p := ?_) ?_ (fun hc => ?_) (fun hc => ?_); rotate_left; (· simp only [go_sem, reduceIte, Nat.reduceEqDiff, Nat.reduceAdd, bx, ax, if_true, if_false, Nat.reduceMul, Nat.reduceLeDiff, encI, vAV, d1, h2, List.map_nil, List.length_nil, e1, List.length_map]; exact rfl))
            | (refine WpItems.gsplit (b := ?_) ?_ (fun hc => ?_) (fun hc => ?_); rotate_left; (· simp only [go_sem, reduceIte, Nat.reduceEqDiff, Nat.reduceAdd, bx, ax, if_true, if_false, Nat.reduceMul, Nat.reduceLeDiff, encI, vAV, d1, h2, List.map_nil, List.length_nil, e1, List.length_map]; exact rfl))
            | refine Wp.seqRegS ?_
            | refine Wp.regS ?_
            | (refine Wp.cond_true ?_ ?_; (· simp only [go_sem, reduceIte, Nat.reduceEqDiff, Nat.reduceAdd, bx, ax, if_true, if_false, Nat.reduceMul, Nat.reduceLeDiff, encI, vAV, d1, h2, List.map_nil, List.length_nil, e1, List.length_map]))
            | (refine Wp.cond_false ?_ ?_; (· simp only [go_sem, reduceIte, Nat.reduceEqDiff, Nat.reduceAdd, bx, ax, if_true, if_false, Nat.reduceMul, Nat.reduceLeDiff, encI, vAV, d1, h2, List.map_nil, List.length_nil, e1, List.length_map]))
            | (refine Wp.cond_dec (p := ?_) ?_ (fun hc => ?_) (fun hc => ?_); rotate_left; (· simp only [go_sem, reduceIte, Nat.reduceEqDiff, Nat.reduceAdd, bx, ax, if_true, if_false, Nat.reduceMul, Nat.reduceLeDiff, encI, vAV, d1, h2, List.map_nil, List.length_nil, e1, List.length_map]; exact rfl))
            | (refine Wp.cond_ndec (p := ?_) ?_ (fun hc => ?_) (fun hc => ?_); rotate_left; (· simp only [go_sem, reduceIte, Nat.reduceEqDiff, Nat.reduceAdd, bx, ax, if_true, if_false, Nat.reduceMul, Nat.reduceLeDiff, encI, vAV, d1, h2, List.map_nil, List.length_nil, e1, List.length_map]; exact rfl))
            | (refine Wp.cond_split (b := ?_) ?_ (fun hc => ?_) (fun hc => ?_); rotate_left; (· simp only [go_sem, reduceIte, Nat.reduceEqDiff, Nat.reduceAdd, bx, ax, if_true, if_false, Nat.reduceMul, Nat.reduceLeDiff, encI, vAV, d1, h2, List.map_nil, List.length_nil, e1, List.length_map]; exact rfl))
            | refine Wp.skip ?_
            | refine Wp.label ?_
            | refine Wp.block ?_
            | refine Wp.exit ?_
            | refine Wp.seq ?_)
          refine Wp.ret ⟨trivial, _, rfl, ?_⟩
          simp only [go_sem, reduceIte, Nat.reduceEqDiff, Nat.reduceAdd, bx]
          simp [mayB]; exact VSub.refl _
        | cons v l =>
          have e1 : decide ((0 : Int) < ((l.length + 1 : Nat) : Int)) = true := decide_eq_true (by omega)
          have e3 : (0 : Int) < ((l.length + 1 : Nat) : Int) := by omega
          cases h3 : chB (v :: l) with
          | false =>
            have e2 : decide ((4 : Int) = 0) = false := rfl
            rw [h3] at hck
            repeat' (first
              | (refine WpItems.nil ⟨?_, ?_⟩; (· first | trivial | simp [pairsQ, pairsOk, apart, ent0]))
              | (apply WpItems.evU; (· simp only [go_sem, reduceIte, Nat.reduceEqDiff, Nat.reduceAdd, bx, ax, if_true, if_false, Nat.reduceMul, Nat.reduceLeDiff, encI, vAV, d1, h2, List.length_map, List.length_cons, e1, e2, Bool.false_eq_true, if_false, List.length_map]; exact rfl); (· simp only [go_sem, reduceIte, Nat.reduceEqDiff, Nat.reduceAdd, bx, ax, if_true, if_false, Nat.reduceMul, Nat.reduceLeDiff, encI, vAV, d1, h2, List.length_map, List.length_cons, e1, e2, Bool.false_eq_true, if_false, List.length_map]; exact rfl))
              | (apply WpItems.part 1; (· simp only [go_sem, reduceIte, Nat.reduceEqDiff, Nat.reduceAdd, bx, ax, if_true, if_false, Nat.reduceMul, Nat.reduceLeDiff, encI, vAV, d1, h2, List.length_map, List.length_cons, e1, e2, Bool.false_eq_true, if_false, List.length_map]; exact rfl); (try simp only [List.drop_succ_cons, List.drop_zero, List.drop_nil]))
              | (refine WpItems.pcall ?_ ?_ (hck) ?_; (· simp only [go_sem, reduceIte, Nat.reduceEqDiff, Nat.reduceAdd, bx]); (· simp only [go_sem, reduceIte, Nat.reduceEqDiff, Nat.reduceAdd, bx, List.map, ax, if_true, if_false, Nat.reduceMul, Nat.reduceLeDiff, encI, vAV, d1, h2, List.length_map, List.length_cons, e1, e2, Bool.false_eq_true, if_false, List.length_map]; first | exact VSubs.refl _ | (repeat (first | exact VSubs.nil | refine VSubs.cons (by first | exact VSub.refl _ | assumption | exact VSub.cap | exact VSub.any _) ?_))))
              | (refine WpItems.gsplit_dec (p := ?_) ?_ (fun hc => ?_) (fun hc => ?_); rotate_left; (· simp only [go_sem, reduceIte, Nat.reduceEqDiff, Nat.reduceAdd, bx, ax, if_true, if_false, Nat.reduceMul, Nat.reduceLeDiff, encI, vAV, d1, h2, List.length_map, List.length_cons, e1, e2, Bool.false_eq_true, if_false, List.length_map]; exact rfl))
              | (refine WpItems.gsplit_ndec (p := ?_) ?_ (fun hc => ?_) (fun hc => ?_); rotate_left; (· simp only [go_sem, reduceIte, Nat.reduceEqDiff, Nat.reduceAdd, bx, ax, if_true, if_false, Nat.reduceMul, Nat.reduceLeDiff, encI, vAV, d1, h2, List.length_map, List.length_cons, e1, e2, Bool.false_eq_true, if_false, List.length_map]; exact rfl))
              | (refine WpItems.gsplit (b := ?_) ?_ (fun hc => ?_) (fun hc => ?_); rotate_left; (· simp only [go_sem, reduceIte, Nat.reduceEqDiff, Nat.reduceAdd, bx, ax, if_true, if_false, Nat.reduceMul, Nat.reduceLeDiff, encI, vAV, d1, h2, List.length_map, List.length_cons, e1, e2, Bool.false_eq_true, if_false, List.length_map]; exact rfl))
              | refine Wp.seqRegS ?_
              | refine Wp.regS ?_
              | (refine Wp.cond_true ?_ ?_; (· simp only [go_sem, reduceIte, Nat.reduceEqDiff, Nat.reduceAdd, bx, ax, if_true, if_false, Nat.reduceMul, Nat.reduceLeDiff, encI, vAV, d1, h2, List.length_map, List.length_cons, e1, e2, Bool.false_eq_true, if_false, List.length_map]))
              | (refine Wp.cond_false ?_ ?_; (· simp only [go_sem, reduceIte, Nat.reduceEqDiff, Nat.reduceAdd, bx, ax, if_true, if_false, Nat.reduceMul, Nat.reduceLeDiff, encI, vAV, d1, h2, List.length_map, List.length_cons, e1, e2, Bool.false_eq_true, if_false, List.length_map]))
              | (refine Wp.cond_dec (p := ?_) ?_ (fun hc => ?_) (fun hc => ?_); rotate_left; (· simp only [go_sem, reduceIte, Nat.reduceEqDiff, Nat.reduceAdd, bx, ax, if_true, if_false, Nat.reduceMul, Nat.reduceLeDiff, encI, vAV, d1, h2, List.length_map, List.length_cons, e1, e2, Bool.false_eq_true, if_false, List.length_map]; exact rfl))
              | (refine Wp.cond_ndec (p := ?_) ?_ (fun hc => ?_) (fun hc => ?_); rotate_left; (· simp only [go_sem, reduceIte, Nat.reduceEqDiff, Nat.reduceAdd, bx, ax, if_true, if_false, Nat.reduceMul, Nat.reduceLeDiff, encI, vAV, d1, h2, List.length_map, List.length_cons, e1, e2, Bool.false_eq_true, if_false, List.length_map]; exact rfl))
              | (refine Wp.cond_split (b := ?_) ?_ (fun hc => ?_) (fun hc => ?_); rotate_left; (· simp only [go_sem, reduceIte, Nat.reduceEqDiff, Nat.reduceAdd, bx, ax, if_true, if_false, Nat.reduceMul, Nat.reduceLeDiff, encI, vAV, d1, h2, List.length_map, List.length_cons, e1, e2, Bool.false_eq_true, if_false, List.length_map]; exact rfl))
              | refine Wp.skip ?_
              | refine Wp.label ?_
              | refine Wp.block ?_
              | refine Wp.exit ?_
              | refine Wp.seq ?_)
            refine Wp.ret ⟨trivial, _, rfl, ?_⟩
            simp only [go_sem, reduceIte, Nat.reduceEqDiff, Nat.reduceAdd, bx]
            simp [mayB, h3]; exact VSub.refl _
          | true =>
            have e2 : decide ((0 : Int) = 0) = true := rfl
            rw [h3] at hck
            repeat' (first
              | (refine WpItems.nil ⟨?_, ?_⟩; (· first | trivial | simp [pairsQ, pairsOk, apart, ent0]))
              | (apply WpItems.evU; (· simp only [go_sem, reduceIte, Nat.reduceEqDiff, Nat.reduceAdd, bx, ax, if_true, if_false, Nat.reduceMul, Nat.reduceLeDiff, encI, vAV, d1, h2, List.length_map, List.length_cons, e1, e2, e3, i0, t0, List.map_cons, List.getD_cons_zero, encV, if_true, List.length_map]; exact rfl); (· simp only [go_sem, reduceIte, Nat.reduceEqDiff, Nat.reduceAdd, bx, ax, if_true, if_false, Nat.reduceMul, Nat.reduceLeDiff, encI, vAV, d1, h2, List.length_map, List.length_cons, e1, e2, e3, i0, t0, List.map_cons, List.getD_cons_zero, encV, if_true, List.length_map]; exact rfl))
              | (apply WpItems.part 1; (· simp only [go_sem, reduceIte, Nat.reduceEqDiff, Nat.reduceAdd, bx, ax, if_true, if_false, Nat.reduceMul, Nat.reduceLeDiff, encI, vAV, d1, h2, List.length_map, List.length_cons, e1, e2, e3, i0, t0, List.map_cons, List.getD_cons_zero, encV, if_true, List.length_map]; exact rfl); (try simp only [List.drop_succ_cons, List.drop_zero, List.drop_nil]))
              | (refine WpItems.pcall ?_ ?_ (hck) ?_; (· simp only [go_sem, reduceIte, Nat.reduceEqDiff, Nat.reduceAdd, bx]); (· simp only [go_sem, reduceIte, Nat.reduceEqDiff, Nat.reduceAdd, bx, List.map, ax, if_true, if_false, Nat.reduceMul, Nat.reduceLeDiff, encI, vAV, d1, h2, List.length_map, List.length_cons, e1, e2, e3, i0, t0, List.map_cons, List.getD_cons_zero, encV, if_true, List.length_map]; first | exact VSubs.refl _ | (repeat (first | exact VSubs.nil | refine VSubs.cons (by first | exact VSub.refl _ | assumption | exact VSub.cap | exact VSub.any _) ?_))))
              | (refine WpItems.gsplit_dec (p := ?_) ?_ (fun hc => ?_) (fun hc => ?_); rotate_left; (· simp only [go_sem, reduceIte, Nat.reduceEqDiff, Nat.reduceAdd, bx, ax, if_true, if_false, Nat.reduceMul, Nat.reduceLeDiff, encI, vAV, d1, h2, List.length_map, List.length_cons, e1, e2, e3, i0, t0, List.map_cons, List.getD_cons_zero, encV, if_true, List.length_map]; exact rfl))
              | (refine WpItems.gsplit_ndec (p := ?_) ?_ (fun hc => ?_) (fun hc => ?_); rotate_left; (· simp only [go_sem, reduceIte, Nat.reduceEqDiff, Nat.reduceAdd, bx, ax, if_true, if_false, Nat.reduceMul, Nat.reduceLeDiff, encI, vAV, d1, h2, List.length_map, List.length_cons, e1, e2, e3, i0, t0, List.map_cons, List.getD_cons_zero, encV, if_true, List.length_map]; exact rfl))
              | (refine WpItems.gsplit (b := ?_) ?_ (fun hc => ?_) (fun hc => ?_); rotate_left; (· simp only [go_sem, reduceIte, Nat.reduceEqDiff, Nat.reduceAdd, bx, ax, if_true, if_false, Nat.reduceMul, Nat.reduceLeDiff, encI, vAV, d1, h2, List.length_map, List.length_cons, e1, e2, e3, i0, t0, List.map_cons, List.getD_cons_zero, encV, if_true, List.length_map]; exact rfl))
              | refine Wp.seqRegS ?_
              | refine Wp.regS ?_
              | (refine Wp.cond_true ?_ ?_; (· simp only [go_sem, reduceIte, Nat.reduceEqDiff, Nat.reduceAdd, bx, ax, if_true, if_false, Nat.reduceMul, Nat.reduceLeDiff, encI, vAV, d1, h2, List.length_map, List.length_cons, e1, e2, e3, i0, t0, List.map_cons, List.getD_cons_zero, encV, if_true, List.length_map]))
              | (refine Wp.cond_false ?_ ?_; (· simp only [go_sem, reduceIte, Nat.reduceEqDiff, Nat.reduceAdd, bx, ax, if_true, if_false, Nat.reduceMul, Nat.reduceLeDiff, encI, vAV, d1, h2, List.length_map, List.length_cons, e1, e2, e3, i0, t0, List.map_cons, List.getD_cons_zero, encV, if_true, List.length_map]))
              | (refine Wp.cond_dec (p := ?_) ?_ (fun hc => ?_) (fun hc => ?_); rotate_left; (· simp only [go_sem, reduceIte, Nat.reduceEqDiff, Nat.reduceAdd, bx, ax, if_true, if_false, Nat.reduceMul, Nat.reduceLeDiff, encI, vAV, d1, h2, List.length_map, List.length_cons, e1, e2, e3, i0, t0, List.map_cons, List.getD_cons_zero, encV, if_true, List.length_map]; exact rfl))
              | (refine Wp.cond_ndec (p := ?_) ?_ (fun hc => ?_) (fun hc => ?_); rotate_left; (· simp only [go_sem, reduceIte, Nat.reduceEqDiff, Nat.reduceAdd, bx, ax, if_true, if_false, Nat.reduceMul, Nat.reduceLeDiff, encI, vAV, d1, h2, List.length_map, List.length_cons, e1, e2, e3, i0, t0, List.map_cons, List.getD_cons_zero, encV, if_true, List.length_map]; exact rfl))
              | (refine Wp.cond_split (b := ?_) ?_ (fun hc => ?_) (fun hc => ?_); rotate_left; (· simp only [go_sem, reduceIte, Nat.reduceEqDiff, Nat.reduceAdd, bx, ax, if_true, if_false, Nat.reduceMul, Nat.reduceLeDiff, encI, vAV, d1, h2, List.length_map, List.length_cons, e1, e2, e3, i0, t0, List.map_cons, List.getD_cons_zero, encV, if_true, List.length_map]; exact rfl))
              | refine Wp.skip ?_
              | refine Wp.label ?_
              | refine Wp.block ?_
              | refine Wp.exit ?_
              | refine Wp.seq ?_)
            refine Wp.ret ⟨trivial, _, rfl, ?_⟩
            simp only [go_sem, reduceIte, Nat.reduceEqDiff, Nat.reduceAdd, bx]
            simp [mayB, h1, h3, h2]; exact VSub.refl _
  · have d1 := decide_eq_false h1
    repeat' (first
      | (refine WpItems.nil ⟨?_, ?_⟩; (· first | trivial | simp [pairsQ, pairsOk, apart, ent0]))
      | (apply WpItems.evU; (· simp only [go_sem, reduceIte, Nat.reduceEqDiff, Nat.reduceAdd, bx, ax, if_true, if_false, Nat.reduceMul, Nat.reduceLeDiff, encI, vAV, d1, List.length_map]; exact rfl); (· simp only [go_sem, reduceIte, Nat.reduceEqDiff, Nat.reduceAdd, bx, ax, if_true, if_false, Nat.reduceMul, Nat.reduceLeDiff, encI, vAV, d1, List.length_map]; exact rfl))
      | (apply WpItems.part 1; (· simp only [go_sem, reduceIte, Nat.reduceEqDiff, Nat.reduceAdd, bx, ax, if_true, if_false, Nat.reduceMul, Nat.reduceLeDiff, encI, vAV, d1, List.length_map]; exact rfl); (try simp only [List.drop_succ_cons, List.drop_zero, List.drop_nil]))
      | (refine WpItems.gsplit_dec (p := ?_) ?_ (fun hc => ?_) (fun hc => ?_); rotate_left; (· simp only [go_sem, reduceIte, Nat.reduceEqDiff, Nat.reduceAdd, bx, ax, if_true, if_false, Nat.reduceMul, Nat.reduceLeDiff, encI, vAV, d1, List.length_map]; exact rfl))
      | (refine WpItems.gsplit_ndec (p := ?_) ?_ (fun hc => ?_) (fun hc => ?_); rotate_left; (· simp only [go_sem, reduceIte, Nat.reduceEqDiff, Nat.reduceAdd, bx, ax, if_true, if_false, Nat.reduceMul, Nat.reduceLeDiff, encI, vAV, d1, List.length_map]; exact rfl))
      | (refine WpItems.gsplit (b := ?_) ?_ (fun hc => ?_) (fun hc => ?_); rotate_left; (· simp only [go_sem, reduceIte, Nat.reduceEqDiff, Nat.reduceAdd, bx, ax, if_true, if_false, Nat.reduceMul, Nat.reduceLeDiff, encI, vAV, d1, List.length_map]; exact rfl))
      | refine Wp.seqRegS ?_
      | refine Wp.regS ?_
      | (refine Wp.cond_true ?_ ?_; (· simp only [go_sem, reduceIte, Nat.reduceEqDiff, Nat.reduceAdd, bx, ax, if_true, if_false, Nat.reduceMul, Nat.reduceLeDiff, encI, vAV, d1, List.length_map]))
      | (refine Wp.cond_false ?_ ?_; (· simp only [go_sem, reduceIte, Nat.reduceEqDiff, Nat.reduceAdd, bx, ax, if_true, if_false, Nat.reduceMul, Nat.reduceLeDiff, encI, vAV, d1, List.length_map]))
      | (refine Wp.cond_dec (p := ?_) ?_ (fun hc => ?_) (fun hc => ?_); rotate_left; (· simp only [go_sem, reduceIte, Nat.reduceEqDiff, Nat.reduceAdd, bx, ax, if_true, if_false, Nat.reduceMul, Nat.reduceLeDiff, encI, vAV, d1, List.length_map]; exact rfl))
      | (refine Wp.cond_ndec (p := ?_) ?_ (fun hc => ?_) (fun hc => ?_); rotate_left; (· simp only [go_sem, reduceIte, Nat.reduceEqDiff, Nat.reduceAdd, bx, ax, if_true, if_false, Nat.reduceMul, Nat.reduceLeDiff, encI, vAV, d1, List.length_map]; exact rfl))
      | (refine Wp.cond_split (b := ?_) ?_ (fun hc => ?_) (fun hc => ?_); rotate_left; (· simp only [go_sem, reduceIte, Nat.reduceEqDiff, Nat.reduceAdd, bx, ax, if_true, if_false, Nat.reduceMul, Nat.reduceLeDiff, encI, vAV, d1, List.length_map]; exact rfl))
      | refine Wp.skip ?_
      | refine Wp.label ?_
      | refine Wp.block ?_
      | refine Wp.exit ?_
      | refine Wp.seq ?_)
    refine Wp.ret ⟨trivial, _, rfl, ?_⟩
    simp only [go_sem, reduceIte, Nat.reduceEqDiff, Nat.reduceAdd, bx]
    simp [mayB, h1]; exact VSub.refl _
end Go.Proofs.Ytpehfflehebmbaa.Space
end
section
set_option linter.unusedSimpArgs false
set_option linter.unusedVariables false
set_option maxRecDepth 10000
namespace Go.Proofs.Ytpehfflehebmbaa.Space
open Go Go.Av Go.Proofs Go.Proofs.Ytpehfflehebmbaa.C Go.Proofs.Ytpehfflehebmbaa.Batch
def aheadAt (l : List It) (i : Nat) : Bs := if i = 0 then [] else (l.getD (i - 1) default).1
def ldAt (l : List It) (last : Int) (i : Nat) : Bool := mayB (l.getD i default) (aheadAt l i) (decide (i = 0)) last
def ldB (l : List It) (last mark : Int) : Bool := !decide (last < 0) && !decide (1152921504606846976 < last) && !decide (mark < 0) && !decide (last < mark) && (List.range l.length).all (ldAt l last)
set_option maxHeartbeats 1000000 in
theorem load_g (l : List It) (hl : l.length ≤ 500000) (hv : ∀ p ∈ l, p.2.length ≤ 4398046511104) (last mark : Int) : GCalls Try.prog 26 [.sl 2 (l.map encI) .any, .int .i64 last, .int .i64 mark] [] (fun r L => if ldB l last mark = true then ∃ s F, r = .tup [.ptr s 0, .int .i64 0] ∧ L = [F] ∧ SpcF s ⟨layL [] l, last, mark⟩ F else r = .tup [.sc (.pointer none), .int .i64 4] ∧ L = []) := by
  refine f26.gcalls (by simp) fun n m ok => ?_
  unfold c26
  have bad : ∀ (h : H), n ≤ h.n → m ≤ h.m → ldB l last mark = false → ∃ r l', Av.Ends [] n m (fun r L => if ldB l last mark = true then ∃ s F, r = .tup [.ptr s 0, .int .i64 0] ∧ L = [F] ∧ SpcF s ⟨layL [] l, last, mark⟩ F else r = .tup [.sc (.pointer none), .int .i64 4] ∧ L = []) (.tup [.sc (.pointer none), .int .i64 4]) h r l' := by
    intro h h1 h2 h3
    refine ⟨_, [], ⟨VSub.refl _, OLe.lay_nil _, fun t ht => by simp [ks] at ht, Ok.nil, fun j => .inr (.inr rfl), fun t ht => by simp [ks] at ht, ?_⟩⟩
    rw [h3]; exact ⟨rfl, rfl⟩
  by_cases p1 : last < 0
  · have d1 := decide_eq_true p1
    repeat (first
      | ((first | apply Wp.seqItemsR | apply Wp.itemsR); (· simp only [go_sem, reduceIte, Nat.reduceEqDiff, Nat.reduceAdd, bx, ax, if_true, if_false, Nat.reduceMul, Nat.reduceLeDiff, d1]; exact rfl))
      | (refine WpItems.nil ⟨?_, ?_⟩; (· first | trivial | simp [pairsQ, pairsOk, apart, ent0]))
      | (apply Wp.cond_lit; (· simp only [go_sem, reduceIte, Nat.reduceEqDiff, Nat.reduceAdd, bx, ax, if_true, if_false, Nat.reduceMul, Nat.reduceLeDiff, d1]; exact rfl); (· rfl))
      | refine Wp.skip ?_
      | refine Wp.label ?_
      | refine Wp.block ?_
      | refine Wp.exit ?_
      | refine Wp.seq ?_)
    exact Wp.ret ⟨trivial, _, rfl, bad _ (Nat.le_refl _) (Nat.le_refl _) (by simp [ldB, p1])⟩
  have d1 := decide_eq_false p1
  by_cases p2 : 1152921504606846976 < last
  · have d2 := decide_eq_true p2
    repeat (first
      | ((first | apply Wp.seqItemsR | apply Wp.itemsR); (· simp only [go_sem, reduceIte, Nat.reduceEqDiff, Nat.reduceAdd, bx, ax, if_true, if_false, Nat.reduceMul, Nat.reduceLeDiff, d1, d2]; exact rfl))
      | (refine WpItems.nil ⟨?_, ?_⟩; (· first | trivial | simp [pairsQ, pairsOk, apart, ent0]))
      | (apply Wp.cond_lit; (· simp only [go_sem, reduceIte, Nat.reduceEqDiff, Nat.reduceAdd, bx, ax, if_true, if_false, Nat.reduceMul, Nat.reduceLeDiff, d1, d2]; exact rfl); (· rfl))
      | refine Wp.skip ?_
      | refine Wp.label ?_
      | refine Wp.block ?_
      | refine Wp.exit ?_
      | refine Wp.seq ?_)
    exact Wp.ret ⟨trivial, _, rfl, bad _ (Nat.le_refl _) (Nat.le_refl _) (by simp [ldB, p2])⟩
  have d2 := decide_eq_false p2
  by_cases p3 : mark < 0
  · have d3 := decide_eq_true p3
    repeat (first
      | ((first | apply Wp.seqItemsR | apply Wp.itemsR); (· simp only [go_sem, reduceIte, Nat.reduceEqDiff, Nat.reduceAdd, bx, ax, if_true, if_false, Nat.reduceMul, Nat.reduceLeDiff, d1, d2, d3]; exact rfl))
      | (refine WpItems.nil ⟨?_, ?_⟩; (· first | trivial | simp [pairsQ, pairsOk, apart, ent0]))
      | (apply Wp.cond_lit; (· simp only [go_sem, reduceIte, Nat.reduceEqDiff, Nat.reduceAdd, bx, ax, if_true, if_false, Nat.reduceMul, Nat.reduceLeDiff, d1, d2, d3]; exact rfl); (· rfl))
      | refine Wp.skip ?_
      | refine Wp.label ?_
      | refine Wp.block ?_
      | refine Wp.exit ?_
      | refine Wp.seq ?_)
    exact Wp.ret ⟨trivial, _, rfl, bad _ (Nat.le_refl _) (Nat.le_refl _) (by simp [ldB, p3])⟩
  have d3 := decide_eq_false p3
  by_cases p4 : last < mark
  · have d4 := decide_eq_true p4
    repeat (first
      | ((first | apply Wp.seqItemsR | apply Wp.itemsR); (· simp only [go_sem, reduceIte, Nat.reduceEqDiff, Nat.reduceAdd, bx, ax, if_true, if_false, Nat.reduceMul, Nat.reduceLeDiff, d1, d2, d3, d4]; exact rfl))
      | (refine WpItems.nil ⟨?_, ?_⟩; (· first | trivial | simp [pairsQ, pairsOk, apart, ent0]))
      | (apply Wp.cond_lit; (· simp only [go_sem, reduceIte, Nat.reduceEqDiff, Nat.reduceAdd, bx, ax, if_true, if_false, Nat.reduceMul, Nat.reduceLeDiff, d1, d2, d3, d4]; exact rfl); (· rfl))
      | refine Wp.skip ?_
      | refine Wp.label ?_
      | refine Wp.block ?_
      | refine Wp.exit ?_
      | refine Wp.seq ?_)
    exact Wp.ret ⟨trivial, _, rfl, bad _ (Nat.le_refl _) (Nat.le_refl _) (by simp [ldB, p4])⟩
  have d4 := decide_eq_false p4
  repeat (first
    | ((first | apply Wp.seqItemsR | apply Wp.itemsR); (· simp only [go_sem, reduceIte, Nat.reduceEqDiff, Nat.reduceAdd, bx, ax, if_true, if_false, Nat.reduceMul, Nat.reduceLeDiff, d1, d2, d3, d4]; exact rfl))
    | (refine WpItems.nil ⟨?_, ?_⟩; (· first | trivial | simp [pairsQ, pairsOk, apart, ent0]))
    | (apply Wp.cond_lit; (· simp only [go_sem, reduceIte, Nat.reduceEqDiff, Nat.reduceAdd, bx, ax, if_true, if_false, Nat.reduceMul, Nat.reduceLeDiff, d1, d2, d3, d4]; exact rfl); (· rfl))
    | refine Wp.skip ?_
    | refine Wp.label ?_
    | refine Wp.block ?_
    | refine Wp.exit ?_
    | refine Wp.seq ?_)
  refine WpItems.gcall [] [] [] (by simp only [go_sem]) (by simp only [go_sem, reduceIte, Nat.reduceEqDiff, List.map]; exact VSubs.refl _) new_g ok fun r G' n1 m1 ids1 hq hn1 hm1 ok1 wi1 ki1 => ?_
  obtain ⟨s, F1, rfl, rfl, hF1⟩ := hq
  obtain ⟨c1, M1, K1, hM1, hsc1, hs1, hc1, hK1⟩ := hF1.go
  have on1 : On [] n m [F1] n1 _ m1 := ⟨hn1, hm1, ok1, wi1, ki1⟩
  have gs1 := on1.ok.at0 hs1
  refine WpItems.evR (by simp only [go_sem, reduceIte, Nat.reduceEqDiff, Nat.reduceAdd, bx]; exact rfl) ?_
  refine WpItems.nil ⟨by trivial, ?_⟩
  repeat (first
    | ((first | apply Wp.seqItemsR | apply Wp.itemsR); (· simp only [go_sem, reduceIte, Nat.reduceEqDiff, Nat.reduceAdd, bx, ax, if_true, if_false, Nat.reduceMul, Nat.reduceLeDiff, gs1, List.length_map]; exact rfl))
    | (refine WpItems.nil ⟨?_, ?_⟩; (· first | trivial | simp [pairsQ, pairsOk, apart, ent0]))
    | (apply Wp.cond_lit; (· simp only [go_sem, reduceIte, Nat.reduceEqDiff, Nat.reduceAdd, bx, ax, if_true, if_false, Nat.reduceMul, Nat.reduceLeDiff, gs1, List.length_map]; exact rfl); (· rfl))
    | refine Wp.skip ?_
    | refine Wp.label ?_
    | refine Wp.block ?_
    | refine Wp.exit ?_
    | refine Wp.seq ?_)
  rw [upd_lay]
  have hF2 : SpcF s ⟨[], last, 0⟩ _ := hF1.times hs1 last 0
  have on2 := on1.step (On.put (o := .cells [K1, .mp c1, .int .i64 last, .int .i64 0]) on1.ok (by rw [hs1]; rfl))
  generalize hf2 : (⟨upd F1.o s (some (.cells [K1, .mp c1, .int .i64 last, .int .i64 0])), F1.k⟩ : Fr) = F2 at *
  have f2 : F2.o s = some (.cells [K1, .mp c1, .int .i64 last, .int .i64 0]) := by rw [← hf2]; simp [upd]
  rw [upd_lay]
  have hF3 : SpcF s ⟨[], last, mark⟩ _ := hF2.times f2 last mark
  have on3 := on2.step (On.put (o := .cells [K1, .mp c1, .int .i64 last, .int .i64 mark]) on2.ok (by rw [f2]; rfl))
  generalize hf3 : (⟨upd F2.o s (some (.cells [K1, .mp c1, .int .i64 last, .int .i64 mark])), F2.k⟩ : Fr) = F3 at *
  have hil : (l.map encI).length = l.length := by simp
  refine Wp.loopG (β := Nat) [1, 8, 36, 37] (by simp only [go_sem, reduceIte, Nat.reduceEqDiff, List.map]; exact rfl) (fun i => [(38, .int .i64 (i : Nat)), (9, .str (aheadAt l i))]) (fun i L => i ≤ l.length ∧ (∀ j, j < i → ldAt l last j = true) ∧ ∃ F', L = [F'] ∧ SpcF s ⟨layL [] (l.take i), last, mark⟩ F') (fun i => l.length - i) 0 ⟨Nat.zero_le _, fun j h => absurd h (by omega), F3, rfl, hF3⟩ on3.ok (by simp only [AllSub, go_sem, reduceIte, Nat.reduceEqDiff]; exact ⟨VSub.refl _, VSub.refl _, trivial⟩) ?_
  rintro i L n5 T5 m5 on ⟨hi, hall, F', rfl, hF'⟩
  by_cases hi2 : i < l.length
  · have g1 : decide (((i : Nat) : Int) < ((l.length : Nat) : Int)) = true := decide_eq_true (by omega)
    have h2 : (0 : Int) ≤ ((i : Nat) : Int) := by omega
    have h3 : ((i : Nat) : Int) < ((l.length : Nat) : Int) := by omega
    have e1 : IntKind.i64.wrap (((i : Nat) : Int) + 1) = ((i + 1 : Nat) : Int) := by rw [IntWalk.i64_in _ (by omega)]; omega
    have hat := enc_at encI l i .any hi2
    have hdo := layL_snoc [] l hi2
    obtain ⟨hr', hl'⟩ := layL_ok (l.take i) [] (by simp [RiseL, Rise, keysOf])
    have hl2 : (layL [] (l.take i)).length ≤ 500000 := by
      rw [List.length_take] at hl'
      simp only [List.length_nil] at hl'
      omega
    have hvx : (l.getD i default).2.length ≤ 4398046511104 := hv _ (by rw [getD_el hi2]; exact List.getElem_mem hi2)
    have hmay := may_p (l.getD i default) (by omega) (aheadAt l i) (decide (i = 0)) last
    have hah : aheadAt l (i + 1) = (l.getD i default).1 := by simp [aheadAt]
    have hz : decide ((i : Int) = 0) = decide (i = 0) := by simp
    have hcl := clone_p (l.getD i default).2 (by omega)
    cases hm : ldAt l last i with
    | false =>
      have hm' := hm
      unfold ldAt at hm'
      rw [hm'] at hmay
      generalize l.getD i default = x at *
      repeat (first
        | ((first | apply Wp.seqItemsR | apply Wp.itemsR); (· simp only [go_sem, reduceIte, Nat.reduceEqDiff, Nat.reduceAdd, bx, ax, if_true, if_false, Nat.reduceMul, Nat.reduceLeDiff, g1, h2, h3, hat, hil, encI, vAV, hz]; exact rfl))
        | (refine WpItems.nil ⟨?_, ?_⟩; (· first | trivial | simp [pairsQ, pairsOk, apart, ent0]))
        | (apply Wp.cond_lit; (· simp only [go_sem, reduceIte, Nat.reduceEqDiff, Nat.reduceAdd, bx, ax, if_true, if_false, Nat.reduceMul, Nat.reduceLeDiff, g1, h2, h3, hat, hil, encI, vAV, hz]; exact rfl); (· rfl))
        | refine Wp.skip ?_
        | refine Wp.label ?_
        | refine Wp.block ?_
        | refine Wp.exit ?_
        | refine Wp.seq ?_)
      refine WpItems.pcall (by simp only [go_sem]) (by simp only [go_sem, reduceIte, Nat.reduceEqDiff, List.map]; exact VSubs.refl _) hmay ?_
      refine WpItems.evR (by simp only [go_sem, reduceIte, Nat.reduceEqDiff, Nat.reduceAdd, bx]; exact rfl) ?_
      refine WpItems.nil ⟨by trivial, ?_⟩
      repeat (first
        | ((first | apply Wp.seqItemsR | apply Wp.itemsR); (· simp only [go_sem, reduceIte, Nat.reduceEqDiff, Nat.reduceAdd, bx, ax, if_true, if_false, Nat.reduceMul, Nat.reduceLeDiff]; exact rfl))
        | (refine WpItems.nil ⟨?_, ?_⟩; (· first | trivial | simp [pairsQ, pairsOk, apart, ent0]))
        | (apply Wp.cond_lit; (· simp only [go_sem, reduceIte, Nat.reduceEqDiff, Nat.reduceAdd, bx, ax, if_true, if_false, Nat.reduceMul, Nat.reduceLeDiff]; exact rfl); (· rfl))
        | refine Wp.skip ?_
        | refine Wp.label ?_
        | refine Wp.block ?_
        | refine Wp.exit ?_
        | refine Wp.seq ?_)
      have on4 := on3.step on
      exact Wp.ret ⟨trivial, _, rfl, bad _ (by have := on4.gn; simp only; omega) on4.gm (by
        have : (List.range l.length).all (ldAt l last) = false := all_no hi2 hm
        simp [ldB, this])⟩
    | true =>
      have hm' := hm
      unfold ldAt at hm'
      rw [hm'] at hmay
      generalize l.getD i default = x at *
      repeat (first
        | ((first | apply Wp.seqItemsR | apply Wp.itemsR); (· simp only [go_sem, reduceIte, Nat.reduceEqDiff, Nat.reduceAdd, bx, ax, if_true, if_false, Nat.reduceMul, Nat.reduceLeDiff, g1, h2, h3, hat, hil, encI, vAV, hz]; exact rfl))
        | (refine WpItems.nil ⟨?_, ?_⟩; (· first | trivial | simp [pairsQ, pairsOk, apart, ent0]))
        | (apply Wp.cond_lit; (· simp only [go_sem, reduceIte, Nat.reduceEqDiff, Nat.reduceAdd, bx, ax, if_true, if_false, Nat.reduceMul, Nat.reduceLeDiff, g1, h2, h3, hat, hil, encI, vAV, hz]; exact rfl); (· rfl))
        | refine Wp.skip ?_
        | refine Wp.label ?_
        | refine Wp.block ?_
        | refine Wp.exit ?_
        | refine Wp.seq ?_)
      refine WpItems.pcall (by simp only [go_sem]) (by simp only [go_sem, reduceIte, Nat.reduceEqDiff, List.map]; exact VSubs.refl _) hmay ?_
      refine WpItems.evR (by simp only [go_sem, reduceIte, Nat.reduceEqDiff, Nat.reduceAdd, bx]; exact rfl) ?_
      refine WpItems.nil ⟨by trivial, ?_⟩
      repeat (first
        | ((first | apply Wp.seqItemsR | apply Wp.itemsR); (· simp only [go_sem, reduceIte, Nat.reduceEqDiff, Nat.reduceAdd, bx, ax, if_true, if_false, Nat.reduceMul, Nat.reduceLeDiff, hcl]; exact rfl))
        | (refine WpItems.nil ⟨?_, ?_⟩; (· first | trivial | simp [pairsQ, pairsOk, apart, ent0]))
        | (apply Wp.cond_lit; (· simp only [go_sem, reduceIte, Nat.reduceEqDiff, Nat.reduceAdd, bx, ax, if_true, if_false, Nat.reduceMul, Nat.reduceLeDiff, hcl]; exact rfl); (· rfl))
        | refine Wp.skip ?_
        | refine Wp.label ?_
        | refine Wp.block ?_
        | refine Wp.exit ?_
        | refine Wp.seq ?_)
      rw [upd_new, upd_ob]
      refine WpItems.pcall (by simp only [go_sem]) (by simp only [go_sem, reduceIte, Nat.reduceEqDiff, List.map]; exact VSubs.refl _) hcl ?_
      refine WpItems.evR (by simp only [go_sem, reduceIte, Nat.reduceEqDiff, Nat.reduceAdd, bx]; exact rfl) ?_
      have ok6 := on.ok.more (.cells [.str x.1, vAV x.2])
      refine WpItems.gcall [_] [F'] [] (by simp only [go_sem]) (by simp only [go_sem, reduceIte, Nat.reduceEqDiff, List.map]; exact VSubs.refl _) (set_g hF' hr' hl2 x.1 x.2) ok6 fun r G' n' m' ids hq hn' hm' ok7 wi ki => ?_
      obtain ⟨rfl, F5, rfl, hF5⟩ := hq
      have on7 : On [F'] n5 m5 [F5] n' _ m' := On.under ⟨hn', hm', ok7, wi, ki⟩
      have g5 : lay ([ob n5 (.cells [.str x.1, vAV x.2])] ++ [F5] ++ []) n5 = some (.cells [.str x.1, vAV x.2]) := lay_ob_at n5 _ [F5]
      refine WpItems.evR (by simp only [go_sem, reduceIte, Nat.reduceEqDiff, Nat.reduceAdd, bx]; exact rfl) ?_
      refine WpItems.nil ⟨by simp [pairsQ, pairsOk, apart, ent0], ?_⟩
      simp only [List.cons_append, List.nil_append, List.append_nil, vAV] at g5 ⊢
      repeat (first
        | ((first | apply Wp.seqItemsR | apply Wp.itemsR); (· simp only [go_sem, reduceIte, Nat.reduceEqDiff, Nat.reduceAdd, bx, ax, if_true, if_false, Nat.reduceMul, Nat.reduceLeDiff, e1, g5]; exact rfl))
        | (refine WpItems.nil ⟨?_, ?_⟩; (· first | trivial | simp [pairsQ, pairsOk, apart, ent0]))
        | (apply Wp.cond_lit; (· simp only [go_sem, reduceIte, Nat.reduceEqDiff, Nat.reduceAdd, bx, ax, if_true, if_false, Nat.reduceMul, Nat.reduceLeDiff, e1, g5]; exact rfl); (· rfl))
        | refine Wp.skip ?_
        | refine Wp.label ?_
        | refine Wp.block ?_
        | refine Wp.exit ?_
        | refine Wp.seq ?_)
      refine ⟨i + 1, [F5], n', _, m', on7, ⟨by omega, all_step hall hm, F5, rfl, ?_⟩, by omega, ?_⟩
      · rw [hdo]; exact hF5
      · refine StLe.of (tm_le ?_) (ole_drop_ob (Ok.alone ok7)) (fun _ h => h) (Nat.le_refl _) (Nat.le_refl _)
        rw [hah]
        simp only [AllSub, go_sem, reduceIte, Nat.reduceEqDiff, Nat.reduceAdd, bx]; and_intros <;> first | exact trivial | exact VSub.refl _ | exact VSub.any _ | (refine VSub.int ?_; omega)
  · have hie : i = l.length := by omega
    subst hie
    have g1 : decide (((l.length : Nat) : Int) < ((l.length : Nat) : Int)) = false := decide_eq_false (by omega)
    rw [List.take_length] at hF'
    have hld : ldB l last mark = true := by
      simp only [ldB, d1, d2, d3, d4, Bool.not_false, Bool.true_and]
      exact all_yes hall
    repeat (first
      | ((first | apply Wp.seqItemsR | apply Wp.itemsR); (· simp only [go_sem, reduceIte, Nat.reduceEqDiff, Nat.reduceAdd, bx, ax, if_true, if_false, Nat.reduceMul, Nat.reduceLeDiff, g1]; exact rfl))
      | (refine WpItems.nil ⟨?_, ?_⟩; (· first | trivial | simp [pairsQ, pairsOk, apart, ent0]))
      | (apply Wp.cond_lit; (· simp only [go_sem, reduceIte, Nat.reduceEqDiff, Nat.reduceAdd, bx, ax, if_true, if_false, Nat.reduceMul, Nat.reduceLeDiff, g1]; exact rfl); (· rfl))
      | refine Wp.skip ?_
      | refine Wp.label ?_
      | refine Wp.block ?_
      | refine Wp.exit ?_
      | refine Wp.seq ?_)
    refine Wp.ret ⟨trivial, _, rfl, _, _, (on3.step on).ends (VSub.refl _) ?_⟩
    rw [if_pos hld]
    exact ⟨s, F', rfl, rfl, hF'⟩
end Go.Proofs.Ytpehfflehebmbaa.Space
end
section
set_option linter.unusedSimpArgs false
set_option linter.unusedVariables false
set_option maxRecDepth 10000
namespace Go.Proofs.Ytpehfflehebmbaa.Space
open Go Go.Av Go.Proofs Go.Proofs.Ytpehfflehebmbaa.C Go.Proofs.Ytpehfflehebmbaa.Batch
theorem keysOf_cons (p : It) (L : List It) : keysOf (p :: L) = p.1 :: keysOf L := rfl
theorem plK_cons (k : Bs) (ks : List Bs) (q : Bs) : plK (k :: ks) q = if Op.bytesLess k q = true then plK ks q + 1 else 0 := by
  simp only [plK, List.findIdx_cons]
  cases h : Op.bytesLess k q <;> simp
theorem thK_nil (q : Bs) : thK [] q = false := by simp [thK]
theorem thK_cons (k : Bs) (ks : List Bs) (q : Bs) : thK (k :: ks) q = if Op.bytesLess k q = true then thK ks q else decide (k = q) := by
  simp only [thK, plK_cons]
  cases h : Op.bytesLess k q <;> simp
theorem setL_nil (q : Bs) (v : List Ver) : setL [] q v = if v = [] then [] else [(q, v)] := by
  simp [setL, keysOf, thK_nil, plK]
theorem setL_cons (p : It) (L : List It) (q : Bs) (v : List Ver) : setL (p :: L) q v = if Op.bytesLess p.1 q = true then p :: setL L q v else if p.1 = q then (if v = [] then L else (q, v) :: L) else (if v = [] then p :: L else (q, v) :: p :: L) := by
  simp only [setL, keysOf_cons, thK_cons, plK_cons]
  by_cases h : Op.bytesLess p.1 q = true
  · simp only [if_pos h, List.take_succ_cons, List.drop_succ_cons, List.cons_append]
    split <;> split <;> rfl
  · simp only [if_neg h]
    by_cases e : p.1 = q
    · simp [e]
    · simp [e]
theorem setL_mid (q : Bs) (v : List Ver) (B : List It) : ∀ A : List It, (∀ p ∈ A, Op.bytesLess p.1 q = true) → setL (A ++ B) q v = A ++ setL B q v
  | [], _ => rfl
  | p :: A, h => by
    rw [List.cons_append, setL_cons, if_pos (h p (by simp)), setL_mid q v B A (fun x hx => h x (by simp [hx]))]; rfl
theorem rise_cons {p : It} {L : List It} : RiseL (p :: L) ↔ (∀ x ∈ L, Op.bytesLess p.1 x.1 = true) ∧ RiseL L := by
  simp [RiseL, Rise, keysOf, List.pairwise_cons]
theorem rise_app {A B : List It} : RiseL (A ++ B) ↔ RiseL A ∧ RiseL B ∧ ∀ x ∈ A, ∀ y ∈ B, Op.bytesLess x.1 y.1 = true := by
  unfold RiseL Rise keysOf
  rw [List.map_append, List.pairwise_append]
  simp
theorem less_ne {a b : Bs} (h : Op.bytesLess a b = true) : a ≠ b := fun e => by rw [e, less_irrefl] at h; cases h
theorem after {p : It} {L : List It} {q : Bs} (hr : RiseL (p :: L)) (h : Op.bytesLess p.1 q = false) : ∀ x ∈ L, x.1 ≠ q := by
  intro x hx e
  have := (rise_cons.1 hr).1 x hx
  rw [e, h] at this; cases this
def Full (L : List It) : Prop := ∀ p ∈ L, p.2 ≠ []
theorem layL_app : ∀ (l A : List It), RiseL (A ++ l) → Full l → layL A l = A ++ l
  | [], A, _, _ => by simp [layL]
  | p :: l, A, hr, hf => by
    have h1 := (rise_app.1 hr).2.2
    have hs : setL A p.1 p.2 = A ++ [p] := by
      have := setL_mid p.1 p.2 [] A (fun x hx => h1 x hx p (by simp))
      rw [List.append_nil, setL_nil, if_neg (hf p (by simp))] at this
      exact this
    have e : layL A (p :: l) = layL (setL A p.1 p.2) l := rfl
    rw [e, hs, layL_app l (A ++ [p]) (by simpa using hr) (fun x hx => hf x (by simp [hx]))]
    simp
theorem layL_self {L : List It} (hr : RiseL L) (hf : Full L) : layL [] L = L := by
  have := layL_app L [] (by simpa using hr) hf
  simpa using this
theorem setL_full {L : List It} (hf : Full L) (q : Bs) (v : List Ver) : Full (setL L q v) := by
  induction L with
  | nil => rw [setL_nil]; split <;> simp_all [Full]
  | cons p L ih =>
    have h1 : p.2 ≠ [] := hf p (by simp)
    have h2 : Full L := fun x hx => hf x (by simp [hx])
    have h3 := ih h2
    rw [setL_cons]
    intro x hx
    split at hx
    · rcases List.mem_cons.1 hx with rfl | hx
      · exact h1
      · exact h3 x hx
    · split at hx <;> split at hx
      · exact h2 x hx
      · rename_i hv
        rcases List.mem_cons.1 hx with rfl | hx
        · exact hv
        · exact h2 x hx
      · exact hf x hx
      · rename_i hv
        rcases List.mem_cons.1 hx with rfl | hx
        · exact hv
        · exact hf x hx
theorem mget_mem {L : List It} (hr : RiseL L) {p : It} (hp : p ∈ L) : mget L p.1 = p.2 := by
  induction L with
  | nil => simp at hp
  | cons x L ih =>
    obtain ⟨h1, h2⟩ := rise_cons.1 hr
    rcases List.mem_cons.1 hp with rfl | hp
    · simp [mget]
    · rw [mget, if_neg (less_ne (h1 p hp))]; exact ih h2 hp
def inB (k a b : Bs) : Bool := !Op.bytesLess k a && selP b k
theorem sel_none {b : Bs} : ∀ {ks : List Bs} {k : Bs}, (∀ x ∈ ks, Op.bytesLess k x = true) → selP b k = false → ∀ x ∈ ks, selP b x = false := by
  intro ks k h hk x hx
  simp only [selP, Bool.or_eq_false_iff, decide_eq_false_iff_not] at hk ⊢
  refine ⟨hk.1, ?_⟩
  cases hc : Op.bytesLess x b with
  | false => rfl
  | true => rw [less_trans (h x hx) hc] at hk; cases hk.2
theorem take_filter {b : Bs} : ∀ ks : List Bs, Rise ks → ks.takeWhile (selP b) = ks.filter (selP b)
  | [], _ => rfl
  | k :: ks, hr => by
    obtain ⟨h1, h2⟩ := List.pairwise_cons.1 hr
    rw [List.takeWhile_cons, List.filter_cons]
    cases hk : selP b k with
    | true => simp only [if_true]; rw [take_filter ks h2]
    | false =>
      simp only [Bool.false_eq_true, if_false]
      refine (List.filter_eq_nil_iff.2 fun x hx => ?_).symm
      rw [sel_none h1 hk x hx]; exact Bool.false_ne_true
theorem selK_eq {a b : Bs} : ∀ ks : List Bs, Rise ks → selK ks a b = ks.filter fun k => inB k a b
  | [], _ => by simp [selK]
  | k :: ks, hr => by
    obtain ⟨h1, h2⟩ := List.pairwise_cons.1 hr
    by_cases h : Op.bytesLess k a = true
    · have ih := selK_eq (a := a) (b := b) ks h2
      rw [selK, plK_cons, if_pos h, List.drop_succ_cons, List.filter_cons, if_neg (by simp [inB, h])]
      exact ih
    · have h' : Op.bytesLess k a = false := by simpa using h
      rw [selK, plK_cons, if_neg h, List.drop_zero, take_filter _ hr]
      refine List.filter_congr fun x hx => ?_
      have : Op.bytesLess x a = false := by
        rcases List.mem_cons.1 hx with rfl | hx
        · exact h'
        · cases hc : Op.bytesLess x a with
          | false => rfl
          | true => rw [less_trans (h1 x hx) hc] at h'; cases h'
      simp [inB, this]
theorem sinceS_eq {S : Spc} (hr : RiseL S.L) (a b : Bs) (t : Int) : sinceS S a b t = S.L.any fun p => inB p.1 a b && sinceB p.2 t := by
  rw [sinceS, selK_eq _ hr, keysOf, List.filter_map, List.any_map]
  refine Bool.eq_iff_iff.2 ?_
  simp only [List.any_eq_true, List.mem_filter, Function.comp, Bool.and_eq_true]
  constructor
  · rintro ⟨p, ⟨hp, h1⟩, h2⟩
    rw [mget_mem hr hp] at h2
    exact ⟨p, hp, h1, h2⟩
  · rintro ⟨p, hp, h1, h2⟩
    rw [← mget_mem hr hp] at h2
    exact ⟨p, ⟨hp, h1⟩, h2⟩
end Go.Proofs.Ytpehfflehebmbaa.Space
end
section
set_option linter.unusedSimpArgs false
set_option linter.unusedVariables false
set_option maxRecDepth 10000
namespace Go.Proofs.Ytpehfflehebmbaa.Space
open Go Go.Av Go.Proofs Go.Proofs.Ytpehfflehebmbaa.C Go.Proofs.Ytpehfflehebmbaa.Batch
def encS (S : Spc) : AV := .agg [.sl 2 (S.L.map encI) .any, .int .i64 S.last, .int .i64 S.mark]
theorem encI_pure (p : It) : isPure (encI p) = true := by simp [allPure, isPure, capPure, encI, vAV, vers_pure]
theorem its_pure (l : List It) : allPure (l.map encI) = true := Av.allPure_map encI_pure l
theorem encS_pure (S : Spc) : isPure (encS S) = true := by simp [allPure, isPure, capPure, encS, its_pure]
theorem within_p (k a b : Bs) (lk : Ls k) (la : Ls a) (lb : Ls b) : PCalls Try.prog 113 [.str k, .str a, .str b] (.bool (inB k a b)) := by
  refine f113.pcalls0 (by simp) (by simp [allPure, isPure]) rfl ?_
  unfold c113
  have b1 := below_p k a lk la
  have b2 := below_p k b lk lb
  cases h1 : Op.bytesLess k a with
  | true =>
    rw [h1] at b1
    repeat (first
      | ((first | apply Wp.seqItemsR | apply Wp.itemsR | ((first
          | (refine WpItems.pcall ?_ ?_ (b1) ?_; (· simp only [go_sem, reduceIte, Nat.reduceEqDiff, Nat.reduceAdd, bx]); (· simp only [go_sem, reduceIte, Nat.reduceEqDiff, Nat.reduceAdd, bx, List.map]; first | exact VSubs.refl _ | (repeat (first | exact VSubs.nil | refine VSubs.cons (by first | exact VSub.refl _ | assumption | exact VSub.cap | exact VSub.any _) ?_))))); apply WpItems.evR)); (· simp only [go_sem, reduceIte, Nat.reduceEqDiff, Nat.reduceAdd, bx, ax, if_true, if_false, Nat.reduceMul, Nat.reduceLeDiff, h1]; exact rfl))
      | (refine WpItems.nil ⟨?_, ?_⟩; (· first | trivial | simp [pairsQ, pairsOk, apart, ent0]))
      | (apply Wp.cond_lit; (· simp only [go_sem, reduceIte, Nat.reduceEqDiff, Nat.reduceAdd, bx, ax, if_true, if_false, Nat.reduceMul, Nat.reduceLeDiff, h1]; exact rfl); (· rfl))
      | refine Wp.skip ?_
      | refine Wp.label ?_
      | refine Wp.block ?_
      | refine Wp.exit ?_
      | refine Wp.seq ?_)
    refine Wp.ret ⟨trivial, _, rfl, ?_⟩
    simp only [go_sem, reduceIte, Nat.reduceEqDiff, Nat.reduceAdd, bx]
    rw [inB, h1]; exact VSub.refl _
  | false =>
    rw [h1] at b1
    by_cases h2 : b = []
    · have d2 := decide_eq_true h2
      repeat (first
        | ((first | apply Wp.seqItemsR | apply Wp.itemsR | ((first
            | (refine WpItems.pcall ?_ ?_ (b1) ?_; (· simp only [go_sem, reduceIte, Nat.reduceEqDiff, Nat.reduceAdd, bx]); (· simp only [go_sem, reduceIte, Nat.reduceEqDiff, Nat.reduceAdd, bx, List.map]; first | exact VSubs.refl _ | (repeat (first | exact VSubs.nil | refine VSubs.cons (by first | exact VSub.refl _ | assumption | exact VSub.cap | exact VSub.any _) ?_))))); apply WpItems.evR)); (· simp only [go_sem, reduceIte, Nat.reduceEqDiff, Nat.reduceAdd, bx, ax, if_true, if_false, Nat.reduceMul, Nat.reduceLeDiff, d2]; exact rfl))
        | (refine WpItems.nil ⟨?_, ?_⟩; (· first | trivial | simp [pairsQ, pairsOk, apart, ent0]))
        | (apply Wp.cond_lit; (· simp only [go_sem, reduceIte, Nat.reduceEqDiff, Nat.reduceAdd, bx, ax, if_true, if_false, Nat.reduceMul, Nat.reduceLeDiff, d2]; exact rfl); (· rfl))
        | refine Wp.skip ?_
        | refine Wp.label ?_
        | refine Wp.block ?_
        | refine Wp.exit ?_
        | refine Wp.seq ?_)
      refine Wp.ret ⟨trivial, _, rfl, ?_⟩
      simp only [go_sem, reduceIte, Nat.reduceEqDiff, Nat.reduceAdd, bx]
      rw [inB, selP, h1, d2]; exact VSub.refl _
    · have d2 := decide_eq_false h2
      repeat (first
        | ((first | apply Wp.seqItemsR | apply Wp.itemsR | ((first
            | (refine WpItems.pcall ?_ ?_ (b1) ?_; (· simp only [go_sem, reduceIte, Nat.reduceEqDiff, Nat.reduceAdd, bx]); (· simp only [go_sem, reduceIte, Nat.reduceEqDiff, Nat.reduceAdd, bx, List.map]; first | exact VSubs.refl _ | (repeat (first | exact VSubs.nil | refine VSubs.cons (by first | exact VSub.refl _ | assumption | exact VSub.cap | exact VSub.any _) ?_))))
            | (refine WpItems.pcall ?_ ?_ (b2) ?_; (· simp only [go_sem, reduceIte, Nat.reduceEqDiff, Nat.reduceAdd, bx]); (· simp only [go_sem, reduceIte, Nat.reduceEqDiff, Nat.reduceAdd, bx, List.map]; first | exact VSubs.refl _ | (repeat (first | exact VSubs.nil | refine VSubs.cons (by first | exact VSub.refl _ | assumption | exact VSub.cap | exact VSub.any _) ?_))))); apply WpItems.evR)); (· simp only [go_sem, reduceIte, Nat.reduceEqDiff, Nat.reduceAdd, bx, ax, if_true, if_false, Nat.reduceMul, Nat.reduceLeDiff, d2]; exact rfl))
        | (refine WpItems.nil ⟨?_, ?_⟩; (· first | trivial | simp [pairsQ, pairsOk, apart, ent0]))
        | (apply Wp.cond_lit; (· simp only [go_sem, reduceIte, Nat.reduceEqDiff, Nat.reduceAdd, bx, ax, if_true, if_false, Nat.reduceMul, Nat.reduceLeDiff, d2]; exact rfl); (· rfl))
        | refine Wp.skip ?_
        | refine Wp.label ?_
        | refine Wp.block ?_
        | refine Wp.exit ?_
        | refine Wp.seq ?_)
      refine Wp.ret ⟨trivial, _, rfl, ?_⟩
      simp only [go_sem, reduceIte, Nat.reduceEqDiff, Nat.reduceAdd, bx]
      rw [inB, selP, h1, d2]; exact VSub.refl _
end Go.Proofs.Ytpehfflehebmbaa.Space
end
section
set_option linter.unusedSimpArgs false
set_option linter.unusedVariables false
set_option maxRecDepth 10000
namespace Go.Proofs.Ytpehfflehebmbaa.Space
open Go Go.Av Go.Proofs Go.Proofs.Ytpehfflehebmbaa.C Go.Proofs.Ytpehfflehebmbaa.Batch
theorem lsI {L : List It} (h : ∀ p ∈ L, Ls p.1) {j : Nat} (hj : j < L.length) : Ls (L.getD j default).1 := by
  rw [getD_el hj]; exact h _ (List.getElem_mem hj)
end Go.Proofs.Ytpehfflehebmbaa.Space
end
section
set_option linter.unusedSimpArgs false
set_option linter.unusedVariables false
set_option maxRecDepth 10000
namespace Go.Proofs.Ytpehfflehebmbaa.Space
open Go Go.Av Go.Proofs Go.Proofs.Ytpehfflehebmbaa.C Go.Proofs.Ytpehfflehebmbaa.Batch
end Go.Proofs.Ytpehfflehebmbaa.Space
end
section
set_option linter.unusedSimpArgs false
set_option linter.unusedVariables false
set_option maxRecDepth 10000
namespace Go.Proofs.Ytpehfflehebmbaa.Space
open Go Go.Av Go.Proofs Go.Proofs.Ytpehfflehebmbaa.C Go.Proofs.Ytpehfflehebmbaa.Batch
theorem any_yes {α : Type} [Inhabited α] {l : List α} {f : α → Bool} {i : Nat} (h : i < l.length) (hf : f (l.getD i default) = true) : l.any f = true := by
  rw [getD_el h] at hf
  exact List.any_eq_true.2 ⟨_, List.getElem_mem h, hf⟩
theorem any_no {α : Type} [Inhabited α] {l : List α} {f : α → Bool} (h : ∀ i, i < l.length → f (l.getD i default) = false) : l.any f = false := by
  rw [List.any_eq_false]
  intro x hx
  obtain ⟨i, hi, rfl⟩ := List.mem_iff_getElem.1 hx
  have := h i hi
  rw [getD_el hi] at this
  rw [this]; exact Bool.false_ne_true
theorem wide_at {S : Spc} (hr : RiseL S.L) (hS : Wide S) {j : Nat} (hj : j < S.L.length) : (S.L.getD j default).2.length ≤ 4398046511104 := by
  have := hS.2 (S.L.getD j default).1
  rwa [mget_mem hr (by rw [getD_el hj]; exact List.getElem_mem hj)] at this
set_option maxHeartbeats 1000000 in
theorem sinceRR_p (S : Spc) (hr : RiseL S.L) (hS : Wide S) (lk : ∀ p ∈ S.L, Ls p.1) (a b : Bs) (la : Ls a) (lb : Ls b) (t : Int) : PCalls Try.prog 71 [encS S, .str a, .str b, .int .i64 t] (.bool (sinceS S a b t)) := by
  refine f71.pcalls0 (by simp) (by simp [allPure, isPure, encS_pure]) rfl ?_
  unfold c71
  rw [sinceS_eq hr]
  have hil : (S.L.map encI).length = S.L.length := by simp
  have hS1 := hS.1
  repeat (first
    | ((first | apply Wp.seqItemsR | apply Wp.itemsR); (· simp only [go_sem, reduceIte, Nat.reduceEqDiff, Nat.reduceAdd, bx, ax, if_true, if_false, Nat.reduceMul, Nat.reduceLeDiff, encS]; exact rfl))
    | (refine WpItems.nil ⟨?_, ?_⟩; (· first | trivial | simp [pairsQ, pairsOk, apart, ent0]))
    | (apply Wp.cond_lit; (· simp only [go_sem, reduceIte, Nat.reduceEqDiff, Nat.reduceAdd, bx, ax, if_true, if_false, Nat.reduceMul, Nat.reduceLeDiff, encS]; exact rfl); (· rfl))
    | refine Wp.skip ?_
    | refine Wp.label ?_
    | refine Wp.block ?_
    | refine Wp.exit ?_
    | refine Wp.seq ?_)
  refine Wp.loopK [1, 2, 3, 4] (by simp only [go_sem, reduceIte, Nat.reduceEqDiff, Nat.reduceAdd, bx, List.map]; exact rfl) (fun j : Nat => [(9, .int .i64 (j : Nat))]) (fun j => j ≤ S.L.length ∧ ∀ i, i < j → (inB (S.L.getD i default).1 a b && sinceB (S.L.getD i default).2 t) = false) (fun j => S.L.length - j) 0 ⟨Nat.zero_le _, fun i h => absurd h (by omega)⟩ ?_ ?_
  · simp only [AllSub, go_sem, reduceIte, Nat.reduceEqDiff, Nat.reduceAdd, bx]; and_intros <;> first | exact trivial | exact VSub.refl _ | exact VSub.any _ | (refine VSub.int ?_; omega)
  rintro j ⟨hj, hno⟩
  by_cases hj2 : j < S.L.length
  · have g1 : decide (((j : Nat) : Int) < ((S.L.length : Nat) : Int)) = true := decide_eq_true (by omega)
    have h2 : (0 : Int) ≤ ((j : Nat) : Int) := by omega
    have h3 : ((j : Nat) : Int) < ((S.L.length : Nat) : Int) := by omega
    have e1 : IntKind.i64.wrap (((j : Nat) : Int) + 1) = ((j + 1 : Nat) : Int) := by rw [IntWalk.i64_in _ (by omega)]; omega
    have hat := enc_at encI S.L j .any hj2
    have hw := within_p (S.L.getD j default).1 a b (lsI lk hj2) la lb
    have hsi := sinceR_p (S.L.getD j default).2 (by have := wide_at hr hS hj2; omega) t
    have stp : (inB (S.L.getD j default).1 a b && sinceB (S.L.getD j default).2 t) = false → ∀ i, i < j + 1 → (inB (S.L.getD i default).1 a b && sinceB (S.L.getD i default).2 t) = false := fun h i hi => by
      by_cases e : i = j
      · rw [e]; exact h
      · exact hno i (by omega)
    have yes : (inB (S.L.getD j default).1 a b && sinceB (S.L.getD j default).2 t) = true → (S.L.any fun p => inB p.1 a b && sinceB p.2 t) = true := fun h => any_yes hj2 h
    generalize S.L.getD j default = x at *
    cases hb1 : inB x.1 a b with
    | false =>
      rw [hb1] at hw stp
      repeat (first
        | ((first | apply Wp.seqItemsR | apply Wp.itemsR | ((first
            | (refine WpItems.pcall ?_ ?_ (hw) ?_; (· simp only [go_sem, reduceIte, Nat.reduceEqDiff, Nat.reduceAdd, bx]); (· simp only [go_sem, reduceIte, Nat.reduceEqDiff, Nat.reduceAdd, bx, List.map]; first | exact VSubs.refl _ | (repeat (first | exact VSubs.nil | refine VSubs.cons (by first | exact VSub.refl _ | assumption | exact VSub.cap | exact VSub.any _) ?_))))); apply WpItems.evR)); (· simp only [go_sem, reduceIte, Nat.reduceEqDiff, Nat.reduceAdd, bx, ax, if_true, if_false, Nat.reduceMul, Nat.reduceLeDiff, g1, h2, h3, e1, hat, hil, encI, vAV]; exact rfl))
        | (refine WpItems.nil ⟨?_, ?_⟩; (· first | trivial | simp [pairsQ, pairsOk, apart, ent0]))
        | (apply Wp.cond_lit; (· simp only [go_sem, reduceIte, Nat.reduceEqDiff, Nat.reduceAdd, bx, ax, if_true, if_false, Nat.reduceMul, Nat.reduceLeDiff, g1, h2, h3, e1, hat, hil, encI, vAV]; exact rfl); (· rfl))
        | refine Wp.skip ?_
        | refine Wp.label ?_
        | refine Wp.block ?_
        | refine Wp.exit ?_
        | refine Wp.seq ?_)
      refine ⟨j + 1, ⟨by omega, stp rfl⟩, by omega, ?_⟩
      refine StLe.tm (by simp only [AllSub, go_sem, reduceIte, Nat.reduceEqDiff, Nat.reduceAdd, bx]; and_intros <;> first | exact trivial | exact VSub.refl _ | exact VSub.any _ | (refine VSub.int ?_; omega))
    | true =>
      rw [hb1] at hw stp yes
      cases hb2 : sinceB x.2 t with
      | false =>
        rw [hb2] at hsi stp
        repeat (first
          | ((first | apply Wp.seqItemsR | apply Wp.itemsR | ((first
              | (refine WpItems.pcall ?_ ?_ (hw) ?_; (· simp only [go_sem, reduceIte, Nat.reduceEqDiff, Nat.reduceAdd, bx]); (· simp only [go_sem, reduceIte, Nat.reduceEqDiff, Nat.reduceAdd, bx, List.map]; first | exact VSubs.refl _ | (repeat (first | exact VSubs.nil | refine VSubs.cons (by first | exact VSub.refl _ | assumption | exact VSub.cap | exact VSub.any _) ?_))))
              | (refine WpItems.pcall ?_ ?_ (hsi) ?_; (· simp only [go_sem, reduceIte, Nat.reduceEqDiff, Nat.reduceAdd, bx]); (· simp only [go_sem, reduceIte, Nat.reduceEqDiff, Nat.reduceAdd, bx, List.map]; first | exact VSubs.refl _ | (repeat (first | exact VSubs.nil | refine VSubs.cons (by first | exact VSub.refl _ | assumption | exact VSub.cap | exact VSub.any _) ?_))))); apply WpItems.evR)); (· simp only [go_sem, reduceIte, Nat.reduceEqDiff, Nat.reduceAdd, bx, ax, if_true, if_false, Nat.reduceMul, Nat.reduceLeDiff, g1, h2, h3, e1, hat, hil, encI, vAV]; exact rfl))
          | (refine WpItems.nil ⟨?_, ?_⟩; (· first | trivial | simp [pairsQ, pairsOk, apart, ent0]))
          | (apply Wp.cond_lit; (· simp only [go_sem, reduceIte, Nat.reduceEqDiff, Nat.reduceAdd, bx, ax, if_true, if_false, Nat.reduceMul, Nat.reduceLeDiff, g1, h2, h3, e1, hat, hil, encI, vAV]; exact rfl); (· rfl))
          | refine Wp.skip ?_
          | refine Wp.label ?_
          | refine Wp.block ?_
          | refine Wp.exit ?_
          | refine Wp.seq ?_)
        refine ⟨j + 1, ⟨by omega, stp rfl⟩, by omega, ?_⟩
        refine StLe.tm (by simp only [AllSub, go_sem, reduceIte, Nat.reduceEqDiff, Nat.reduceAdd, bx]; and_intros <;> first | exact trivial | exact VSub.refl _ | exact VSub.any _ | (refine VSub.int ?_; omega))
      | true =>
        rw [hb2] at hsi yes
        repeat (first
          | ((first | apply Wp.seqItemsR | apply Wp.itemsR | ((first
              | (refine WpItems.pcall ?_ ?_ (hw) ?_; (· simp only [go_sem, reduceIte, Nat.reduceEqDiff, Nat.reduceAdd, bx]); (· simp only [go_sem, reduceIte, Nat.reduceEqDiff, Nat.reduceAdd, bx, List.map]; first | exact VSubs.refl _ | (repeat (first | exact VSubs.nil | refine VSubs.cons (by first | exact VSub.refl _ | assumption | exact VSub.cap | exact VSub.any _) ?_))))
              | (refine WpItems.pcall ?_ ?_ (hsi) ?_; (· simp only [go_sem, reduceIte, Nat.reduceEqDiff, Nat.reduceAdd, bx]); (· simp only [go_sem, reduceIte, Nat.reduceEqDiff, Nat.reduceAdd, bx, List.map]; first | exact VSubs.refl _ | (repeat (first | exact VSubs.nil | refine VSubs.cons (by first | exact VSub.refl _ | assumption | exact VSub.cap | exact VSub.any _) ?_))))); apply WpItems.evR)); (· simp only [go_sem, reduceIte, Nat.reduceEqDiff, Nat.reduceAdd, bx, ax, if_true, if_false, Nat.reduceMul, Nat.reduceLeDiff, g1, h2, h3, e1, hat, hil, encI, vAV]; exact rfl))
          | (refine WpItems.nil ⟨?_, ?_⟩; (· first | trivial | simp [pairsQ, pairsOk, apart, ent0]))
          | (apply Wp.cond_lit; (· simp only [go_sem, reduceIte, Nat.reduceEqDiff, Nat.reduceAdd, bx, ax, if_true, if_false, Nat.reduceMul, Nat.reduceLeDiff, g1, h2, h3, e1, hat, hil, encI, vAV]; exact rfl); (· rfl))
          | refine Wp.skip ?_
          | refine Wp.label ?_
          | refine Wp.block ?_
          | refine Wp.exit ?_
          | refine Wp.seq ?_)
        refine Wp.ret ⟨trivial, _, rfl, ?_⟩
        simp only [go_sem, reduceIte, Nat.reduceEqDiff, Nat.reduceAdd, bx]
        rw [yes rfl]; exact VSub.refl _
  · have hje : j = S.L.length := by omega
    subst hje
    have g1 : decide (((S.L.length : Nat) : Int) < ((S.L.length : Nat) : Int)) = false := decide_eq_false (by omega)
    repeat (first
      | ((first | apply Wp.seqItemsR | apply Wp.itemsR); (· simp only [go_sem, reduceIte, Nat.reduceEqDiff, Nat.reduceAdd, bx, ax, if_true, if_false, Nat.reduceMul, Nat.reduceLeDiff, g1, hil]; exact rfl))
      | (refine WpItems.nil ⟨?_, ?_⟩; (· first | trivial | simp [pairsQ, pairsOk, apart, ent0]))
      | (apply Wp.cond_lit; (· simp only [go_sem, reduceIte, Nat.reduceEqDiff, Nat.reduceAdd, bx, ax, if_true, if_false, Nat.reduceMul, Nat.reduceLeDiff, g1, hil]; exact rfl); (· rfl))
      | refine Wp.skip ?_
      | refine Wp.label ?_
      | refine Wp.block ?_
      | refine Wp.exit ?_
      | refine Wp.seq ?_)
    refine Wp.ret ⟨trivial, _, rfl, ?_⟩
    simp only [go_sem, reduceIte, Nat.reduceEqDiff, Nat.reduceAdd, bx]
    rw [any_no hno]; exact VSub.refl _
end Go.Proofs.Ytpehfflehebmbaa.Space
end
section
set_option linter.unusedSimpArgs false
set_option linter.unusedVariables false
set_option maxRecDepth 10000
namespace Go.Proofs.Ytpehfflehebmbaa.Reads
open Go Go.Av Go.Proofs Go.Proofs.Ytpehfflehebmbaa.C Go.Proofs.Ytpehfflehebmbaa.Batch
theorem covers_eq {k : List Bs} {l : List Sp} (h : checkB k l = true) (q : Bs) : coversB k l q = (decide (q ∈ k) || spanned l q) := by
  rw [coversB, h, there_iff (ks_of (check_ok h).2.2.2).1]; rfl
theorem coversR_p (k : List Bs) (l : List Sp) (hk : LsK k) (hl : LsS l) (q : Bs) (hq : Ls q) : PCalls Try.prog 47 [encR k l, .str q] (.bool (coversB k l q)) := by
  refine f47.pcalls0 (by simp) (by simp [allPure, isPure, encR_pure]) rfl ?_
  unfold c47
  have hr := right_p k l hk hl
  unfold encR at hr
  cases h : checkB k l with
  | false =>
    rw [h] at hr
    repeat (first
      | ((first | apply Wp.seqItemsR | apply Wp.itemsR | ((first
          | (refine WpItems.pcall ?_ ?_ (hr) ?_; (· simp only [go_sem, reduceIte, Nat.reduceEqDiff, Nat.reduceAdd, bx]); (· simp only [go_sem, reduceIte, Nat.reduceEqDiff, Nat.reduceAdd, bx, List.map]; first | exact VSubs.refl _ | (repeat (first | exact VSubs.nil | refine VSubs.cons (by first | exact VSub.refl _ | assumption | exact VSub.cap | exact VSub.any _) ?_))))); apply WpItems.evR)); (· simp only [go_sem, reduceIte, Nat.reduceEqDiff, Nat.reduceAdd, bx, ax, if_true, if_false, Nat.reduceMul, Nat.reduceLeDiff, encR]; exact rfl))
      | (refine WpItems.nil ⟨?_, ?_⟩; (· first | trivial | simp [pairsQ, pairsOk, apart, ent0]))
      | (apply Wp.cond_lit; (· simp only [go_sem, reduceIte, Nat.reduceEqDiff, Nat.reduceAdd, bx, ax, if_true, if_false, Nat.reduceMul, Nat.reduceLeDiff, encR]; exact rfl); (· rfl))
      | refine Wp.skip ?_
      | refine Wp.label ?_
      | refine Wp.block ?_
      | refine Wp.exit ?_
      | refine Wp.seq ?_)
    refine Wp.ret ⟨trivial, _, rfl, ?_⟩
    simp only [go_sem, reduceIte, Nat.reduceEqDiff, Nat.reduceAdd, bx]
    rw [coversB, h]; exact VSub.refl _
  | true =>
    rw [h] at hr
    obtain ⟨b1, b2, b3, b4⟩ := check_ok h
    have hsp := spannedR_p l (by omega) hl q hq
    repeat (first
      | ((first | apply Wp.seqItemsR | apply Wp.itemsR | ((first
          | (refine WpItems.pcall ?_ ?_ (hr) ?_; (· simp only [go_sem, reduceIte, Nat.reduceEqDiff, Nat.reduceAdd, bx]); (· simp only [go_sem, reduceIte, Nat.reduceEqDiff, Nat.reduceAdd, bx, List.map]; first | exact VSubs.refl _ | (repeat (first | exact VSubs.nil | refine VSubs.cons (by first | exact VSub.refl _ | assumption | exact VSub.cap | exact VSub.any _) ?_))))); apply WpItems.evR)); (· simp only [go_sem, reduceIte, Nat.reduceEqDiff, Nat.reduceAdd, bx, ax, if_true, if_false, Nat.reduceMul, Nat.reduceLeDiff, encR]; exact rfl))
      | (refine WpItems.nil ⟨?_, ?_⟩; (· first | trivial | simp [pairsQ, pairsOk, apart, ent0]))
      | (apply Wp.cond_lit; (· simp only [go_sem, reduceIte, Nat.reduceEqDiff, Nat.reduceAdd, bx, ax, if_true, if_false, Nat.reduceMul, Nat.reduceLeDiff, encR]; exact rfl); (· rfl))
      | refine Wp.skip ?_
      | refine Wp.label ?_
      | refine Wp.block ?_
      | refine Wp.exit ?_
      | refine Wp.seq ?_)
    refine Wp.loopK [1, 2] (by simp only [go_sem, reduceIte, Nat.reduceEqDiff, Nat.reduceAdd, bx, List.map]; exact rfl) (fun j : Nat => [(5, .int .i64 (j : Nat))]) (fun j => j ≤ k.length ∧ ∀ i, i < j → k.getD i [] ≠ q) (fun j => k.length - j) 0 ⟨Nat.zero_le _, fun i h => absurd h (by omega)⟩ ?_ ?_
    · simp only [AllSub, go_sem, reduceIte, Nat.reduceEqDiff, Nat.reduceAdd, bx]; and_intros <;> first | exact trivial | exact VSub.refl _ | exact VSub.any _ | (refine VSub.int ?_; omega)
    rintro j ⟨hj, hno⟩
    by_cases hc : j < k.length
    · have g1 : decide (((j : Nat) : Int) < ((k.length : Nat) : Int)) = true := decide_eq_true (by omega)
      have h2 : (0 : Int) ≤ ((j : Nat) : Int) := by omega
      have h3 : ((j : Nat) : Int) < ((k.length : Nat) : Int) := by omega
      have e1 : IntKind.i64.wrap (((j : Nat) : Int) + 1) = ((j + 1 : Nat) : Int) := by rw [IntWalk.i64_in _ (by omega)]; omega
      by_cases he : k.getD j [] = q
      · have d1 := decide_eq_true he
        have hm : q ∈ k := by
          rw [getD_el hc] at he
          rw [← he]; exact List.getElem_mem hc
        repeat (first
          | ((first | apply Wp.seqItemsR | apply Wp.itemsR); (· simp only [go_sem, reduceIte, Nat.reduceEqDiff, Nat.reduceAdd, bx, ax, if_true, if_false, Nat.reduceMul, Nat.reduceLeDiff, g1, h2, h3, strs_length, strs_getD _ _ _ hc, d1]; exact rfl))
          | (refine WpItems.nil ⟨?_, ?_⟩; (· first | trivial | simp [pairsQ, pairsOk, apart, ent0]))
          | (apply Wp.cond_lit; (· simp only [go_sem, reduceIte, Nat.reduceEqDiff, Nat.reduceAdd, bx, ax, if_true, if_false, Nat.reduceMul, Nat.reduceLeDiff, g1, h2, h3, strs_length, strs_getD _ _ _ hc, d1]; exact rfl); (· rfl))
          | refine Wp.skip ?_
          | refine Wp.label ?_
          | refine Wp.block ?_
          | refine Wp.exit ?_
          | refine Wp.seq ?_)
        refine Wp.ret ⟨trivial, _, rfl, ?_⟩
        simp only [go_sem, reduceIte, Nat.reduceEqDiff, Nat.reduceAdd, bx]
        rw [covers_eq h, decide_eq_true hm]; exact VSub.refl _
      · have d1 := decide_eq_false he
        have hno2 : ∀ i, i < j + 1 → k.getD i [] ≠ q := fun i hi => by
          by_cases e : i = j
          · rw [e]; exact he
          · exact hno i (by omega)
        repeat (first
          | ((first | apply Wp.seqItemsR | apply Wp.itemsR); (· simp only [go_sem, reduceIte, Nat.reduceEqDiff, Nat.reduceAdd, bx, ax, if_true, if_false, Nat.reduceMul, Nat.reduceLeDiff, g1, h2, h3, e1, strs_length, strs_getD _ _ _ hc, d1]; exact rfl))
          | (refine WpItems.nil ⟨?_, ?_⟩; (· first | trivial | simp [pairsQ, pairsOk, apart, ent0]))
          | (apply Wp.cond_lit; (· simp only [go_sem, reduceIte, Nat.reduceEqDiff, Nat.reduceAdd, bx, ax, if_true, if_false, Nat.reduceMul, Nat.reduceLeDiff, g1, h2, h3, e1, strs_length, strs_getD _ _ _ hc, d1]; exact rfl); (· rfl))
          | refine Wp.skip ?_
          | refine Wp.label ?_
          | refine Wp.block ?_
          | refine Wp.exit ?_
          | refine Wp.seq ?_)
        refine ⟨j + 1, ⟨by omega, hno2⟩, by omega, ?_⟩
        refine StLe.tm (by simp only [AllSub, go_sem, reduceIte, Nat.reduceEqDiff, Nat.reduceAdd, bx]; and_intros <;> first | exact trivial | exact VSub.refl _ | exact VSub.any _ | (refine VSub.int ?_; omega))
    · have hje : j = k.length := by omega
      subst hje
      have g1 : decide (((k.length : Nat) : Int) < ((k.length : Nat) : Int)) = false := decide_eq_false (by omega)
      have hm : ¬ q ∈ k := fun hm => by
        obtain ⟨i, hi, e⟩ := List.mem_iff_getElem.1 hm
        exact hno i hi (by rw [getD_el hi]; exact e)
      repeat (first
        | ((first | apply Wp.seqItemsR | apply Wp.itemsR | ((first
            | (refine WpItems.pcall ?_ ?_ (hsp) ?_; (· simp only [go_sem, reduceIte, Nat.reduceEqDiff, Nat.reduceAdd, bx]); (· simp only [go_sem, reduceIte, Nat.reduceEqDiff, Nat.reduceAdd, bx, List.map]; first | exact VSubs.refl _ | (repeat (first | exact VSubs.nil | refine VSubs.cons (by first | exact VSub.refl _ | assumption | exact VSub.cap | exact VSub.any _) ?_))))); apply WpItems.evR)); (· simp only [go_sem, reduceIte, Nat.reduceEqDiff, Nat.reduceAdd, bx, ax, if_true, if_false, Nat.reduceMul, Nat.reduceLeDiff, g1, strs_length]; exact rfl))
        | (refine WpItems.nil ⟨?_, ?_⟩; (· first | trivial | simp [pairsQ, pairsOk, apart, ent0]))
        | (apply Wp.cond_lit; (· simp only [go_sem, reduceIte, Nat.reduceEqDiff, Nat.reduceAdd, bx, ax, if_true, if_false, Nat.reduceMul, Nat.reduceLeDiff, g1, strs_length]; exact rfl); (· rfl))
        | refine Wp.skip ?_
        | refine Wp.label ?_
        | refine Wp.block ?_
        | refine Wp.exit ?_
        | refine Wp.seq ?_)
      refine Wp.ret ⟨trivial, _, rfl, ?_⟩
      simp only [go_sem, reduceIte, Nat.reduceEqDiff, Nat.reduceAdd, bx]
      rw [covers_eq h, decide_eq_false hm]; exact VSub.refl _
theorem hitR_p (k : List Bs) (l : List Sp) (hk : LsK k) (hl : LsS l) (cs : List Ch) (hcl : cs.length ≤ 1000000) (hcs : ∀ c ∈ cs, Ls c.k) : PCalls Try.prog 49 [encR k l, .sl 3 (chs cs) .any] (.bool (hitB k l cs)) := by
  refine f49.pcalls0 (by simp) (by simp [allPure, isPure, capPure, encR_pure, chs_pure]) rfl ?_
  unfold c49
  have hres : hitB k l cs = cs.any fun c => coversB k l c.k := by
    unfold hitB coversB
    cases checkB k l <;> simp
  rw [hres]
  repeat (first
    | ((first | apply Wp.seqItemsR | apply Wp.itemsR); (· simp only [go_sem, reduceIte, Nat.reduceEqDiff, Nat.reduceAdd, bx, ax, if_true, if_false, Nat.reduceMul, Nat.reduceLeDiff, encR]; exact rfl))
    | (refine WpItems.nil ⟨?_, ?_⟩; (· first | trivial | simp [pairsQ, pairsOk, apart, ent0]))
    | (apply Wp.cond_lit; (· simp only [go_sem, reduceIte, Nat.reduceEqDiff, Nat.reduceAdd, bx, ax, if_true, if_false, Nat.reduceMul, Nat.reduceLeDiff, encR]; exact rfl); (· rfl))
    | refine Wp.skip ?_
    | refine Wp.label ?_
    | refine Wp.block ?_
    | refine Wp.exit ?_
    | refine Wp.seq ?_)
  refine Wp.loopK [1, 2] (by simp only [go_sem, reduceIte, Nat.reduceEqDiff, Nat.reduceAdd, bx, List.map]; exact rfl) (fun j : Nat => [(5, .int .i64 (j : Nat))]) (fun j => j ≤ cs.length ∧ ∀ i, i < j → coversB k l (cs.getD i default).k = false) (fun j => cs.length - j) 0 ⟨Nat.zero_le _, fun i h => absurd h (by omega)⟩ ?_ ?_
  · simp only [AllSub, go_sem, reduceIte, Nat.reduceEqDiff, Nat.reduceAdd, bx]; and_intros <;> first | exact trivial | exact VSub.refl _ | exact VSub.any _ | (refine VSub.int ?_; omega)
  rintro j ⟨hj, hno⟩
  by_cases hc : j < cs.length
  · have g1 : decide (((j : Nat) : Int) < ((cs.length : Nat) : Int)) = true := decide_eq_true (by omega)
    have h2 : (0 : Int) ≤ ((j : Nat) : Int) := by omega
    have h3 : ((j : Nat) : Int) < ((cs.length : Nat) : Int) := by omega
    have e1 : IntKind.i64.wrap (((j : Nat) : Int) + 1) = ((j + 1 : Nat) : Int) := by rw [IntWalk.i64_in _ (by omega)]; omega
    have hat := chs_getD cs j .any hc
    have hcov := coversR_p k l hk hl (cs.getD j default).k (hcs _ (by rw [getD_el hc]; exact List.getElem_mem hc))
    unfold encR at hcov
    cases hb : coversB k l (cs.getD j default).k with
    | true =>
      rw [hb] at hcov
      repeat (first
        | ((first | apply Wp.seqItemsR | apply Wp.itemsR | ((first
            | (refine WpItems.pcall ?_ ?_ (hcov) ?_; (· simp only [go_sem, reduceIte, Nat.reduceEqDiff, Nat.reduceAdd, bx]); (· simp only [go_sem, reduceIte, Nat.reduceEqDiff, Nat.reduceAdd, bx, List.map]; first | exact VSubs.refl _ | (repeat (first | exact VSubs.nil | refine VSubs.cons (by first | exact VSub.refl _ | assumption | exact VSub.cap | exact VSub.any _) ?_))))); apply WpItems.evR)); (· simp only [go_sem, reduceIte, Nat.reduceEqDiff, Nat.reduceAdd, bx, ax, if_true, if_false, Nat.reduceMul, Nat.reduceLeDiff, g1, h2, h3, chs_length, hat, encCh]; exact rfl))
        | (refine WpItems.nil ⟨?_, ?_⟩; (· first | trivial | simp [pairsQ, pairsOk, apart, ent0]))
        | (apply Wp.cond_lit; (· simp only [go_sem, reduceIte, Nat.reduceEqDiff, Nat.reduceAdd, bx, ax, if_true, if_false, Nat.reduceMul, Nat.reduceLeDiff, g1, h2, h3, chs_length, hat, encCh]; exact rfl); (· rfl))
        | refine Wp.skip ?_
        | refine Wp.label ?_
        | refine Wp.block ?_
        | refine Wp.exit ?_
        | refine Wp.seq ?_)
      refine Wp.ret ⟨trivial, _, rfl, ?_⟩
      simp only [go_sem, reduceIte, Nat.reduceEqDiff, Nat.reduceAdd, bx]
      rw [Space.any_yes (f := fun c : Ch => coversB k l c.k) hc hb]; exact VSub.refl _
    | false =>
      rw [hb] at hcov
      have hno2 : ∀ i, i < j + 1 → coversB k l (cs.getD i default).k = false := fun i hi => by
        by_cases e : i = j
        · rw [e]; exact hb
        · exact hno i (by omega)
      repeat (first
        | ((first | apply Wp.seqItemsR | apply Wp.itemsR | ((first
            | (refine WpItems.pcall ?_ ?_ (hcov) ?_; (· simp only [go_sem, reduceIte, Nat.reduceEqDiff, Nat.reduceAdd, bx]); (· simp only [go_sem, reduceIte, Nat.reduceEqDiff, Nat.reduceAdd, bx, List.map]; first | exact VSubs.refl _ | (repeat (first | exact VSubs.nil | refine VSubs.cons (by first | exact VSub.refl _ | assumption | exact VSub.cap | exact VSub.any _) ?_))))); apply WpItems.evR)); (· simp only [go_sem, reduceIte, Nat.reduceEqDiff, Nat.reduceAdd, bx, ax, if_true, if_false, Nat.reduceMul, Nat.reduceLeDiff, g1, h2, h3, e1, chs_length, hat, encCh]; exact rfl))
        | (refine WpItems.nil ⟨?_, ?_⟩; (· first | trivial | simp [pairsQ, pairsOk, apart, ent0]))
        | (apply Wp.cond_lit; (· simp only [go_sem, reduceIte, Nat.reduceEqDiff, Nat.reduceAdd, bx, ax, if_true, if_false, Nat.reduceMul, Nat.reduceLeDiff, g1, h2, h3, e1, chs_length, hat, encCh]; exact rfl); (· rfl))
        | refine Wp.skip ?_
        | refine Wp.label ?_
        | refine Wp.block ?_
        | refine Wp.exit ?_
        | refine Wp.seq ?_)
      refine ⟨j + 1, ⟨by omega, hno2⟩, by omega, ?_⟩
      refine StLe.tm (by simp only [AllSub, go_sem, reduceIte, Nat.reduceEqDiff, Nat.reduceAdd, bx]; and_intros <;> first | exact trivial | exact VSub.refl _ | exact VSub.any _ | (refine VSub.int ?_; omega))
  · have hje : j = cs.length := by omega
    subst hje
    have g1 : decide (((cs.length : Nat) : Int) < ((cs.length : Nat) : Int)) = false := decide_eq_false (by omega)
    repeat (first
      | ((first | apply Wp.seqItemsR | apply Wp.itemsR); (· simp only [go_sem, reduceIte, Nat.reduceEqDiff, Nat.reduceAdd, bx, ax, if_true, if_false, Nat.reduceMul, Nat.reduceLeDiff, g1, chs_length]; exact rfl))
      | (refine WpItems.nil ⟨?_, ?_⟩; (· first | trivial | simp [pairsQ, pairsOk, apart, ent0]))
      | (apply Wp.cond_lit; (· simp only [go_sem, reduceIte, Nat.reduceEqDiff, Nat.reduceAdd, bx, ax, if_true, if_false, Nat.reduceMul, Nat.reduceLeDiff, g1, chs_length]; exact rfl); (· rfl))
      | refine Wp.skip ?_
      | refine Wp.label ?_
      | refine Wp.block ?_
      | refine Wp.exit ?_
      | refine Wp.seq ?_)
    refine Wp.ret ⟨trivial, _, rfl, ?_⟩
    simp only [go_sem, reduceIte, Nat.reduceEqDiff, Nat.reduceAdd, bx]
    rw [Space.any_no (f := fun c : Ch => coversB k l c.k) hno]; exact VSub.refl _
open Space (Spc encS It RiseL Wide sinceS) in
theorem staleR_p (k : List Bs) (l : List Sp) (hk : LsK k) (hl : LsS l) (S : Spc) (hr : RiseL S.L) (hS : Wide S) (lk : ∀ p ∈ S.L, p.1.length ≤ 128) (t : Int) : PCalls Try.prog 51 [encR k l, encS S, .int .i64 t] (.bool (S.L.any fun p => coversB k l p.1 && sinceS S p.1 (p.1 ++ [0]) t)) := by
  refine f51.pcalls0 (by simp) (by simp [allPure, isPure, encR_pure, Space.encS_pure]) rfl ?_
  unfold c51
  have hil : (S.L.map Space.encI).length = S.L.length := by simp
  have hS1 := hS.1
  have lk2 : ∀ p ∈ S.L, Ls p.1 := fun p hp => by have := lk p hp; unfold Ls; omega
  repeat (first
    | ((first | apply Wp.seqItemsR | apply Wp.itemsR); (· simp only [go_sem, reduceIte, Nat.reduceEqDiff, Nat.reduceAdd, bx, ax, if_true, if_false, Nat.reduceMul, Nat.reduceLeDiff, encR, encS]; exact rfl))
    | (refine WpItems.nil ⟨?_, ?_⟩; (· first | trivial | simp [pairsQ, pairsOk, apart, ent0]))
    | (apply Wp.cond_lit; (· simp only [go_sem, reduceIte, Nat.reduceEqDiff, Nat.reduceAdd, bx, ax, if_true, if_false, Nat.reduceMul, Nat.reduceLeDiff, encR, encS]; exact rfl); (· rfl))
    | refine Wp.skip ?_
    | refine Wp.label ?_
    | refine Wp.block ?_
    | refine Wp.exit ?_
    | refine Wp.seq ?_)
  refine Wp.loopK [2, 3, 4] (by simp only [go_sem, reduceIte, Nat.reduceEqDiff, Nat.reduceAdd, bx, List.map]; exact rfl) (fun j : Nat => [(7, .int .i64 (j : Nat))]) (fun j => j ≤ S.L.length ∧ ∀ i, i < j → (coversB k l (S.L.getD i default).1 && sinceS S (S.L.getD i default).1 ((S.L.getD i default).1 ++ [0]) t) = false) (fun j => S.L.length - j) 0 ⟨Nat.zero_le _, fun i h => absurd h (by omega)⟩ ?_ ?_
  · simp only [AllSub, go_sem, reduceIte, Nat.reduceEqDiff, Nat.reduceAdd, bx]; and_intros <;> first | exact trivial | exact VSub.refl _ | exact VSub.any _ | (refine VSub.int ?_; omega)
  rintro j ⟨hj, hno⟩
  by_cases hc : j < S.L.length
  · have g1 : decide (((j : Nat) : Int) < ((S.L.length : Nat) : Int)) = true := decide_eq_true (by omega)
    have h2 : (0 : Int) ≤ ((j : Nat) : Int) := by omega
    have h3 : ((j : Nat) : Int) < ((S.L.length : Nat) : Int) := by omega
    have e1 : IntKind.i64.wrap (((j : Nat) : Int) + 1) = ((j + 1 : Nat) : Int) := by rw [IntWalk.i64_in _ (by omega)]; omega
    have hat := enc_at Space.encI S.L j .any hc
    have hlen := lk (S.L.getD j default) (by rw [getD_el hc]; exact List.getElem_mem hc)
    have yes : (coversB k l (S.L.getD j default).1 && sinceS S (S.L.getD j default).1 ((S.L.getD j default).1 ++ [0]) t) = true → (S.L.any fun p => coversB k l p.1 && sinceS S p.1 (p.1 ++ [0]) t) = true := fun h => Space.any_yes (f := fun p : It => coversB k l p.1 && sinceS S p.1 (p.1 ++ [0]) t) hc h
    have stp : (coversB k l (S.L.getD j default).1 && sinceS S (S.L.getD j default).1 ((S.L.getD j default).1 ++ [0]) t) = false → ∀ i, i < j + 1 → (coversB k l (S.L.getD i default).1 && sinceS S (S.L.getD i default).1 ((S.L.getD i default).1 ++ [0]) t) = false := fun h i hi => by
      by_cases e : i = j
      · rw [e]; exact h
      · exact hno i (by omega)
    generalize S.L.getD j default = x at *
    have hcov := coversR_p k l hk hl x.1 (by unfold Ls; omega)
    have hsi := Space.sinceRR_p S hr hS lk2 x.1 (x.1 ++ [0]) (by unfold Ls; omega) (by unfold Ls; rw [List.length_append]; simp; omega) t
    unfold encR at hcov
    unfold encS at hsi
    have hadd : x.1.length + 1 < 9223372036854775808 := by omega
    cases hb : coversB k l x.1 with
    | false =>
      rw [hb] at hcov stp
      repeat (first
        | ((first | apply Wp.seqItemsR | apply Wp.itemsR | ((first
            | (refine WpItems.pcall ?_ ?_ (hcov) ?_; (· simp only [go_sem, reduceIte, Nat.reduceEqDiff, Nat.reduceAdd, bx]); (· simp only [go_sem, reduceIte, Nat.reduceEqDiff, Nat.reduceAdd, bx, List.map]; first | exact VSubs.refl _ | (repeat (first | exact VSubs.nil | refine VSubs.cons (by first | exact VSub.refl _ | assumption | exact VSub.cap | exact VSub.any _) ?_))))); apply WpItems.evR)); (· simp only [go_sem, reduceIte, Nat.reduceEqDiff, Nat.reduceAdd, bx, ax, if_true, if_false, Nat.reduceMul, Nat.reduceLeDiff, g1, h2, h3, e1, hil, hat, Space.encI, Space.vAV]; exact rfl))
        | (refine WpItems.nil ⟨?_, ?_⟩; (· first | trivial | simp [pairsQ, pairsOk, apart, ent0]))
        | (apply Wp.cond_lit; (· simp only [go_sem, reduceIte, Nat.reduceEqDiff, Nat.reduceAdd, bx, ax, if_true, if_false, Nat.reduceMul, Nat.reduceLeDiff, g1, h2, h3, e1, hil, hat, Space.encI, Space.vAV]; exact rfl); (· rfl))
        | refine Wp.skip ?_
        | refine Wp.label ?_
        | refine Wp.block ?_
        | refine Wp.exit ?_
        | refine Wp.seq ?_)
      refine ⟨j + 1, ⟨by omega, stp rfl⟩, by omega, ?_⟩
      refine StLe.tm (by simp only [AllSub, go_sem, reduceIte, Nat.reduceEqDiff, Nat.reduceAdd, bx]; and_intros <;> first | exact trivial | exact VSub.refl _ | exact VSub.any _ | (refine VSub.int ?_; omega))
    | true =>
      rw [hb] at hcov stp yes
      cases hb2 : sinceS S x.1 (x.1 ++ [0]) t with
      | false =>
        rw [hb2] at hsi stp
        repeat (first
          | ((first | apply Wp.seqItemsR | apply Wp.itemsR | ((first
              | (refine WpItems.pcall ?_ ?_ (hcov) ?_; (· simp only [go_sem, reduceIte, Nat.reduceEqDiff, Nat.reduceAdd, bx]); (· simp only [go_sem, reduceIte, Nat.reduceEqDiff, Nat.reduceAdd, bx, List.map]; first | exact VSubs.refl _ | (repeat (first | exact VSubs.nil | refine VSubs.cons (by first | exact VSub.refl _ | assumption | exact VSub.cap | exact VSub.any _) ?_))))
              | (refine WpItems.pcall ?_ ?_ (hsi) ?_; (· simp only [go_sem, reduceIte, Nat.reduceEqDiff, Nat.reduceAdd, bx]); (· simp only [go_sem, reduceIte, Nat.reduceEqDiff, Nat.reduceAdd, bx, List.map]; first | exact VSubs.refl _ | (repeat (first | exact VSubs.nil | refine VSubs.cons (by first | exact VSub.refl _ | assumption | exact VSub.cap | exact VSub.any _) ?_))))); apply WpItems.evR)); (· simp only [go_sem, reduceIte, Nat.reduceEqDiff, Nat.reduceAdd, bx, ax, if_true, if_false, Nat.reduceMul, Nat.reduceLeDiff, g1, h2, h3, e1, hil, hat, Space.encI, Space.vAV, List.length_cons, List.length_nil, Nat.zero_add, hadd]; exact rfl))
          | (refine WpItems.nil ⟨?_, ?_⟩; (· first | trivial | simp [pairsQ, pairsOk, apart, ent0]))
          | (apply Wp.cond_lit; (· simp only [go_sem, reduceIte, Nat.reduceEqDiff, Nat.reduceAdd, bx, ax, if_true, if_false, Nat.reduceMul, Nat.reduceLeDiff, g1, h2, h3, e1, hil, hat, Space.encI, Space.vAV, List.length_cons, List.length_nil, Nat.zero_add, hadd]; exact rfl); (· rfl))
          | refine Wp.skip ?_
          | refine Wp.label ?_
          | refine Wp.block ?_
          | refine Wp.exit ?_
          | refine Wp.seq ?_)
        refine ⟨j + 1, ⟨by omega, stp rfl⟩, by omega, ?_⟩
        refine StLe.tm (by simp only [AllSub, go_sem, reduceIte, Nat.reduceEqDiff, Nat.reduceAdd, bx]; and_intros <;> first | exact trivial | exact VSub.refl _ | exact VSub.any _ | (refine VSub.int ?_; omega))
      | true =>
        rw [hb2] at hsi yes
        repeat (first
          | ((first | apply Wp.seqItemsR | apply Wp.itemsR | ((first
              | (refine WpItems.pcall ?_ ?_ (hcov) ?_; (· simp only [go_sem, reduceIte, Nat.reduceEqDiff, Nat.reduceAdd, bx]); (· simp only [go_sem, reduceIte, Nat.reduceEqDiff, Nat.reduceAdd, bx, List.map]; first | exact VSubs.refl _ | (repeat (first | exact VSubs.nil | refine VSubs.cons (by first | exact VSub.refl _ | assumption | exact VSub.cap | exact VSub.any _) ?_))))
              | (refine WpItems.pcall ?_ ?_ (hsi) ?_; (· simp only [go_sem, reduceIte, Nat.reduceEqDiff, Nat.reduceAdd, bx]); (· simp only [go_sem, reduceIte, Nat.reduceEqDiff, Nat.reduceAdd, bx, List.map]; first | exact VSubs.refl _ | (repeat (first | exact VSubs.nil | refine VSubs.cons (by first | exact VSub.refl _ | assumption | exact VSub.cap | exact VSub.any _) ?_))))); apply WpItems.evR)); (· simp only [go_sem, reduceIte, Nat.reduceEqDiff, Nat.reduceAdd, bx, ax, if_true, if_false, Nat.reduceMul, Nat.reduceLeDiff, g1, h2, h3, e1, hil, hat, Space.encI, Space.vAV, List.length_cons, List.length_nil, Nat.zero_add, hadd]; exact rfl))
          | (refine WpItems.nil ⟨?_, ?_⟩; (· first | trivial | simp [pairsQ, pairsOk, apart, ent0]))
          | (apply Wp.cond_lit; (· simp only [go_sem, reduceIte, Nat.reduceEqDiff, Nat.reduceAdd, bx, ax, if_true, if_false, Nat.reduceMul, Nat.reduceLeDiff, g1, h2, h3, e1, hil, hat, Space.encI, Space.vAV, List.length_cons, List.length_nil, Nat.zero_add, hadd]; exact rfl); (· rfl))
          | refine Wp.skip ?_
          | refine Wp.label ?_
          | refine Wp.block ?_
          | refine Wp.exit ?_
          | refine Wp.seq ?_)
        refine Wp.ret ⟨trivial, _, rfl, ?_⟩
        simp only [go_sem, reduceIte, Nat.reduceEqDiff, Nat.reduceAdd, bx]
        rw [yes rfl]; exact VSub.refl _
  · have hje : j = S.L.length := by omega
    subst hje
    have g1 : decide (((S.L.length : Nat) : Int) < ((S.L.length : Nat) : Int)) = false := decide_eq_false (by omega)
    repeat (first
      | ((first | apply Wp.seqItemsR | apply Wp.itemsR); (· simp only [go_sem, reduceIte, Nat.reduceEqDiff, Nat.reduceAdd, bx, ax, if_true, if_false, Nat.reduceMul, Nat.reduceLeDiff, g1, hil]; exact rfl))
      | (refine WpItems.nil ⟨?_, ?_⟩; (· first | trivial | simp [pairsQ, pairsOk, apart, ent0]))
      | (apply Wp.cond_lit; (· simp only [go_sem, reduceIte, Nat.reduceEqDiff, Nat.reduceAdd, bx, ax, if_true, if_false, Nat.reduceMul, Nat.reduceLeDiff, g1, hil]; exact rfl); (· rfl))
      | refine Wp.skip ?_
      | refine Wp.label ?_
      | refine Wp.block ?_
      | refine Wp.exit ?_
      | refine Wp.seq ?_)
    refine Wp.ret ⟨trivial, _, rfl, ?_⟩
    simp only [go_sem, reduceIte, Nat.reduceEqDiff, Nat.reduceAdd, bx]
    rw [Space.any_no (f := fun p : It => coversB k l p.1 && sinceS S p.1 (p.1 ++ [0]) t) hno]; exact VSub.refl _
end Go.Proofs.Ytpehfflehebmbaa.Reads
end
section
set_option linter.unusedSimpArgs false
set_option linter.unusedVariables false
set_option maxRecDepth 10000
namespace Go.Proofs.Ytpehfflehebmbaa.Space
open Go Go.Av Go.Proofs Go.Proofs.Ytpehfflehebmbaa.C Go.Proofs.Ytpehfflehebmbaa.Batch
theorem setL_mem {L : List It} {q : Bs} {v : List Ver} {x : It} (h : x ∈ setL L q v) : x = (q, v) ∨ x ∈ L := by
  unfold setL at h
  split at h <;> split at h
  · rcases List.mem_append.1 h with h | h
    · exact .inr (List.mem_of_mem_take h)
    · exact .inr (List.mem_of_mem_drop h)
  · exact .inr h
  · rcases List.mem_append.1 h with h | h
    · exact .inr (List.mem_of_mem_take h)
    · rcases List.mem_cons.1 h with h | h
      · exact .inl h
      · exact .inr (List.mem_of_mem_drop h)
  · rcases List.mem_append.1 h with h | h
    · exact .inr (List.mem_of_mem_take h)
    · rcases List.mem_cons.1 h with h | h
      · exact .inl h
      · exact .inr (List.mem_of_mem_drop h)
theorem setL_ls {L : List It} (lk : ∀ p ∈ L, Ls p.1) {q : Bs} (hq : Ls q) (v : List Ver) : ∀ p ∈ setL L q v, Ls p.1 := fun p hp => by
  rcases setL_mem hp with rfl | hp
  · exact hq
  · exact lk p hp
end Go.Proofs.Ytpehfflehebmbaa.Space
end
section
set_option linter.unusedSimpArgs false
set_option linter.unusedVariables false
set_option maxRecDepth 10000
namespace Go.Proofs.Ytpehfflehebmbaa.Space
open Go Go.Av Go.Proofs Go.Proofs.Ytpehfflehebmbaa.C Go.Proofs.Ytpehfflehebmbaa.Batch
theorem ld_key {l : List It} {last : Int} {j : Nat} (h : ldAt l last j = true) : (l.getD j default).1.length ≤ 128 := by
  simp only [ldAt, mayB, Bool.and_eq_true, decide_eq_true_eq] at h
  omega
theorem ld_next {l : List It} {last : Int} {j : Nat} (h : ldAt l last (j + 1) = true) : Op.bytesLess (l.getD j default).1 (l.getD (j + 1) default).1 = true := by
  simp only [ldAt, mayB, aheadAt, Bool.and_eq_true, Bool.or_eq_true, decide_eq_true_eq, Nat.add_one_ne_zero, false_or, if_false, Nat.add_sub_cancel] at h
  exact h.1.1.1.2
theorem ld_full {l : List It} {last : Int} {j : Nat} (h : ldAt l last j = true) : (l.getD j default).2 ≠ [] := by
  simp only [ldAt, mayB, Bool.and_eq_true, decide_eq_true_eq] at h
  exact List.length_pos_iff.1 h.1.1.2
theorem ld_all {l : List It} {last mark : Int} (h : ldB l last mark = true) {j : Nat} (hj : j < l.length) : ldAt l last j = true := by
  simp only [ldB, Bool.and_eq_true] at h
  exact List.all_eq_true.1 h.2 j (List.mem_range.2 hj)
theorem ld_rise {l : List It} {last mark : Int} (h : ldB l last mark = true) : RiseL l ∧ Full l := by
  have up : ∀ i j, i < j → j < l.length → Op.bytesLess (l.getD i default).1 (l.getD j default).1 = true := by
    intro i j hij
    induction j with
    | zero => omega
    | succ j ih =>
      intro hj
      have h1 := ld_next (ld_all h hj)
      by_cases e : i = j
      · rw [e]; exact h1
      · exact less_trans (ih (by omega) (by omega)) h1
  refine ⟨List.pairwise_iff_getElem.2 fun i j hi hj hij => ?_, fun p hp => ?_⟩
  · simp only [keysOf, List.length_map] at hi hj
    have := up i j hij hj
    rw [getD_el hi, getD_el hj] at this
    simpa [keysOf] using this
  · obtain ⟨i, hi, rfl⟩ := List.mem_iff_getElem.1 hp
    have := ld_full (ld_all h hi)
    rwa [getD_el hi] at this
set_option maxHeartbeats 4000000 in
theorem loadR_p (l : List It) (hl : l.length ≤ 500000) (hv : ∀ p ∈ l, p.2.length ≤ 4398046511104) (last mark : Int) : PCalls Try.prog 27 [.sl 2 (l.map encI) .any, .int .i64 last, .int .i64 mark] (if ldB l last mark = true then .tup [encS ⟨l, last, mark⟩, .int .i64 0] else .tup [encS ⟨[], 0, 0⟩, .int .i64 4]) := by
  refine f27.pcalls0 (by simp) (by simp [allPure, isPure, capPure, its_pure]) (by split <;> simp [isPure, allPure, encS_pure]) ?_
  unfold c27
  have hil : (l.map encI).length = l.length := by simp
  by_cases p1 : last < 0
  · have d1 := decide_eq_true p1
    repeat (first
      | ((first | apply Wp.seqItemsR | apply Wp.itemsR); (· simp only [go_sem, reduceIte, Nat.reduceEqDiff, Nat.reduceAdd, bx, ax, if_true, if_false, Nat.reduceMul, Nat.reduceLeDiff, d1]; exact rfl))
      | (refine WpItems.nil ⟨?_, ?_⟩; (· first | trivial | simp [pairsQ, pairsOk, apart, ent0]))
      | (apply Wp.cond_lit; (· simp only [go_sem, reduceIte, Nat.reduceEqDiff, Nat.reduceAdd, bx, ax, if_true, if_false, Nat.reduceMul, Nat.reduceLeDiff, d1]; exact rfl); (· rfl))
      | refine Wp.skip ?_
      | refine Wp.label ?_
      | refine Wp.block ?_
      | refine Wp.exit ?_
      | refine Wp.seq ?_)
    refine Wp.ret ⟨trivial, _, rfl, ?_⟩
    simp only [go_sem, reduceIte, Nat.reduceEqDiff, Nat.reduceAdd, bx]
    rw [if_neg (by simp [ldB, p1])]; exact VSub.tup (VSubs.cons (VSub.agg (VSubs.cons VSub.cap (VSubs.refl _))) (VSubs.refl _))
  have d1 := decide_eq_false p1
  by_cases p2 : 1152921504606846976 < last
  · have d2 := decide_eq_true p2
    repeat (first
      | ((first | apply Wp.seqItemsR | apply Wp.itemsR); (· simp only [go_sem, reduceIte, Nat.reduceEqDiff, Nat.reduceAdd, bx, ax, if_true, if_false, Nat.reduceMul, Nat.reduceLeDiff, d1, d2]; exact rfl))
      | (refine WpItems.nil ⟨?_, ?_⟩; (· first | trivial | simp [pairsQ, pairsOk, apart, ent0]))
      | (apply Wp.cond_lit; (· simp only [go_sem, reduceIte, Nat.reduceEqDiff, Nat.reduceAdd, bx, ax, if_true, if_false, Nat.reduceMul, Nat.reduceLeDiff, d1, d2]; exact rfl); (· rfl))
      | refine Wp.skip ?_
      | refine Wp.label ?_
      | refine Wp.block ?_
      | refine Wp.exit ?_
      | refine Wp.seq ?_)
    refine Wp.ret ⟨trivial, _, rfl, ?_⟩
    simp only [go_sem, reduceIte, Nat.reduceEqDiff, Nat.reduceAdd, bx]
    rw [if_neg (by simp [ldB, p2])]; exact VSub.tup (VSubs.cons (VSub.agg (VSubs.cons VSub.cap (VSubs.refl _))) (VSubs.refl _))
  have d2 := decide_eq_false p2
  by_cases p3 : mark < 0
  · have d3 := decide_eq_true p3
    repeat (first
      | ((first | apply Wp.seqItemsR | apply Wp.itemsR); (· simp only [go_sem, reduceIte, Nat.reduceEqDiff, Nat.reduceAdd, bx, ax, if_true, if_false, Nat.reduceMul, Nat.reduceLeDiff, d1, d2, d3]; exact rfl))
      | (refine WpItems.nil ⟨?_, ?_⟩; (· first | trivial | simp [pairsQ, pairsOk, apart, ent0]))
      | (apply Wp.cond_lit; (· simp only [go_sem, reduceIte, Nat.reduceEqDiff, Nat.reduceAdd, bx, ax, if_true, if_false, Nat.reduceMul, Nat.reduceLeDiff, d1, d2, d3]; exact rfl); (· rfl))
      | refine Wp.skip ?_
      | refine Wp.label ?_
      | refine Wp.block ?_
      | refine Wp.exit ?_
      | refine Wp.seq ?_)
    refine Wp.ret ⟨trivial, _, rfl, ?_⟩
    simp only [go_sem, reduceIte, Nat.reduceEqDiff, Nat.reduceAdd, bx]
    rw [if_neg (by simp [ldB, p3])]; exact VSub.tup (VSubs.cons (VSub.agg (VSubs.cons VSub.cap (VSubs.refl _))) (VSubs.refl _))
  have d3 := decide_eq_false p3
  by_cases p4 : last < mark
  · have d4 := decide_eq_true p4
    repeat (first
      | ((first | apply Wp.seqItemsR | apply Wp.itemsR); (· simp only [go_sem, reduceIte, Nat.reduceEqDiff, Nat.reduceAdd, bx, ax, if_true, if_false, Nat.reduceMul, Nat.reduceLeDiff, d1, d2, d3, d4]; exact rfl))
      | (refine WpItems.nil ⟨?_, ?_⟩; (· first | trivial | simp [pairsQ, pairsOk, apart, ent0]))
      | (apply Wp.cond_lit; (· simp only [go_sem, reduceIte, Nat.reduceEqDiff, Nat.reduceAdd, bx, ax, if_true, if_false, Nat.reduceMul, Nat.reduceLeDiff, d1, d2, d3, d4]; exact rfl); (· rfl))
      | refine Wp.skip ?_
      | refine Wp.label ?_
      | refine Wp.block ?_
      | refine Wp.exit ?_
      | refine Wp.seq ?_)
    refine Wp.ret ⟨trivial, _, rfl, ?_⟩
    simp only [go_sem, reduceIte, Nat.reduceEqDiff, Nat.reduceAdd, bx]
    rw [if_neg (by simp [ldB, p4])]; exact VSub.tup (VSubs.cons (VSub.agg (VSubs.cons VSub.cap (VSubs.refl _))) (VSubs.refl _))
  have d4 := decide_eq_false p4
  repeat (first
    | ((first | apply Wp.seqItemsR | apply Wp.itemsR); (· simp only [go_sem, reduceIte, Nat.reduceEqDiff, Nat.reduceAdd, bx, ax, if_true, if_false, Nat.reduceMul, Nat.reduceLeDiff, d1, d2, d3, d4]; exact rfl))
    | (refine WpItems.nil ⟨?_, ?_⟩; (· first | trivial | simp [pairsQ, pairsOk, apart, ent0]))
    | (apply Wp.cond_lit; (· simp only [go_sem, reduceIte, Nat.reduceEqDiff, Nat.reduceAdd, bx, ax, if_true, if_false, Nat.reduceMul, Nat.reduceLeDiff, d1, d2, d3, d4]; exact rfl); (· rfl))
    | refine Wp.skip ?_
    | refine Wp.label ?_
    | refine Wp.block ?_
    | refine Wp.exit ?_
    | refine Wp.seq ?_)
  refine Wp.loopK [0, 1, 2, 6, 7] (by simp only [go_sem, reduceIte, Nat.reduceEqDiff, Nat.reduceAdd, bx, List.map]; exact rfl) (fun j : Nat => [(8, .int .i64 (j : Nat))]) (fun j => j ≤ l.length ∧ ∀ i, i < j → ldAt l last i = true) (fun j => l.length - j) 0 ⟨Nat.zero_le _, fun i h => absurd h (by omega)⟩ ?_ ?_
  · simp only [AllSub, go_sem, reduceIte, Nat.reduceEqDiff, Nat.reduceAdd, bx]; and_intros <;> first | exact trivial | exact VSub.refl _ | exact VSub.any _ | (refine VSub.int ?_; omega)
  rintro j ⟨hj, hs⟩
  by_cases hj2 : j < l.length
  · have g1 : decide (((j : Nat) : Int) < ((l.length : Nat) : Int)) = true := decide_eq_true (by omega)
    have h2 : (0 : Int) ≤ ((j : Nat) : Int) := by omega
    have h3 : ((j : Nat) : Int) < ((l.length : Nat) : Int) := by omega
    have e1 : IntKind.i64.wrap (((j : Nat) : Int) + 1) = ((j + 1 : Nat) : Int) := by rw [IntWalk.i64_in _ (by omega)]; omega
    have hat := enc_at encI l j .any hj2
    have no : ldAt l last j = false → ldB l last mark = false := fun h => by
      have : (List.range l.length).all (ldAt l last) = false := all_no hj2 h
      rw [ldB, this, Bool.and_false]
    have bad : ldAt l last j = false → VSub (.tup [.agg [.sl 2 [] (.exact 0), .int .i64 0, .int .i64 0], .int .i64 4]) (if ldB l last mark = true then .tup [encS ⟨l, last, mark⟩, .int .i64 0] else .tup [encS ⟨[], 0, 0⟩, .int .i64 4]) := fun h => by
      rw [if_neg (by rw [no h]; exact Bool.false_ne_true)]; exact VSub.tup (VSubs.cons (VSub.agg (VSubs.cons VSub.cap (VSubs.refl _))) (VSubs.refl _))
    have hvx : (l.getD j default).2.length ≤ 4398046511104 := hv _ (by rw [getD_el hj2]; exact List.getElem_mem hj2)
    have hck := rightsR_p (l.getD j default).2 (by omega)
    have def0 : ldAt l last j = (decide (((l.getD j default).1.length : Int) ≤ 128) && (decide (j = 0) || Op.bytesLess (aheadAt l j) (l.getD j default).1) && decide (0 < (l.getD j default).2.length) && chB (l.getD j default).2 && decide (((l.getD j default).2.getD 0 default).t ≤ last)) := rfl
    have stp : ldAt l last j = true → ∀ i, i < j + 1 → ldAt l last i = true := fun h i hi => by
      by_cases e : i = j
      · rw [e]; exact h
      · exact hs i (by omega)
    have ahd : j ≠ 0 → ∃ p : It, p = l.getD (j - 1) default ∧ aheadAt l j = p.1 ∧ p.1.length ≤ 128 ∧ (l.map encI).getD (j - 1) .any = encI p := fun h => by
      refine ⟨_, rfl, by rw [aheadAt, if_neg h], ld_key (hs (j - 1) (by omega)), enc_at encI l (j - 1) .any (by omega)⟩
    generalize hx : l.getD j default = x at *
    obtain ⟨q, vs⟩ := x
    simp only at hvx hck def0
    by_cases q1 : 128 < (q.length : Int)
    · have c1 := decide_eq_true q1
      have hb := bad (by rw [def0, decide_eq_false (show ¬ (q.length : Int) ≤ 128 by omega)]; simp)
      repeat (first
        | ((first | apply Wp.seqItemsR | apply Wp.itemsR); (· simp only [go_sem, reduceIte, Nat.reduceEqDiff, Nat.reduceAdd, bx, ax, if_true, if_false, Nat.reduceMul, Nat.reduceLeDiff, g1, h2, h3, hat, hil, encI, vAV, c1]; exact rfl))
        | (refine WpItems.nil ⟨?_, ?_⟩; (· first | trivial | simp [pairsQ, pairsOk, apart, ent0]))
        | (apply Wp.cond_lit; (· simp only [go_sem, reduceIte, Nat.reduceEqDiff, Nat.reduceAdd, bx, ax, if_true, if_false, Nat.reduceMul, Nat.reduceLeDiff, g1, h2, h3, hat, hil, encI, vAV, c1]; exact rfl); (· rfl))
        | refine Wp.skip ?_
        | refine Wp.label ?_
        | refine Wp.block ?_
        | refine Wp.exit ?_
        | refine Wp.seq ?_)
      refine Wp.ret ⟨trivial, _, rfl, ?_⟩
      simp only [go_sem, reduceIte, Nat.reduceEqDiff, Nat.reduceAdd, bx]
      exact hb
    have c1 := decide_eq_false q1
    have c1' : decide ((q.length : Int) ≤ 128) = true := decide_eq_true (by omega)
    by_cases jz : j = 0
    · have k0 : decide ((0 : Int) < (j : Int)) = false := decide_eq_false (by omega)
      cases vs with
      | nil =>
        have hb := bad (by rw [def0]; simp)
        have n0 : decide (((0 : Nat) : Int) = 0) = true := rfl
        repeat' (first
          | (refine WpItems.nil ⟨?_, ?_⟩; (· first | trivial | simp [pairsQ, pairsOk, apart, ent0]))
          | (apply WpItems.evU; (· simp only [go_sem, reduceIte, Nat.reduceEqDiff, Nat.reduceAdd, bx, ax, if_true, if_false, Nat.reduceMul, Nat.reduceLeDiff, g1, h2, h3, hat, hil, encI, vAV, c1, k0, List.map_nil, List.length_nil, n0, List.length_map]; exact rfl); (· simp only [go_sem, reduceIte, Nat.reduceEqDiff, Nat.reduceAdd, bx, ax, if_true, if_false, Nat.reduceMul, Nat.reduceLeDiff, g1, h2, h3, hat, hil, encI, vAV, c1, k0, List.map_nil, List.length_nil, n0, List.length_map]; exact rfl))
          | (apply WpItems.part 1; (· simp only [go_sem, reduceIte, Nat.reduceEqDiff, Nat.reduceAdd, bx, ax, if_true, if_false, Nat.reduceMul, Nat.reduceLeDiff, g1, h2, h3, hat, hil, encI, vAV, c1, k0, List.map_nil, List.length_nil, n0, List.length_map]; exact rfl); (try simp only [List.drop_succ_cons, List.drop_zero, List.drop_nil]))
          | (refine WpItems.gsplit_dec (p := ?_) ?_ (fun hc => ?_) (fun hc => ?_); rotate_left; (· simp only [go_sem, reduceIte, Nat.reduceEqDiff, Nat.reduceAdd, bx, ax, if_true, if_false, Nat.reduceMul, Nat.reduceLeDiff, g1, h2, h3, hat, hil, encI, vAV, c1, k0, List.map_nil, List.length_nil, n0, List.length_map]; exact rfl))
          | (refine WpItems.gsplit_ndec (p := ?_) ?_ (fun hc => ?_) (fun hc => ?_); rotate_left; (· simp only [go_sem, reduceIte, Nat.reduceEqDiff, Nat.reduceAdd, bx, ax, if_true, if_false, Nat.reduceMul, Nat.reduceLeDiff, g1, h2, h3, hat, hil, encI, vAV, c1, k0, List.map_nil, List.length_nil, n0, List.length_map]; exact rfl))
          | (refine WpItems.gsplit (b := ?_) ?_ (fun hc => ?_) (fun hc => ?_); rotate_left; (· simp only [go_sem, reduceIte, Nat.reduceEqDiff, Nat.reduceAdd, bx, ax, if_true, if_false, Nat.reduceMul, Nat.reduceLeDiff, g1, h2, h3, hat, hil, encI, vAV, c1, k0, List.map_nil, List.length_nil, n0, List.length_map]; exact rfl))
          | refine Wp.seqRegS ?_
          | refine Wp.regS ?_
          | (refine Wp.cond_true ?_ ?_; (· simp only [go_sem, reduceIte, Nat.reduceEqDiff, Nat.reduceAdd, bx, ax, if_true, if_false, Nat.reduceMul, Nat.reduceLeDiff, g1, h2, h3, hat, hil, encI, vAV, c1, k0, List.map_nil, List.length_nil, n0, List.length_map]))
          | (refine Wp.cond_false ?_ ?_; (· simp only [go_sem, reduceIte, Nat.reduceEqDiff, Nat.reduceAdd, bx, ax, if_true, if_false, Nat.reduceMul, Nat.reduceLeDiff, g1, h2, h3, hat, hil, encI, vAV, c1, k0, List.map_nil, List.length_nil, n0, List.length_map]))
          | (refine Wp.cond_dec (p := ?_) ?_ (fun hc => ?_) (fun hc => ?_); rotate_left; (· simp only [go_sem, reduceIte, Nat.reduceEqDiff, Nat.reduceAdd, bx, ax, if_true, if_false, Nat.reduceMul, Nat.reduceLeDiff, g1, h2, h3, hat, hil, encI, vAV, c1, k0, List.map_nil, List.length_nil, n0, List.length_map]; exact rfl))
          | (refine Wp.cond_ndec (p := ?_) ?_ (fun hc => ?_) (fun hc => ?_); rotate_left; (· simp only [go_sem, reduceIte, Nat.reduceEqDiff, Nat.reduceAdd, bx, ax, if_true, if_false, Nat.reduceMul, Nat.reduceLeDiff, g1, h2, h3, hat, hil, encI, vAV, c1, k0, List.map_nil, List.length_nil, n0, List.length_map]; exact rfl))
          | (refine Wp.cond_split (b := ?_) ?_ (fun hc => ?_) (fun hc => ?_); rotate_left; (· simp only [go_sem, reduceIte, Nat.reduceEqDiff, Nat.reduceAdd, bx, ax, if_true, if_false, Nat.reduceMul, Nat.reduceLeDiff, g1, h2, h3, hat, hil, encI, vAV, c1, k0, List.map_nil, List.length_nil, n0, List.length_map]; exact rfl))
          | refine Wp.skip ?_
          | refine Wp.label ?_
          | refine Wp.block ?_
          | refine Wp.exit ?_
          | refine Wp.seq ?_)
        refine Wp.ret ⟨trivial, _, rfl, ?_⟩
        simp only [go_sem, reduceIte, Nat.reduceEqDiff, Nat.reduceAdd, bx]
        exact hb
      | cons v vl =>
        have n0 : decide (((vl.length + 1 : Nat) : Int) = 0) = false := decide_eq_false (by omega)
        have n1 : (0 : Int) < ((vl.length + 1 : Nat) : Int) := by omega
        have i0 : (0 : Int) ≤ 0 := Int.le_refl _
        have t0 : Int.toNat 0 = 0 := rfl
        cases hc : chB (v :: vl) with
        | false =>
          rw [hc] at hck
          have hb := bad (by rw [def0, hc]; simp)
          repeat' (first
            | (refine WpItems.nil ⟨?_, ?_⟩; (· first | trivial | simp [pairsQ, pairsOk, apart, ent0]))
            | (apply WpItems.evU; (· simp only [go_sem, reduceIte, Nat.reduceEqDiff, Nat.reduceAdd, bx, ax, if_true, if_false, Nat.reduceMul, Nat.reduceLeDiff, g1, h2, h3, hat, hil, encI, vAV, c1, k0, List.length_map, List.length_cons, n0, List.length_map]; exact rfl); (· simp only [go_sem, reduceIte, Nat.reduceEqDiff, Nat.reduceAdd, bx, ax, if_true, if_false, Nat.reduceMul, Nat.reduceLeDiff, g1, h2, h3, hat, hil, encI, vAV, c1, k0, List.length_map, List.length_cons, n0, List.length_map]; exact rfl))
            | (apply WpItems.part 1; (· simp only [go_sem, reduceIte, Nat.reduceEqDiff, Nat.reduceAdd, bx, ax, if_true, if_false, Nat.reduceMul, Nat.reduceLeDiff, g1, h2, h3, hat, hil, encI, vAV, c1, k0, List.length_map, List.length_cons, n0, List.length_map]; exact rfl); (try simp only [List.drop_succ_cons, List.drop_zero, List.drop_nil]))
            | (refine WpItems.pcall ?_ ?_ (hck) ?_; (· simp only [go_sem, reduceIte, Nat.reduceEqDiff, Nat.reduceAdd, bx]); (· simp only [go_sem, reduceIte, Nat.reduceEqDiff, Nat.reduceAdd, bx, List.map, ax, if_true, if_false, Nat.reduceMul, Nat.reduceLeDiff, g1, h2, h3, hat, hil, encI, vAV, c1, k0, List.length_map, List.length_cons, n0, List.length_map]; first | exact VSubs.refl _ | (repeat (first | exact VSubs.nil | refine VSubs.cons (by first | exact VSub.refl _ | assumption | exact VSub.cap | exact VSub.any _) ?_))))
            | (refine WpItems.gsplit_dec (p := ?_) ?_ (fun hc => ?_) (fun hc => ?_); rotate_left; (· simp only [go_sem, reduceIte, Nat.reduceEqDiff, Nat.reduceAdd, bx, ax, if_true, if_false, Nat.reduceMul, Nat.reduceLeDiff, g1, h2, h3, hat, hil, encI, vAV, c1, k0, List.length_map, List.length_cons, n0, List.length_map]; exact rfl))
            | (refine WpItems.gsplit_ndec (p := ?_) ?_ (fun hc => ?_) (fun hc => ?_); rotate_left; (· simp only [go_sem, reduceIte, Nat.reduceEqDiff, Nat.reduceAdd, bx, ax, if_true, if_false, Nat.reduceMul, Nat.reduceLeDiff, g1, h2, h3, hat, hil, encI, vAV, c1, k0, List.length_map, List.length_cons, n0, List.length_map]; exact rfl))
            | (refine WpItems.gsplit (b := ?_) ?_ (fun hc => ?_) (fun hc => ?_); rotate_left; (· simp only [go_sem, reduceIte, Nat.reduceEqDiff, Nat.reduceAdd, bx, ax, if_true, if_false, Nat.reduceMul, Nat.reduceLeDiff, g1, h2, h3, hat, hil, encI, vAV, c1, k0, List.length_map, List.length_cons, n0, List.length_map]; exact rfl))
            | refine Wp.seqRegS ?_
            | refine Wp.regS ?_
            | (refine Wp.cond_true ?_ ?_; (· simp only [go_sem, reduceIte, Nat.reduceEqDiff, Nat.reduceAdd, bx, ax, if_true, if_false, Nat.reduceMul, Nat.reduceLeDiff, g1, h2, h3, hat, hil, encI, vAV, c1, k0, List.length_map, List.length_cons, n0, List.length_map]))
            | (refine Wp.cond_false ?_ ?_; (· simp only [go_sem, reduceIte, Nat.reduceEqDiff, Nat.reduceAdd, bx, ax, if_true, if_false, Nat.reduceMul, Nat.reduceLeDiff, g1, h2, h3, hat, hil, encI, vAV, c1, k0, List.length_map, List.length_cons, n0, List.length_map]))
            | (refine Wp.cond_dec (p := ?_) ?_ (fun hc => ?_) (fun hc => ?_); rotate_left; (· simp only [go_sem, reduceIte, Nat.reduceEqDiff, Nat.reduceAdd, bx, ax, if_true, if_false, Nat.reduceMul, Nat.reduceLeDiff, g1, h2, h3, hat, hil, encI, vAV, c1, k0, List.length_map, List.length_cons, n0, List.length_map]; exact rfl))
            | (refine Wp.cond_ndec (p := ?_) ?_ (fun hc => ?_) (fun hc => ?_); rotate_left; (· simp only [go_sem, reduceIte, Nat.reduceEqDiff, Nat.reduceAdd, bx, ax, if_true, if_false, Nat.reduceMul, Nat.reduceLeDiff, g1, h2, h3, hat, hil, encI, vAV, c1, k0, List.length_map, List.length_cons, n0, List.length_map]; exact rfl))
            | (refine Wp.cond_split (b := ?_) ?_ (fun hc => ?_) (fun hc => ?_); rotate_left; (· simp only [go_sem, reduceIte, Nat.reduceEqDiff, Nat.reduceAdd, bx, ax, if_true, if_false, Nat.reduceMul, Nat.reduceLeDiff, g1, h2, h3, hat, hil, encI, vAV, c1, k0, List.length_map, List.length_cons, n0, List.length_map]; exact rfl))
            | refine Wp.skip ?_
            | refine Wp.label ?_
            | refine Wp.block ?_
            | refine Wp.exit ?_
            | refine Wp.seq ?_)
          refine Wp.ret ⟨trivial, _, rfl, ?_⟩
          simp only [go_sem, reduceIte, Nat.reduceEqDiff, Nat.reduceAdd, bx]
          exact hb
        | true =>
          rw [hc] at hck
          by_cases q5 : last < v.t
          · have d5 := decide_eq_true q5
            have hb := bad (by rw [def0, List.getD_cons_zero, decide_eq_false (show ¬ v.t ≤ last by omega)]; simp)
            repeat' (first
              | (refine WpItems.nil ⟨?_, ?_⟩; (· first | trivial | simp [pairsQ, pairsOk, apart, ent0]))
              | (apply WpItems.evU; (· simp only [go_sem, reduceIte, Nat.reduceEqDiff, Nat.reduceAdd, bx, ax, if_true, if_false, Nat.reduceMul, Nat.reduceLeDiff, g1, h2, h3, hat, hil, encI, vAV, c1, k0, List.length_map, List.length_cons, n0, n1, i0, t0, List.map_cons, List.getD_cons_zero, encV, d5, List.length_map]; exact rfl); (· simp only [go_sem, reduceIte, Nat.reduceEqDiff, Nat.reduceAdd, bx, ax, if_true, if_false, Nat.reduceMul, Nat.reduceLeDiff, g1, h2, h3, hat, hil, encI, vAV, c1, k0, List.length_map, List.length_cons, n0, n1, i0, t0, List.map_cons, List.getD_cons_zero, encV, d5, List.length_map]; exact rfl))
              | (apply WpItems.part 1; (· simp only [go_sem, reduceIte, Nat.reduceEqDiff, Nat.reduceAdd, bx, ax, if_true, if_false, Nat.reduceMul, Nat.reduceLeDiff, g1, h2, h3, hat, hil, encI, vAV, c1, k0, List.length_map, List.length_cons, n0, n1, i0, t0, List.map_cons, List.getD_cons_zero, encV, d5, List.length_map]; exact rfl); (try simp only [List.drop_succ_cons, List.drop_zero, List.drop_nil]))
              | (refine WpItems.pcall ?_ ?_ (hck) ?_; (· simp only [go_sem, reduceIte, Nat.reduceEqDiff, Nat.reduceAdd, bx]); (· simp only [go_sem, reduceIte, Nat.reduceEqDiff, Nat.reduceAdd, bx, List.map, ax, if_true, if_false, Nat.reduceMul, Nat.reduceLeDiff, g1, h2, h3, hat, hil, encI, vAV, c1, k0, List.length_map, List.length_cons, n0, n1, i0, t0, List.map_cons, List.getD_cons_zero, encV, d5, List.length_map]; first | exact VSubs.refl _ | (repeat (first | exact VSubs.nil | refine VSubs.cons (by first | exact VSub.refl _ | assumption | exact VSub.cap | exact VSub.any _) ?_))))
              | (refine WpItems.gsplit_dec (p := ?_) ?_ (fun hc => ?_) (fun hc => ?_); rotate_left; (· simp only [go_sem, reduceIte, Nat.reduceEqDiff, Nat.reduceAdd, bx, ax, if_true, if_false, Nat.reduceMul, Nat.reduceLeDiff, g1, h2, h3, hat, hil, encI, vAV, c1, k0, List.length_map, List.length_cons, n0, n1, i0, t0, List.map_cons, List.getD_cons_zero, encV, d5, List.length_map]; exact rfl))
              | (refine WpItems.gsplit_ndec (p := ?_) ?_ (fun hc => ?_) (fun hc => ?_); rotate_left; (· simp only [go_sem, reduceIte, Nat.reduceEqDiff, Nat.reduceAdd, bx, ax, if_true, if_false, Nat.reduceMul, Nat.reduceLeDiff, g1, h2, h3, hat, hil, encI, vAV, c1, k0, List.length_map, List.length_cons, n0, n1, i0, t0, List.map_cons, List.getD_cons_zero, encV, d5, List.length_map]; exact rfl))
              | (refine WpItems.gsplit (b := ?_) ?_ (fun hc => ?_) (fun hc => ?_); rotate_left; (· simp only [go_sem, reduceIte, Nat.reduceEqDiff, Nat.reduceAdd, bx, ax, if_true, if_false, Nat.reduceMul, Nat.reduceLeDiff, g1, h2, h3, hat, hil, encI, vAV, c1, k0, List.length_map, List.length_cons, n0, n1, i0, t0, List.map_cons, List.getD_cons_zero, encV, d5, List.length_map]; exact rfl))
              | refine Wp.seqRegS ?_
              | refine Wp.regS ?_
              | (refine Wp.cond_true ?_ ?_; (· simp only [go_sem, reduceIte, Nat.reduceEqDiff, Nat.reduceAdd, bx, ax, if_true, if_false, Nat.reduceMul, Nat.reduceLeDiff, g1, h2, h3, hat, hil, encI, vAV, c1, k0, List.length_map, List.length_cons, n0, n1, i0, t0, List.map_cons, List.getD_cons_zero, encV, d5, List.length_map]))
              | (refine Wp.cond_false ?_ ?_; (· simp only [go_sem, reduceIte, Nat.reduceEqDiff, Nat.reduceAdd, bx, ax, if_true, if_false, Nat.reduceMul, Nat.reduceLeDiff, g1, h2, h3, hat, hil, encI, vAV, c1, k0, List.length_map, List.length_cons, n0, n1, i0, t0, List.map_cons, List.getD_cons_zero, encV, d5, List.length_map]))
              | (refine Wp.cond_dec (p := ?_) ?_ (fun hc => ?_) (fun hc => ?_); rotate_left; (· simp only [go_sem, reduceIte, Nat.reduceEqDiff, Nat.reduceAdd, bx, ax, if_true, if_false, Nat.reduceMul, Nat.reduceLeDiff, g1, h2, h3, hat, hil, encI, vAV, c1, k0, List.length_map, List.length_cons, n0, n1, i0, t0, List.map_cons, List.getD_cons_zero, encV, d5, List.length_map]; exact rfl))
              | (refine Wp.cond_ndec (p := ?_) ?_ (fun hc => ?_) (fun hc => ?_); rotate_left; (· simp only [go_sem, reduceIte, Nat.reduceEqDiff, Nat.reduceAdd, bx, ax, if_true, if_false, Nat.reduceMul, Nat.reduceLeDiff, g1, h2, h3, hat, hil, encI, vAV, c1, k0, List.length_map, List.length_cons, n0, n1, i0, t0, List.map_cons, List.getD_cons_zero, encV, d5, List.length_map]; exact rfl))
              | (refine Wp.cond_split (b := ?_) ?_ (fun hc => ?_) (fun hc => ?_); rotate_left; (· simp only [go_sem, reduceIte, Nat.reduceEqDiff, Nat.reduceAdd, bx, ax, if_true, if_false, Nat.reduceMul, Nat.reduceLeDiff, g1, h2, h3, hat, hil, encI, vAV, c1, k0, List.length_map, List.length_cons, n0, n1, i0, t0, List.map_cons, List.getD_cons_zero, encV, d5, List.length_map]; exact rfl))
              | refine Wp.skip ?_
              | refine Wp.label ?_
              | refine Wp.block ?_
              | refine Wp.exit ?_
              | refine Wp.seq ?_)
            refine Wp.ret ⟨trivial, _, rfl, ?_⟩
            simp only [go_sem, reduceIte, Nat.reduceEqDiff, Nat.reduceAdd, bx]
            exact hb
          · have d5 := decide_eq_false q5
            have hy := stp (by rw [def0, c1', hc, List.getD_cons_zero, decide_eq_true (show v.t ≤ last by omega)]; simp [jz])
            repeat' (first
              | (refine WpItems.nil ⟨?_, ?_⟩; (· first | trivial | simp [pairsQ, pairsOk, apart, ent0]))
              | (apply WpItems.evU; (· simp only [go_sem, reduceIte, Nat.reduceEqDiff, Nat.reduceAdd, bx, ax, if_true, if_false, Nat.reduceMul, Nat.reduceLeDiff, g1, h2, h3, hat, hil, encI, vAV, c1, k0, List.length_map, List.length_cons, n0, n1, i0, t0, List.map_cons, List.getD_cons_zero, encV, d5, e1, List.length_map]; exact rfl); (· simp only [go_sem, reduceIte, Nat.reduceEqDiff, Nat.reduceAdd, bx, ax, if_true, if_false, Nat.reduceMul, Nat.reduceLeDiff, g1, h2, h3, hat, hil, encI, vAV, c1, k0, List.length_map, List.length_cons, n0, n1, i0, t0, List.map_cons, List.getD_cons_zero, encV, d5, e1, List.length_map]; exact rfl))
              | (apply WpItems.part 1; (· simp only [go_sem, reduceIte, Nat.reduceEqDiff, Nat.reduceAdd, bx, ax, if_true, if_false, Nat.reduceMul, Nat.reduceLeDiff, g1, h2, h3, hat, hil, encI, vAV, c1, k0, List.length_map, List.length_cons, n0, n1, i0, t0, List.map_cons, List.getD_cons_zero, encV, d5, e1, List.length_map]; exact rfl); (try simp only [List.drop_succ_cons, List.drop_zero, List.drop_nil]))
              | (refine WpItems.pcall ?_ ?_ (hck) ?_; (· simp only [go_sem, reduceIte, Nat.reduceEqDiff, Nat.reduceAdd, bx]); (· simp only [go_sem, reduceIte, Nat.reduceEqDiff, Nat.reduceAdd, bx, List.map, ax, if_true, if_false, Nat.reduceMul, Nat.reduceLeDiff, g1, h2, h3, hat, hil, encI, vAV, c1, k0, List.length_map, List.length_cons, n0, n1, i0, t0, List.map_cons, List.getD_cons_zero, encV, d5, e1, List.length_map]; first | exact VSubs.refl _ | (repeat (first | exact VSubs.nil | refine VSubs.cons (by first | exact VSub.refl _ | assumption | exact VSub.cap | exact VSub.any _) ?_))))
              | (refine WpItems.gsplit_dec (p := ?_) ?_ (fun hc => ?_) (fun hc => ?_); rotate_left; (· simp only [go_sem, reduceIte, Nat.reduceEqDiff, Nat.reduceAdd, bx, ax, if_true, if_false, Nat.reduceMul, Nat.reduceLeDiff, g1, h2, h3, hat, hil, encI, vAV, c1, k0, List.length_map, List.length_cons, n0, n1, i0, t0, List.map_cons, List.getD_cons_zero, encV, d5, e1, List.length_map]; exact rfl))
              | (refine WpItems.gsplit_ndec (p := ?_) ?_ (fun hc => ?_) (fun hc => ?_); rotate_left; (· simp only [go_sem, reduceIte, Nat.reduceEqDiff, Nat.reduceAdd, bx, ax, if_true, if_false, Nat.reduceMul, Nat.reduceLeDiff, g1, h2, h3, hat, hil, encI, vAV, c1, k0, List.length_map, List.length_cons, n0, n1, i0, t0, List.map_cons, List.getD_cons_zero, encV, d5, e1, List.length_map]; exact rfl))
              | (refine WpItems.gsplit (b := ?_) ?_ (fun hc => ?_) (fun hc => ?_); rotate_left; (· simp only [go_sem, reduceIte, Nat.reduceEqDiff, Nat.reduceAdd, bx, ax, if_true, if_false, Nat.reduceMul, Nat.reduceLeDiff, g1, h2, h3, hat, hil, encI, vAV, c1, k0, List.length_map, List.length_cons, n0, n1, i0, t0, List.map_cons, List.getD_cons_zero, encV, d5, e1, List.length_map]; exact rfl))
              | refine Wp.seqRegS ?_
              | refine Wp.regS ?_
              | (refine Wp.cond_true ?_ ?_; (· simp only [go_sem, reduceIte, Nat.reduceEqDiff, Nat.reduceAdd, bx, ax, if_true, if_false, Nat.reduceMul, Nat.reduceLeDiff, g1, h2, h3, hat, hil, encI, vAV, c1, k0, List.length_map, List.length_cons, n0, n1, i0, t0, List.map_cons, List.getD_cons_zero, encV, d5, e1, List.length_map]))
              | (refine Wp.cond_false ?_ ?_; (· simp only [go_sem, reduceIte, Nat.reduceEqDiff, Nat.reduceAdd, bx, ax, if_true, if_false, Nat.reduceMul, Nat.reduceLeDiff, g1, h2, h3, hat, hil, encI, vAV, c1, k0, List.length_map, List.length_cons, n0, n1, i0, t0, List.map_cons, List.getD_cons_zero, encV, d5, e1, List.length_map]))
              | (refine Wp.cond_dec (p := ?_) ?_ (fun hc => ?_) (fun hc => ?_); rotate_left; (· simp only [go_sem, reduceIte, Nat.reduceEqDiff, Nat.reduceAdd, bx, ax, if_true, if_false, Nat.reduceMul, Nat.reduceLeDiff, g1, h2, h3, hat, hil, encI, vAV, c1, k0, List.length_map, List.length_cons, n0, n1, i0, t0, List.map_cons, List.getD_cons_zero, encV, d5, e1, List.length_map]; exact rfl))
              | (refine Wp.cond_ndec (p := ?_) ?_ (fun hc => ?_) (fun hc => ?_); rotate_left; (· simp only [go_sem, reduceIte, Nat.reduceEqDiff, Nat.reduceAdd, bx, ax, if_true, if_false, Nat.reduceMul, Nat.reduceLeDiff, g1, h2, h3, hat, hil, encI, vAV, c1, k0, List.length_map, List.length_cons, n0, n1, i0, t0, List.map_cons, List.getD_cons_zero, encV, d5, e1, List.length_map]; exact rfl))
              | (refine Wp.cond_split (b := ?_) ?_ (fun hc => ?_) (fun hc => ?_); rotate_left; (· simp only [go_sem, reduceIte, Nat.reduceEqDiff, Nat.reduceAdd, bx, ax, if_true, if_false, Nat.reduceMul, Nat.reduceLeDiff, g1, h2, h3, hat, hil, encI, vAV, c1, k0, List.length_map, List.length_cons, n0, n1, i0, t0, List.map_cons, List.getD_cons_zero, encV, d5, e1, List.length_map]; exact rfl))
              | refine Wp.skip ?_
              | refine Wp.label ?_
              | refine Wp.block ?_
              | refine Wp.exit ?_
              | refine Wp.seq ?_)
            refine ⟨j + 1, ⟨by omega, hy⟩, by omega, ?_⟩
            refine StLe.tm (by simp only [AllSub, go_sem, reduceIte, Nat.reduceEqDiff, Nat.reduceAdd, bx]; and_intros <;> first | exact trivial | exact VSub.refl _ | exact VSub.any _ | (refine VSub.int ?_; omega))
    · have k0 : decide ((0 : Int) < (j : Int)) = true := decide_eq_true (by omega)
      have k1 : IntKind.i64.wrap ((j : Int) - 1) = ((j - 1 : Nat) : Int) := by rw [IntWalk.i64_in _ (by omega)]; omega
      have k2 : (0 : Int) ≤ ((j - 1 : Nat) : Int) := by omega
      have k3 : ((j - 1 : Nat) : Int) < (l.length : Int) := by omega
      obtain ⟨p, hp, ha, hpl, hpa⟩ := ahd jz
      clear hp
      have hbel := below_p p.1 q (by unfold Ls; omega) (by unfold Ls; omega)
      cases q2 : Op.bytesLess p.1 q with
      | false =>
        rw [q2] at hbel
        have hb := bad (by rw [def0, ha, q2]; simp [jz])
        repeat' (first
          | (refine WpItems.nil ⟨?_, ?_⟩; (· first | trivial | simp [pairsQ, pairsOk, apart, ent0]))
          | (apply WpItems.evU; (· simp only [go_sem, reduceIte, Nat.reduceEqDiff, Nat.reduceAdd, bx, ax, if_true, if_false, Nat.reduceMul, Nat.reduceLeDiff, g1, h2, h3, hat, hil, encI, vAV, c1, k0, k1, k2, k3, hpa, List.length_map]; exact rfl); (· simp only [go_sem, reduceIte, Nat.reduceEqDiff, Nat.reduceAdd, bx, ax, if_true, if_false, Nat.reduceMul, Nat.reduceLeDiff, g1, h2, h3, hat, hil, encI, vAV, c1, k0, k1, k2, k3, hpa, List.length_map]; exact rfl))
          | (apply WpItems.part 1; (· simp only [go_sem, reduceIte, Nat.reduceEqDiff, Nat.reduceAdd, bx, ax, if_true, if_false, Nat.reduceMul, Nat.reduceLeDiff, g1, h2, h3, hat, hil, encI, vAV, c1, k0, k1, k2, k3, hpa, List.length_map]; exact rfl); (try simp only [List.drop_succ_cons, List.drop_zero, List.drop_nil]))
          | (refine WpItems.pcall ?_ ?_ (hbel) ?_; (· simp only [go_sem, reduceIte, Nat.reduceEqDiff, Nat.reduceAdd, bx]); (· simp only [go_sem, reduceIte, Nat.reduceEqDiff, Nat.reduceAdd, bx, List.map, ax, if_true, if_false, Nat.reduceMul, Nat.reduceLeDiff, g1, h2, h3, hat, hil, encI, vAV, c1, k0, k1, k2, k3, hpa, List.length_map]; first | exact VSubs.refl _ | (repeat (first | exact VSubs.nil | refine VSubs.cons (by first | exact VSub.refl _ | assumption | exact VSub.cap | exact VSub.any _) ?_))))
          | (refine WpItems.gsplit_dec (p := ?_) ?_ (fun hc => ?_) (fun hc => ?_); rotate_left; (· simp only [go_sem, reduceIte, Nat.reduceEqDiff, Nat.reduceAdd, bx, ax, if_true, if_false, Nat.reduceMul, Nat.reduceLeDiff, g1, h2, h3, hat, hil, encI, vAV, c1, k0, k1, k2, k3, hpa, List.length_map]; exact rfl))
          | (refine WpItems.gsplit_ndec (p := ?_) ?_ (fun hc => ?_) (fun hc => ?_); rotate_left; (· simp only [go_sem, reduceIte, Nat.reduceEqDiff, Nat.reduceAdd, bx, ax, if_true, if_false, Nat.reduceMul, Nat.reduceLeDiff, g1, h2, h3, hat, hil, encI, vAV, c1, k0, k1, k2, k3, hpa, List.length_map]; exact rfl))
          | (refine WpItems.gsplit (b := ?_) ?_ (fun hc => ?_) (fun hc => ?_); rotate_left; (· simp only [go_sem, reduceIte, Nat.reduceEqDiff, Nat.reduceAdd, bx, ax, if_true, if_false, Nat.reduceMul, Nat.reduceLeDiff, g1, h2, h3, hat, hil, encI, vAV, c1, k0, k1, k2, k3, hpa, List.length_map]; exact rfl))
          | refine Wp.seqRegS ?_
          | refine Wp.regS ?_
          | (refine Wp.cond_true ?_ ?_; (· simp only [go_sem, reduceIte, Nat.reduceEqDiff, Nat.reduceAdd, bx, ax, if_true, if_false, Nat.reduceMul, Nat.reduceLeDiff, g1, h2, h3, hat, hil, encI, vAV, c1, k0, k1, k2, k3, hpa, List.length_map]))
          | (refine Wp.cond_false ?_ ?_; (· simp only [go_sem, reduceIte, Nat.reduceEqDiff, Nat.reduceAdd, bx, ax, if_true, if_false, Nat.reduceMul, Nat.reduceLeDiff, g1, h2, h3, hat, hil, encI, vAV, c1, k0, k1, k2, k3, hpa, List.length_map]))
          | (refine Wp.cond_dec (p := ?_) ?_ (fun hc => ?_) (fun hc => ?_); rotate_left; (· simp only [go_sem, reduceIte, Nat.reduceEqDiff, Nat.reduceAdd, bx, ax, if_true, if_false, Nat.reduceMul, Nat.reduceLeDiff, g1, h2, h3, hat, hil, encI, vAV, c1, k0, k1, k2, k3, hpa, List.length_map]; exact rfl))
          | (refine Wp.cond_ndec (p := ?_) ?_ (fun hc => ?_) (fun hc => ?_); rotate_left; (· simp only [go_sem, reduceIte, Nat.reduceEqDiff, Nat.reduceAdd, bx, ax, if_true, if_false, Nat.reduceMul, Nat.reduceLeDiff, g1, h2, h3, hat, hil, encI, vAV, c1, k0, k1, k2, k3, hpa, List.length_map]; exact rfl))
          | (refine Wp.cond_split (b := ?_) ?_ (fun hc => ?_) (fun hc => ?_); rotate_left; (· simp only [go_sem, reduceIte, Nat.reduceEqDiff, Nat.reduceAdd, bx, ax, if_true, if_false, Nat.reduceMul, Nat.reduceLeDiff, g1, h2, h3, hat, hil, encI, vAV, c1, k0, k1, k2, k3, hpa, List.length_map]; exact rfl))
          | refine Wp.skip ?_
          | refine Wp.label ?_
          | refine Wp.block ?_
          | refine Wp.exit ?_
          | refine Wp.seq ?_)
        refine Wp.ret ⟨trivial, _, rfl, ?_⟩
        simp only [go_sem, reduceIte, Nat.reduceEqDiff, Nat.reduceAdd, bx]
        exact hb
      | true =>
        rw [q2] at hbel
        cases vs with
        | nil =>
          have hb := bad (by rw [def0]; simp)
          have n0 : decide (((0 : Nat) : Int) = 0) = true := rfl
          repeat' (first
            | (refine WpItems.nil ⟨?_, ?_⟩; (· first | trivial | simp [pairsQ, pairsOk, apart, ent0]))
            | (apply WpItems.evU; (· simp only [go_sem, reduceIte, Nat.reduceEqDiff, Nat.reduceAdd, bx, ax, if_true, if_false, Nat.reduceMul, Nat.reduceLeDiff, g1, h2, h3, hat, hil, encI, vAV, c1, k0, k1, k2, k3, hpa, List.map_nil, List.length_nil, n0, List.length_map]; exact rfl); (· simp only [go_sem, reduceIte, Nat.reduceEqDiff, Nat.reduceAdd, bx, ax, if_true, if_false, Nat.reduceMul, Nat.reduceLeDiff, g1, h2, h3, hat, hil, encI, vAV, c1, k0, k1, k2, k3, hpa, List.map_nil, List.length_nil, n0, List.length_map]; exact rfl))
            | (apply WpItems.part 1; (· simp only [go_sem, reduceIte, Nat.reduceEqDiff, Nat.reduceAdd, bx, ax, if_true, if_false, Nat.reduceMul, Nat.reduceLeDiff, g1, h2, h3, hat, hil, encI, vAV, c1, k0, k1, k2, k3, hpa, List.map_nil, List.length_nil, n0, List.length_map]; exact rfl); (try simp only [List.drop_succ_cons, List.drop_zero, List.drop_nil]))
            | (refine WpItems.pcall ?_ ?_ (hbel) ?_; (· simp only [go_sem, reduceIte, Nat.reduceEqDiff, Nat.reduceAdd, bx]); (· simp only [go_sem, reduceIte, Nat.reduceEqDiff, Nat.reduceAdd, bx, List.map, ax, if_true, if_false, Nat.reduceMul, Nat.reduceLeDiff, g1, h2, h3, hat, hil, encI, vAV, c1, k0, k1, k2, k3, hpa, List.map_nil, List.length_nil, n0, List.length_map]; first | exact VSubs.refl _ | (repeat (first | exact VSubs.nil | refine VSubs.cons (by first | exact VSub.refl _ | assumption | exact VSub.cap | exact VSub.any _) ?_))))
            | (refine WpItems.gsplit_dec (p := ?_) ?_ (fun hc => ?_) (fun hc => ?_); rotate_left; (· simp only [go_sem, reduceIte, Nat.reduceEqDiff, Nat.reduceAdd, bx, ax, if_true, if_false, Nat.reduceMul, Nat.reduceLeDiff, g1, h2, h3, hat, hil, encI, vAV, c1, k0, k1, k2, k3, hpa, List.map_nil, List.length_nil, n0, List.length_map]; exact rfl))
            | (refine WpItems.gsplit_ndec (p := ?_) ?_ (fun hc => ?_) (fun hc => ?_); rotate_left; (· simp only [go_sem, reduceIte, Nat.reduceEqDiff, Nat.reduceAdd, bx, ax, if_true, if_false, Nat.reduceMul, Nat.reduceLeDiff, g1, h2, h3, hat, hil, encI, vAV, c1, k0, k1, k2, k3, hpa, List.map_nil, List.length_nil, n0, List.length_map]; exact rfl))
            | (refine WpItems.gsplit (b := ?_) ?_ (fun hc => ?_) (fun hc => ?_); rotate_left; (· simp only [go_sem, reduceIte, Nat.reduceEqDiff, Nat.reduceAdd, bx, ax, if_true, if_false, Nat.reduceMul, Nat.reduceLeDiff, g1, h2, h3, hat, hil, encI, vAV, c1, k0, k1, k2, k3, hpa, List.map_nil, List.length_nil, n0, List.length_map]; exact rfl))
            | refine Wp.seqRegS ?_
            | refine Wp.regS ?_
            | (refine Wp.cond_true ?_ ?_; (· simp only [go_sem, reduceIte, Nat.reduceEqDiff, Nat.reduceAdd, bx, ax, if_true, if_false, Nat.reduceMul, Nat.reduceLeDiff, g1, h2, h3, hat, hil, encI, vAV, c1, k0, k1, k2, k3, hpa, List.map_nil, List.length_nil, n0, List.length_map]))
            | (refine Wp.cond_false ?_ ?_; (· simp only [go_sem, reduceIte, Nat.reduceEqDiff, Nat.reduceAdd, bx, ax, if_true, if_false, Nat.reduceMul, Nat.reduceLeDiff, g1, h2, h3, hat, hil, encI, vAV, c1, k0, k1, k2, k3, hpa, List.map_nil, List.length_nil, n0, List.length_map]))
            | (refine Wp.cond_dec (p := ?_) ?_ (fun hc => ?_) (fun hc => ?_); rotate_left; (· simp only [go_sem, reduceIte, Nat.reduceEqDiff, Nat.reduceAdd, bx, ax, if_true, if_false, Nat.reduceMul, Nat.reduceLeDiff, g1, h2, h3, hat, hil, encI, vAV, c1, k0, k1, k2, k3, hpa, List.map_nil, List.length_nil, n0, List.length_map]; exact rfl))
            | (refine Wp.cond_ndec (p := ?_) ?_ (fun hc => ?_) (fun hc => ?_); rotate_left; (· simp only [go_sem, reduceIte, Nat.reduceEqDiff, Nat.reduceAdd, bx, ax, if_true, if_false, Nat.reduceMul, Nat.reduceLeDiff, g1, h2, h3, hat, hil, encI, vAV, c1, k0, k1, k2, k3, hpa, List.map_nil, List.length_nil, n0, List.length_map]; exact rfl))
            | (refine Wp.cond_split (b := ?_) ?_ (fun hc => ?_) (fun hc => ?_); rotate_left; (· simp only [go_sem, reduceIte, Nat.reduceEqDiff, Nat.reduceAdd, bx, ax, if_true, if_false, Nat.reduceMul, Nat.reduceLeDiff, g1, h2, h3, hat, hil, encI, vAV, c1, k0, k1, k2, k3, hpa, List.map_nil, List.length_nil, n0, List.length_map]; exact rfl))
            | refine Wp.skip ?_
            | refine Wp.label ?_
            | refine Wp.block ?_
            | refine Wp.exit ?_
            | refine Wp.seq ?_)
          refine Wp.ret ⟨trivial, _, rfl, ?_⟩
          simp only [go_sem, reduceIte, Nat.reduceEqDiff, Nat.reduceAdd, bx]
          exact hb
        | cons v vl =>
          have n0 : decide (((vl.length + 1 : Nat) : Int) = 0) = false := decide_eq_false (by omega)
          have n1 : (0 : Int) < ((vl.length + 1 : Nat) : Int) := by omega
          have i0 : (0 : Int) ≤ 0 := Int.le_refl _
          have t0 : Int.toNat 0 = 0 := rfl
          cases hc : chB (v :: vl) with
          | false =>
            rw [hc] at hck
            have hb := bad (by rw [def0, hc]; simp)
            repeat' (first
              | (refine WpItems.nil ⟨?_, ?_⟩; (· first | trivial | simp [pairsQ, pairsOk, apart, ent0]))
              | (apply WpItems.evU; (· simp only [go_sem, reduceIte, Nat.reduceEqDiff, Nat.reduceAdd, bx, ax, if_true, if_false, Nat.reduceMul, Nat.reduceLeDiff, g1, h2, h3, hat, hil, encI, vAV, c1, k0, k1, k2, k3, hpa, List.length_map, List.length_cons, n0, List.length_map]; exact rfl); (· simp only [go_sem, reduceIte, Nat.reduceEqDiff, Nat.reduceAdd, bx, ax, if_true, if_false, Nat.reduceMul, Nat.reduceLeDiff, g1, h2, h3, hat, hil, encI, vAV, c1, k0, k1, k2, k3, hpa, List.length_map, List.length_cons, n0, List.length_map]; exact rfl))
              | (apply WpItems.part 1; (· simp only [go_sem, reduceIte, Nat.reduceEqDiff, Nat.reduceAdd, bx, ax, if_true, if_false, Nat.reduceMul, Nat.reduceLeDiff, g1, h2, h3, hat, hil, encI, vAV, c1, k0, k1, k2, k3, hpa, List.length_map, List.length_cons, n0, List.length_map]; exact rfl); (try simp only [List.drop_succ_cons, List.drop_zero, List.drop_nil]))
              | (refine WpItems.pcall ?_ ?_ (hbel) ?_; (· simp only [go_sem, reduceIte, Nat.reduceEqDiff, Nat.reduceAdd, bx]); (· simp only [go_sem, reduceIte, Nat.reduceEqDiff, Nat.reduceAdd, bx, List.map, ax, if_true, if_false, Nat.reduceMul, Nat.reduceLeDiff, g1, h2, h3, hat, hil, encI, vAV, c1, k0, k1, k2, k3, hpa, List.length_map, List.length_cons, n0, List.length_map]; first | exact VSubs.refl _ | (repeat (first | exact VSubs.nil | refine VSubs.cons (by first | exact VSub.refl _ | assumption | exact VSub.cap | exact VSub.any _) ?_))))
              | (refine WpItems.pcall ?_ ?_ (hck) ?_; (· simp only [go_sem, reduceIte, Nat.reduceEqDiff, Nat.reduceAdd, bx]); (· simp only [go_sem, reduceIte, Nat.reduceEqDiff, Nat.reduceAdd, bx, List.map, ax, if_true, if_false, Nat.reduceMul, Nat.reduceLeDiff, g1, h2, h3, hat, hil, encI, vAV, c1, k0, k1, k2, k3, hpa, List.length_map, List.length_cons, n0, List.length_map]; first | exact VSubs.refl _ | (repeat (first | exact VSubs.nil | refine VSubs.cons (by first | exact VSub.refl _ | assumption | exact VSub.cap | exact VSub.any _) ?_))))
              | (refine WpItems.gsplit_dec (p := ?_) ?_ (fun hc => ?_) (fun hc => ?_); rotate_left; (· simp only [go_sem, reduceIte, Nat.reduceEqDiff, Nat.reduceAdd, bx, ax, if_true, if_false, Nat.reduceMul, Nat.reduceLeDiff, g1, h2, h3, hat, hil, encI, vAV, c1, k0, k1, k2, k3, hpa, List.length_map, List.length_cons, n0, List.length_map]; exact rfl))
              | (refine WpItems.gsplit_ndec (p := ?_) ?_ (fun hc => ?_) (fun hc => ?_); rotate_left; (· simp only [go_sem, reduceIte, Nat.reduceEqDiff, Nat.reduceAdd, bx, ax, if_true, if_false, Nat.reduceMul, Nat.reduceLeDiff, g1, h2, h3, hat, hil, encI, vAV, c1, k0, k1, k2, k3, hpa, List.length_map, List.length_cons, n0, List.length_map]; exact rfl))
              | (refine WpItems.gsplit (b := ?_) ?_ (fun hc => ?_) (fun hc => ?_); rotate_left; (· simp only [go_sem, reduceIte, Nat.reduceEqDiff, Nat.reduceAdd, bx, ax, if_true, if_false, Nat.reduceMul, Nat.reduceLeDiff, g1, h2, h3, hat, hil, encI, vAV, c1, k0, k1, k2, k3, hpa, List.length_map, List.length_cons, n0, List.length_map]; exact rfl))
              | refine Wp.seqRegS ?_
              | refine Wp.regS ?_
              | (refine Wp.cond_true ?_ ?_; (· simp only [go_sem, reduceIte, Nat.reduceEqDiff, Nat.reduceAdd, bx, ax, if_true, if_false, Nat.reduceMul, Nat.reduceLeDiff, g1, h2, h3, hat, hil, encI, vAV, c1, k0, k1, k2, k3, hpa, List.length_map, List.length_cons, n0, List.length_map]))
              | (refine Wp.cond_false ?_ ?_; (· simp only [go_sem, reduceIte, Nat.reduceEqDiff, Nat.reduceAdd, bx, ax, if_true, if_false, Nat.reduceMul, Nat.reduceLeDiff, g1, h2, h3, hat, hil, encI, vAV, c1, k0, k1, k2, k3, hpa, List.length_map, List.length_cons, n0, List.length_map]))
              | (refine Wp.cond_dec (p := ?_) ?_ (fun hc => ?_) (fun hc => ?_); rotate_left; (· simp only [go_sem, reduceIte, Nat.reduceEqDiff, Nat.reduceAdd, bx, ax, if_true, if_false, Nat.reduceMul, Nat.reduceLeDiff, g1, h2, h3, hat, hil, encI, vAV, c1, k0, k1, k2, k3, hpa, List.length_map, List.length_cons, n0, List.length_map]; exact rfl))
              | (refine Wp.cond_ndec (p := ?_) ?_ (fun hc => ?_) (fun hc => ?_); rotate_left; (· simp only [go_sem, reduceIte, Nat.reduceEqDiff, Nat.reduceAdd, bx, ax, if_true, if_false, Nat.reduceMul, Nat.reduceLeDiff, g1, h2, h3, hat, hil, encI, vAV, c1, k0, k1, k2, k3, hpa, List.length_map, List.length_cons, n0, List.length_map]; exact rfl))
              | (refine Wp.cond_split (b := ?_) ?_ (fun hc => ?_) (fun hc => ?_); rotate_left; (· simp only [go_sem, reduceIte, Nat.reduceEqDiff, Nat.reduceAdd, bx, ax, if_true, if_false, Nat.reduceMul, Nat.reduceLeDiff, g1, h2, h3, hat, hil, encI, vAV, c1, k0, k1, k2, k3, hpa, List.length_map, List.length_cons, n0, List.length_map]; exact rfl))
              | refine Wp.skip ?_
              | refine Wp.label ?_
              | refine Wp.block ?_
              | refine Wp.exit ?_
              | refine Wp.seq ?_)
            refine Wp.ret ⟨trivial, _, rfl, ?_⟩
            simp only [go_sem, reduceIte, Nat.reduceEqDiff, Nat.reduceAdd, bx]
            exact hb
          | true =>
            rw [hc] at hck
            by_cases q5 : last < v.t
            · have d5 := decide_eq_true q5
              have hb := bad (by rw [def0, List.getD_cons_zero, decide_eq_false (show ¬ v.t ≤ last by omega)]; simp)
              repeat' (first
                | (refine WpItems.nil ⟨?_, ?_⟩; (· first | trivial | simp [pairsQ, pairsOk, apart, ent0]))
                | (apply WpItems.evU; (· simp only [go_sem, reduceIte, Nat.reduceEqDiff, Nat.reduceAdd, bx, ax, if_true, if_false, Nat.reduceMul, Nat.reduceLeDiff, g1, h2, h3, hat, hil, encI, vAV, c1, k0, k1, k2, k3, hpa, List.length_map, List.length_cons, n0, n1, i0, t0, List.map_cons, List.getD_cons_zero, encV, d5, List.length_map]; exact rfl); (· simp only [go_sem, reduceIte, Nat.reduceEqDiff, Nat.reduceAdd, bx, ax, if_true, if_false, Nat.reduceMul, Nat.reduceLeDiff, g1, h2, h3, hat, hil, encI, vAV, c1, k0, k1, k2, k3, hpa, List.length_map, List.length_cons, n0, n1, i0, t0, List.map_cons, List.getD_cons_zero, encV, d5, List.length_map]; exact rfl))
                | (apply WpItems.part 1; (· simp only [go_sem, reduceIte, Nat.reduceEqDiff, Nat.reduceAdd, bx, ax, if_true, if_false, Nat.reduceMul, Nat.reduceLeDiff, g1, h2, h3, hat, hil, encI, vAV, c1, k0, k1, k2, k3, hpa, List.length_map, List.length_cons, n0, n1, i0, t0, List.map_cons, List.getD_cons_zero, encV, d5, List.length_map]; exact rfl); (try simp only [List.drop_succ_cons, List.drop_zero, List.drop_nil]))
                | (refine WpItems.pcall ?_ ?_ (hbel) ?_; (· simp only [go_sem, reduceIte, Nat.reduceEqDiff, Nat.reduceAdd, bx]); (· simp only [go_sem, reduceIte, Nat.reduceEqDiff, Nat.reduceAdd, bx, List.map, ax, if_true, if_false, Nat.reduceMul, Nat.reduceLeDiff, g1, h2, h3, hat, hil, encI, vAV, c1, k0, k1, k2, k3, hpa, List.length_map, List.length_cons, n0, n1, i0, t0, List.map_cons, List.getD_cons_zero, encV, d5, List.length_map]; first | exact VSubs.refl _ | (repeat (first | exact VSubs.nil | refine VSubs.cons (by first | exact VSub.refl _ | assumption | exact VSub.cap | exact VSub.any _) ?_))))
                | (refine WpItems.pcall ?_ ?_ (hck) ?_; (· simp only [go_sem, reduceIte, Nat.reduceEqDiff, Nat.reduceAdd, bx]); (· simp only [go_sem, reduceIte, Nat.reduceEqDiff, Nat.reduceAdd, bx, List.map, ax, if_true, if_false, Nat.reduceMul, Nat.reduceLeDiff, g1, h2, h3, hat, hil, encI, vAV, c1, k0, k1, k2, k3, hpa, List.length_map, List.length_cons, n0, n1, i0, t0, List.map_cons, List.getD_cons_zero, encV, d5, List.length_map]; first | exact VSubs.refl _ | (repeat (first | exact VSubs.nil | refine VSubs.cons (by first | exact VSub.refl _ | assumption | exact VSub.cap | exact VSub.any _) ?_))))
                | (refine WpItems.gsplit_dec (p := ?_) ?_ (fun hc => ?_) (fun hc => ?_); rotate_left; (· simp only [go_sem, reduceIte, Nat.reduceEqDiff, Nat.reduceAdd, bx, ax, if_true, if_false, Nat.reduceMul, Nat.reduceLeDiff, g1, h2, h3, hat, hil, encI, vAV, c1, k0, k1, k2, k3, hpa, List.length_map, List.length_cons, n0, n1, i0, t0, List.map_cons, List.getD_cons_zero, encV, d5, List.length_map]; exact rfl))
                | (refine WpItems.gsplit_ndec (p := ?_) ?_ (fun hc => ?_) (fun hc => ?_); rotate_left; (· simp only [go_sem, reduceIte, Nat.reduceEqDiff, Nat.reduceAdd, bx, ax, if_true, if_false, Nat.reduceMul, Nat.reduceLeDiff, g1, h2, h3, hat, hil, encI, vAV, c1, k0, k1, k2, k3, hpa, List.length_map, List.length_cons, n0, n1, i0, t0, List.map_cons, List.getD_cons_zero, encV, d5, List.length_map]; exact rfl))
                | (refine WpItems.gsplit (b := ?_) ?_ (fun hc => ?_) (fun hc => ?_); rotate_left; (· simp only [go_sem, reduceIte, Nat.reduceEqDiff, Nat.reduceAdd, bx, ax, if_true, if_false, Nat.reduceMul, Nat.reduceLeDiff, g1, h2, h3, hat, hil, encI, vAV, c1, k0, k1, k2, k3, hpa, List.length_map, List.length_cons, n0, n1, i0, t0, List.map_cons, List.getD_cons_zero, encV, d5, List.length_map]; exact rfl))
                | refine Wp.seqRegS ?_
                | refine Wp.regS ?_
                | (refine Wp.cond_true ?_ ?_; (· simp only [go_sem, reduceIte, Nat.reduceEqDiff, Nat.reduceAdd, bx, ax, if_true, if_false, Nat.reduceMul, Nat.reduceLeDiff, g1, h2, h3, hat, hil, encI, vAV, c1, k0, k1, k2, k3, hpa, List.length_map, List.length_cons, n0, n1, i0, t0, List.map_cons, List.getD_cons_zero, encV, d5, List.length_map]))
                | (refine Wp.cond_false ?_ ?_; (· simp only [go_sem, reduceIte, Nat.reduceEqDiff, Nat.reduceAdd, bx, ax, if_true, if_false, Nat.reduceMul, Nat.reduceLeDiff, g1, h2, h3, hat, hil, encI, vAV, c1, k0, k1, k2, k3, hpa, List.length_map, List.length_cons, n0, n1, i0, t0, List.map_cons, List.getD_cons_zero, encV, d5, List.length_map]))
                | (refine Wp.cond_dec (p := ?_) ?_ (fun hc => ?_) (fun hc => ?_); rotate_left; (· simp only [go_sem, reduceIte, Nat.reduceEqDiff, Nat.reduceAdd, bx, ax, if_true, if_false, Nat.reduceMul, Nat.reduceLeDiff, g1, h2, h3, hat, hil, encI, vAV, c1, k0, k1, k2, k3, hpa, List.length_map, List.length_cons, n0, n1, i0, t0, List.map_cons, List.getD_cons_zero, encV, d5, List.length_map]; exact rfl))
                | (refine Wp.cond_ndec (p := ?_) ?_ (fun hc => ?_) (fun hc => ?_); rotate_left; (· simp only [go_sem, reduceIte, Nat.reduceEqDiff, Nat.reduceAdd, bx, ax, if_true, if_false, Nat.reduceMul, Nat.reduceLeDiff, g1, h2, h3, hat, hil, encI, vAV, c1, k0, k1, k2, k3, hpa, List.length_map, List.length_cons, n0, n1, i0, t0, List.map_cons, List.getD_cons_zero, encV, d5, List.length_map]; exact rfl))
                | (refine Wp.cond_split (b := ?_) ?_ (fun hc => ?_) (fun hc => ?_); rotate_left; (· simp only [go_sem, reduceIte, Nat.reduceEqDiff, Nat.reduceAdd, bx, ax, if_true, if_false, Nat.reduceMul, Nat.reduceLeDiff, g1, h2, h3, hat, hil, encI, vAV, c1, k0, k1, k2, k3, hpa, List.length_map, List.length_cons, n0, n1, i0, t0, List.map_cons, List.getD_cons_zero, encV, d5, List.length_map]; exact rfl))
                | refine Wp.skip ?_
                | refine Wp.label ?_
                | refine Wp.block ?_
                | refine Wp.exit ?_
                | refine Wp.seq ?_)
              refine Wp.ret ⟨trivial, _, rfl, ?_⟩
              simp only [go_sem, reduceIte, Nat.reduceEqDiff, Nat.reduceAdd, bx]
              exact hb
            · have d5 := decide_eq_false q5
              have hy := stp (by rw [def0, c1', hc, List.getD_cons_zero, decide_eq_true (show v.t ≤ last by omega)]; simp [ha, q2])
              repeat' (first
                | (refine WpItems.nil ⟨?_, ?_⟩; (· first | trivial | simp [pairsQ, pairsOk, apart, ent0]))
                | (apply WpItems.evU; (· simp only [go_sem, reduceIte, Nat.reduceEqDiff, Nat.reduceAdd, bx, ax, if_true, if_false, Nat.reduceMul, Nat.reduceLeDiff, g1, h2, h3, hat, hil, encI, vAV, c1, k0, k1, k2, k3, hpa, List.length_map, List.length_cons, n0, n1, i0, t0, List.map_cons, List.getD_cons_zero, encV, d5, e1, List.length_map]; exact rfl); (· simp only [go_sem, reduceIte, Nat.reduceEqDiff, Nat.reduceAdd, bx, ax, if_true, if_false, Nat.reduceMul, Nat.reduceLeDiff, g1, h2, h3, hat, hil, encI, vAV, c1, k0, k1, k2, k3, hpa, List.length_map, List.length_cons, n0, n1, i0, t0, List.map_cons, List.getD_cons_zero, encV, d5, e1, List.length_map]; exact rfl))
                | (apply WpItems.part 1; (· simp only [go_sem, reduceIte, Nat.reduceEqDiff, Nat.reduceAdd, bx, ax, if_true, if_false, Nat.reduceMul, Nat.reduceLeDiff, g1, h2, h3, hat, hil, encI, vAV, c1, k0, k1, k2, k3, hpa, List.length_map, List.length_cons, n0, n1, i0, t0, List.map_cons, List.getD_cons_zero, encV, d5, e1, List.length_map]; exact rfl); (try simp only [List.drop_succ_cons, List.drop_zero, List.drop_nil]))
                | (refine WpItems.pcall ?_ ?_ (hbel) ?_; (· simp only [go_sem, reduceIte, Nat.reduceEqDiff, Nat.reduceAdd, bx]); (· simp only [go_sem, reduceIte, Nat.reduceEqDiff, Nat.reduceAdd, bx, List.map, ax, if_true, if_false, Nat.reduceMul, Nat.reduceLeDiff, g1, h2, h3, hat, hil, encI, vAV, c1, k0, k1, k2, k3, hpa, List.length_map, List.length_cons, n0, n1, i0, t0, List.map_cons, List.getD_cons_zero, encV, d5, e1, List.length_map]; first | exact VSubs.refl _ | (repeat (first | exact VSubs.nil | refine VSubs.cons (by first | exact VSub.refl _ | assumption | exact VSub.cap | exact VSub.any _) ?_))))
                | (refine WpItems.pcall ?_ ?_ (hck) ?_; (· simp only [go_sem, reduceIte, Nat.reduceEqDiff, Nat.reduceAdd, bx]); (· simp only [go_sem, reduceIte, Nat.reduceEqDiff, Nat.reduceAdd, bx, List.map, ax, if_true, if_false, Nat.reduceMul, Nat.reduceLeDiff, g1, h2, h3, hat, hil, encI, vAV, c1, k0, k1, k2, k3, hpa, List.length_map, List.length_cons, n0, n1, i0, t0, List.map_cons, List.getD_cons_zero, encV, d5, e1, List.length_map]; first | exact VSubs.refl _ | (repeat (first | exact VSubs.nil | refine VSubs.cons (by first | exact VSub.refl _ | assumption | exact VSub.cap | exact VSub.any _) ?_))))
                | (refine WpItems.gsplit_dec (p := ?_) ?_ (fun hc => ?_) (fun hc => ?_); rotate_left; (· simp only [go_sem, reduceIte, Nat.reduceEqDiff, Nat.reduceAdd, bx, ax, if_true, if_false, Nat.reduceMul, Nat.reduceLeDiff, g1, h2, h3, hat, hil, encI, vAV, c1, k0, k1, k2, k3, hpa, List.length_map, List.length_cons, n0, n1, i0, t0, List.map_cons, List.getD_cons_zero, encV, d5, e1, List.length_map]; exact rfl))
                | (refine WpItems.gsplit_ndec (p := ?_) ?_ (fun hc => ?_) (fun hc => ?_); rotate_left; (· simp only [go_sem, reduceIte, Nat.reduceEqDiff, Nat.reduceAdd, bx, ax, if_true, if_false, Nat.reduceMul, Nat.reduceLeDiff, g1, h2, h3, hat, hil, encI, vAV, c1, k0, k1, k2, k3, hpa, List.length_map, List.length_cons, n0, n1, i0, t0, List.map_cons, List.getD_cons_zero, encV, d5, e1, List.length_map]; exact rfl))
                | (refine WpItems.gsplit (b := ?_) ?_ (fun hc => ?_) (fun hc => ?_); rotate_left; (· simp only [go_sem, reduceIte, Nat.reduceEqDiff, Nat.reduceAdd, bx, ax, if_true, if_false, Nat.reduceMul, Nat.reduceLeDiff, g1, h2, h3, hat, hil, encI, vAV, c1, k0, k1, k2, k3, hpa, List.length_map, List.length_cons, n0, n1, i0, t0, List.map_cons, List.getD_cons_zero, encV, d5, e1, List.length_map]; exact rfl))
                | refine Wp.seqRegS ?_
                | refine Wp.regS ?_
                | (refine Wp.cond_true ?_ ?_; (· simp only [go_sem, reduceIte, Nat.reduceEqDiff, Nat.reduceAdd, bx, ax, if_true, if_false, Nat.reduceMul, Nat.reduceLeDiff, g1, h2, h3, hat, hil, encI, vAV, c1, k0, k1, k2, k3, hpa, List.length_map, List.length_cons, n0, n1, i0, t0, List.map_cons, List.getD_cons_zero, encV, d5, e1, List.length_map]))
                | (refine Wp.cond_false ?_ ?_; (· simp only [go_sem, reduceIte, Nat.reduceEqDiff, Nat.reduceAdd, bx, ax, if_true, if_false, Nat.reduceMul, Nat.reduceLeDiff, g1, h2, h3, hat, hil, encI, vAV, c1, k0, k1, k2, k3, hpa, List.length_map, List.length_cons, n0, n1, i0, t0, List.map_cons, List.getD_cons_zero, encV, d5, e1, List.length_map]))
                | (refine Wp.cond_dec (p := ?_) ?_ (fun hc => ?_) (fun hc => ?_); rotate_left; (· simp only [go_sem, reduceIte, Nat.reduceEqDiff, Nat.reduceAdd, bx, ax, if_true, if_false, Nat.reduceMul, Nat.reduceLeDiff, g1, h2, h3, hat, hil, encI, vAV, c1, k0, k1, k2, k3, hpa, List.length_map, List.length_cons, n0, n1, i0, t0, List.map_cons, List.getD_cons_zero, encV, d5, e1, List.length_map]; exact rfl))
                | (refine Wp.cond_ndec (p := ?_) ?_ (fun hc => ?_) (fun hc => ?_); rotate_left; (· simp only [go_sem, reduceIte, Nat.reduceEqDiff, Nat.reduceAdd, bx, ax, if_true, if_false, Nat.reduceMul, Nat.reduceLeDiff, g1, h2, h3, hat, hil, encI, vAV, c1, k0, k1, k2, k3, hpa, List.length_map, List.length_cons, n0, n1, i0, t0, List.map_cons, List.getD_cons_zero, encV, d5, e1, List.length_map]; exact rfl))
                | (refine Wp.cond_split (b := ?_) ?_ (fun hc => ?_) (fun hc => ?_); rotate_left; (· simp only [go_sem, reduceIte, Nat.reduceEqDiff, Nat.reduceAdd, bx, ax, if_true, if_false, Nat.reduceMul, Nat.reduceLeDiff, g1, h2, h3, hat, hil, encI, vAV, c1, k0, k1, k2, k3, hpa, List.length_map, List.length_cons, n0, n1, i0, t0, List.map_cons, List.getD_cons_zero, encV, d5, e1, List.length_map]; exact rfl))
                | refine Wp.skip ?_
                | refine Wp.label ?_
                | refine Wp.block ?_
                | refine Wp.exit ?_
                | refine Wp.seq ?_)
              refine ⟨j + 1, ⟨by omega, hy⟩, by omega, ?_⟩
              refine StLe.tm (by simp only [AllSub, go_sem, reduceIte, Nat.reduceEqDiff, Nat.reduceAdd, bx]; and_intros <;> first | exact trivial | exact VSub.refl _ | exact VSub.any _ | (refine VSub.int ?_; omega))
  · have hje : j = l.length := by omega
    subst hje
    have g1 : decide (((l.length : Nat) : Int) < ((l.length : Nat) : Int)) = false := decide_eq_false (by omega)
    have hyes : ldB l last mark = true := by
      have : (List.range l.length).all (ldAt l last) = true := all_yes hs
      simp [ldB, this, p1, p2, p3, p4]
    repeat (first
      | ((first | apply Wp.seqItemsR | apply Wp.itemsR); (· simp only [go_sem, reduceIte, Nat.reduceEqDiff, Nat.reduceAdd, bx, ax, if_true, if_false, Nat.reduceMul, Nat.reduceLeDiff, g1, hil]; exact rfl))
      | (refine WpItems.nil ⟨?_, ?_⟩; (· first | trivial | simp [pairsQ, pairsOk, apart, ent0]))
      | (apply Wp.cond_lit; (· simp only [go_sem, reduceIte, Nat.reduceEqDiff, Nat.reduceAdd, bx, ax, if_true, if_false, Nat.reduceMul, Nat.reduceLeDiff, g1, hil]; exact rfl); (· rfl))
      | refine Wp.skip ?_
      | refine Wp.label ?_
      | refine Wp.block ?_
      | refine Wp.exit ?_
      | refine Wp.seq ?_)
    refine Wp.ret ⟨trivial, _, rfl, ?_⟩
    simp only [go_sem, reduceIte, Nat.reduceEqDiff, Nat.reduceAdd, bx]
    rw [if_pos hyes]; exact VSub.refl _
end Go.Proofs.Ytpehfflehebmbaa.Space
end
section
set_option linter.unusedVariables false
set_option linter.unusedSimpArgs false
namespace Go.Av
section
variable {P : Program} {N : Nat}
theorem touch_swapI {A G G' B : List Fr} {n n' m m' : Nat} {T : List Nat} (ok : Ok (A ++ G ++ B) n T m) (ok' : Ok G' n' (ks G') m') (hn : n ≤ n') (hm : m ≤ m') (hw : ∀ j, n ≤ j ∨ (lay G j).isSome = true ∨ lay G' j = none) :
    ∃ ids, Touch ⟨lay (A ++ G ++ B), n, T, m⟩ ⟨lay G, n, ks G, m⟩ ⟨lay G', n', ks G', m'⟩ ⟨lay (A ++ G' ++ B), n', ks G' ++ T.filter (fun t => !(ks G).contains t), m'⟩ ⟨[], ids, ks G ++ ks G'⟩ ∧ ∀ id ∈ ids, (lay G id).isSome = true ∨ (n ≤ id ∧ id < n') := by
  have bG : ∀ j, n ≤ j → lay G j = none := fun j hj => lay_none.2 fun F hF => ok.bd F (by simp [hF]) j hj
  obtain ⟨ids, hi⟩ := ids_of bG
  refine ⟨ids ++ (List.range (n' - n)).map (n + ·), ?_, ?_⟩
  · have d1 := List.pairwise_append.1 (List.pairwise_append.1 ok.dj).1
    have tc := touch_gen (h := ⟨lay (A ++ G ++ B), n, T, m⟩) (h1 := ⟨lay G, n, ks G, m⟩) (h1' := ⟨lay G', n', ks G', m'⟩) (ids := ids) ⟨fun j o hj => ?_, fun t ht => ok.tk t ?_⟩ rfl rfl (fun id h => (hi id).1 h) hn hm
    · have e : (⟨lay (A ++ G' ++ B), n', ks G' ++ T.filter (fun t => !(ks G).contains t), m'⟩ : H) = H.patch ⟨lay (A ++ G ++ B), n, T, m⟩ ⟨lay G, n, ks G, m⟩ ⟨lay G', n', ks G', m'⟩ :=
        H.ext (fun j => (lay_patch ok ok' hn hw j).symm) rfl rfl rfl
      rw [e]; exact tc
    · show lay (A ++ G ++ B) j = some o
      have hj' : lay G j = some o := hj
      rw [lay_append, lay_append]
      have : lay A j = none := by
        cases hA : lay A j with
        | none => rfl
        | some o' =>
          obtain ⟨F, a, b⟩ := lay_some hA
          obtain ⟨F', a', b'⟩ := lay_some hj'
          rcases d1.2.2 F a F' a' j with e | e
          · rw [e] at b; cases b
          · rw [e] at b'; cases b'
      rw [this, hj']; rfl
    · have ht' : t ∈ ks G := ht
      rw [ks_append, ks_append]; simp [ht']
  · intro id hid
    rcases List.mem_append.1 hid with h | h
    · exact .inl ((hi id).2 h)
    · obtain ⟨k, hk, rfl⟩ := List.mem_map.1 h
      have := List.mem_range.1 hk
      exact .inr (by omega)
theorem WpItems.gkeepI {dst : Option Nat} {g : Option (Nat × Bool)} {f : FuncId} {l : List Opd} {its : List AItem} {t : Tm} {log : List Ent} {K : Tm → H → List Ent → Prop} {vals : List AV} {r : AV} {F : Fr} (A B : List Fr) {n m : Nat} {T : List Nat}
    (hg : guardOf t g = some true) (hs : VSubs (l.map (ev t)) vals) (hc : GCalls P f vals [F] fun r' l' => r' = r ∧ l' = [F]) (hk : F.k = []) (ok : Ok (A ++ F :: B) n T m)
    (rest : ∀ n' m' ids, n ≤ n' → m ≤ m' → (∀ id ∈ ids, (F.o id).isSome = true ∨ (n ≤ id ∧ id < n')) → Ok (A ++ F :: B) n' T m' → WpItems P N its (putT t dst r) ⟨lay (A ++ F :: B), n', T, m'⟩ (⟨[], ids, []⟩ :: log) K) :
    WpItems P N (⟨dst, g, .call f l⟩ :: its) t ⟨lay (A ++ F :: B), n, T, m⟩ log K := by
  have e : A ++ F :: B = A ++ [F] ++ B := by simp
  rw [e] at ok ⊢
  have okG : Ok [F] n (ks [F]) m := by
    have d1 := List.pairwise_append.1 (List.pairwise_append.1 ok.dj).1
    have t1 := List.pairwise_append.1 (List.pairwise_append.1 ok.td).1
    exact ⟨fun F hF => ok.bd F (by simp [List.mem_singleton.1 hF]), d1.2.1, fun t ht => ht, t1.2.1, fun t ht => ok.tb t (ok.tk t (by rw [ks_append, ks_append]; simp [ht]))⟩
  obtain ⟨r', G', n', m', h1, h2, h3, h4, h5, h6, rfl, rfl⟩ := hc n m okG
  obtain ⟨ids, tc, hi⟩ := touch_swapI ok h4 h2 h3 h5
  have k0 : ks [F] = [] := by simp [ks, hk]
  have f0 : T.filter (fun _ : Nat => true) = T := by simp
  have ok2 := ok.swap h4 h2 h3 h5 h6
  simp only [k0, List.nil_append, List.contains_nil, Bool.not_false, f0] at ok2 tc h1 ⊢
  have hi' : ∀ id ∈ ids, (F.o id).isSome = true ∨ (n ≤ id ∧ id < n') := fun id h => by
    have := hi id h
    rwa [lay_cons, show lay ([] : List Fr) id = none from rfl, Option.or_none] at this
  refine WpItems.acall hg hs h1 tc ?_
  rw [← e] at ok2 ⊢
  exact rest n' m' ids h2 h3 hi' ok2
theorem WpItems.gcallI {dst : Option Nat} {g : Option (Nat × Bool)} {f : FuncId} {l : List Opd} {its : List AItem} {t : Tm} {log : List Ent} {K : Tm → H → List Ent → Prop} {vals : List AV} {Q : AV → List Fr → Prop} (A G B : List Fr) {n m : Nat} {T : List Nat}
    (hg : guardOf t g = some true) (hs : VSubs (l.map (ev t)) vals) (hc : GCalls P f vals G Q) (ok : Ok (A ++ G ++ B) n T m)
    (rest : ∀ r G' n' T' m' ids, Q r G' → On (A ++ G ++ B) n m (A ++ G' ++ B) n' T' m' → (∀ id ∈ ids, (lay G id).isSome = true ∨ (n ≤ id ∧ id < n')) → WpItems P N its (putT t dst r) ⟨lay (A ++ G' ++ B), n', T', m'⟩ (⟨[], ids, ks G ++ ks G'⟩ :: log) K) :
    WpItems P N (⟨dst, g, .call f l⟩ :: its) t ⟨lay (A ++ G ++ B), n, T, m⟩ log K := by
  have okG : Ok G n (ks G) m := by
    have d1 := List.pairwise_append.1 (List.pairwise_append.1 ok.dj).1
    have t1 := List.pairwise_append.1 (List.pairwise_append.1 ok.td).1
    exact ⟨fun F hF => ok.bd F (by simp [hF]), d1.2.1, fun t ht => ht, t1.2.1, fun t ht => ok.tb t (ok.tk t (by rw [ks_append, ks_append]; simp [ht]))⟩
  obtain ⟨r, G', n', m', h1, h2, h3, h4, h5, h6, h7⟩ := hc n m okG
  obtain ⟨ids, tc, hi⟩ := touch_swapI ok h4 h2 h3 h5
  exact WpItems.acall hg hs h1 tc (rest r G' n' _ m' ids h7 ⟨h2, h3, ok.swap h4 h2 h3 h5 h6, .mid h5, .mid h6⟩ hi)
theorem WpItems.gkeep0 {dst : Option Nat} {g : Option (Nat × Bool)} {f : FuncId} {l : List Opd} {its : List AItem} {t : Tm} {log : List Ent} {K : Tm → H → List Ent → Prop} {vals : List AV} {r : AV} {F : Fr} {n m : Nat} {T : List Nat}
    (hg : guardOf t g = some true) (hs : VSubs (l.map (ev t)) vals) (hc : GCalls P f vals [F] fun r' l' => r' = r ∧ l' = [F]) (hk : F.k = []) (ok : Ok [F] n T m)
    (rest : ∀ n' m' ids, On [F] n m [F] n' T m' → (∀ id ∈ ids, (F.o id).isSome = true ∨ (n ≤ id ∧ id < n')) → WpItems P N its (putT t dst r) ⟨lay [F], n', T, m'⟩ (⟨[], ids, []⟩ :: log) K) :
    WpItems P N (⟨dst, g, .call f l⟩ :: its) t ⟨lay [F], n, T, m⟩ log K :=
  WpItems.gkeepI [] [] hg hs hc hk ok fun n' m' ids a b c d => rest n' m' ids ⟨a, b, d, .refl, .refl⟩ c
end
end Go.Av
end
section
set_option linter.unusedSimpArgs false
set_option linter.unusedVariables false
set_option maxRecDepth 10000
namespace Go.Proofs.Ytpehfflehebmbaa.Space
open Go Go.Av Go.Proofs Go.Proofs.Ytpehfflehebmbaa.C Go.Proofs.Ytpehfflehebmbaa.Batch
structure Fit (S : Spc) (k : Nat) : Prop where
  ri : RiseL S.L
  fu : Full S.L
  ln : S.L.length ≤ k
  vs : ∀ p ∈ S.L, p.2.length ≤ k
  ls : ∀ p ∈ S.L, Ls p.1
theorem Fit.mono {S : Spc} {k j : Nat} (h : Fit S k) (hk : k ≤ j) : Fit S j := ⟨h.ri, h.fu, Nat.le_trans h.ln hk, fun p hp => Nat.le_trans (h.vs p hp) hk, h.ls⟩
theorem mget_len {L : List It} {k : Nat} (h : ∀ p ∈ L, p.2.length ≤ k) (q : Bs) : (mget L q).length ≤ k := by
  induction L with
  | nil => simp [mget]
  | cons p L ih =>
    rw [mget]
    split
    · exact h p (by simp)
    · exact ih (fun x hx => h x (by simp [hx]))
theorem Fit.room {S : Spc} {k j : Nat} (h : Fit S k) (hk : k + j ≤ 500000) : Room S j := ⟨by have := h.ln; omega, fun q => by have := mget_len h.vs q; omega⟩
theorem Fit.zero : Fit ⟨[], 0, 0⟩ 0 := ⟨by simp [RiseL, Rise, keysOf], fun p hp => by simp at hp, Nat.le_refl _, fun p hp => by simp at hp, fun p hp => by simp at hp⟩
theorem Fit.lay {S : Spc} {k : Nat} (h : Fit S k) : layL [] S.L = S.L := layL_self h.ri h.fu
theorem Fit.times {S : Spc} {k : Nat} (h : Fit S k) (a b : Int) : Fit { S with last := a, mark := b } k := ⟨h.ri, h.fu, h.ln, h.vs, h.ls⟩
theorem Fit.step {S : Spc} {k : Nat} (h : Fit S k) (t : Int) (c : Ch) (hc : Ls c.k) : Fit (stepS t S c) (k + 1) := by
  refine ⟨setL_rise h.ri _ _, setL_full h.fu _ _, ?_, fun p hp => ?_, setL_ls h.ls hc _⟩
  · have := setL_len S.L c.k (addB (mget S.L c.k) ⟨t, c.v, c.d⟩).1
    have := h.ln
    simp only [stepS, setS]; omega
  · simp only [stepS, setS] at hp
    rcases setL_mem hp with rfl | hp
    · have h1 := add_len (mget S.L c.k) ⟨t, c.v, c.d⟩
      have h2 := mget_len h.vs c.k
      simp only; omega
    · have := h.vs p hp; omega
theorem Fit.dos : ∀ (l : List Ch) {S : Spc} {k : Nat} (h : Fit S k) (t : Int) (hc : ∀ c ∈ l, Ls c.k), Fit (doS t S l) (k + l.length)
  | [], S, k, h, t, hc => h
  | c :: l, S, k, h, t, hc => by
    have := Fit.dos l (h.step t c (hc c (by simp))) t (fun x hx => hc x (by simp [hx]))
    exact this.mono (by simp only [List.length_cons]; omega)
theorem Fit.apply {S : Spc} {k : Nat} (h : Fit S k) (t : Int) (l : List Ch) (hc : ∀ c ∈ l, Ls c.k) : Fit (applyB S t l).1 (k + l.length) := by
  unfold applyB
  split
  · exact h.mono (by omega)
  · split
    · exact h.mono (by omega)
    · have := Fit.dos l h t hc
      exact ⟨this.ri, this.fu, this.ln, this.vs, this.ls⟩
theorem ld_ls {l : List It} {last mark : Int} (h : ldB l last mark = true) : ∀ p ∈ l, Ls p.1 := fun p hp => by
  obtain ⟨i, hi, rfl⟩ := List.mem_iff_getElem.1 hp
  have := ld_key (ld_all h hi)
  rw [getD_el hi] at this
  unfold Ls; omega
theorem Fit.load {l : List It} {last mark : Int} {k : Nat} (h : ldB l last mark = true) (hl : l.length ≤ k) (hv : ∀ p ∈ l, p.2.length ≤ k) : Fit ⟨l, last, mark⟩ k := ⟨(ld_rise h).1, (ld_rise h).2, hl, hv, ld_ls h⟩
end Go.Proofs.Ytpehfflehebmbaa.Space
end
section
set_option linter.unusedSimpArgs false
set_option linter.unusedVariables false
set_option maxRecDepth 10000
namespace Go.Proofs.Ytpehfflehebmbaa.Space
open Go Go.Av Go.Proofs Go.Proofs.Ytpehfflehebmbaa.C Go.Proofs.Ytpehfflehebmbaa.Batch
end Go.Proofs.Ytpehfflehebmbaa.Space
end
section
set_option linter.unusedSimpArgs false
set_option linter.unusedVariables false
set_option maxRecDepth 100000
namespace Go.Proofs.Ytpehfflehebmbaa.Space
open Go Go.Av Go.Proofs Go.Proofs.Ytpehfflehebmbaa.C Go.Proofs.Ytpehfflehebmbaa.Batch
theorem laid : laidOutB Try.prog = true := by kernel_rfl
theorem full : ∀ t e, t < Try.prog.types.size → Try.prog.underlying t = some (.slice e) → 0 < Try.prog.cellsOf e := slices_full_of Try.prog (by kernel_rfl)
theorem own : ownKnob Try.prog.godebug = none := by kernel_rfl
theorem all_of {α : Type} {t : TypeId} {k : Nat} {enc : α → AV} {Q : α → Prop} (h1 : ∀ cs, Fits Try.prog k t cs → ∃ x, wrapE Try.prog t cs = enc x ∧ Q x) : ∀ {ys : List AV}, (∀ y ∈ ys, ∃ cs, Fits Try.prog k t cs ∧ y = wrapE Try.prog t cs) → ∃ l : List α, ys = l.map enc ∧ ∀ x ∈ l, Q x
  | [], _ => ⟨[], rfl, by simp⟩
  | y :: ys, h => by
    obtain ⟨l, rfl, hl⟩ := all_of h1 (ys := ys) (fun z hz => h z (by simp [hz]))
    obtain ⟨cs, g1, g2⟩ := h y (by simp)
    obtain ⟨x, e, q⟩ := h1 cs g1
    refine ⟨x :: l, by simp [g2, e], fun z hz => ?_⟩
    rcases List.mem_cons.1 hz with rfl | hz
    · exact q
    · exact hl z hz
theorem row_len {n b : Nat} (hb : 8 ≤ b) (h : n * b ≤ reachBytes) : n ≤ 35184372088832 := by
  have : n * 8 ≤ n * b := Nat.mul_le_mul_left n hb
  have e : reachBytes = 140737488351232 := rfl
  omega
theorem ver_fits {k : Nat} {cs : List AV} (h : Fits Try.prog (k + 2) 108 cs) : ∃ p : Ver, wrapE Try.prog 108 cs = encV p ∧ True := by
  have hw : ∀ cs, wrapE Try.prog 108 cs = .agg cs := fun cs => by
    unfold wrapE; rw [if_pos (by kernel_rfl)]
  rw [hw]
  unfold Fits at h
  rw [Try.underlying108] at h
  obtain ⟨xss, rfl, h⟩ := h
  cases h with | cons h0 h => cases h with | cons h1 h => cases h with | cons h2 h =>
  cases h
  unfold Fits at h0 h1 h2
  simp only at h0 h1 h2
  rw [Try.underlying3] at h0
  rw [Try.underlying9] at h1
  rw [Try.underlying4] at h2
  obtain ⟨n, rfl, hn⟩ := h0
  obtain ⟨v, rfl, hv⟩ := h1
  obtain ⟨d, rfl⟩ := h2
  exact ⟨⟨n, v, d⟩, rfl, trivial⟩
def ItOk (p : It) : Prop := p.1.length ≤ reachBytes ∧ p.2.length ≤ 4398046511104
theorem item_fits {k : Nat} {cs : List AV} (h : Fits Try.prog (k + 4) 50 cs) : ∃ p : It, wrapE Try.prog 50 cs = encI p ∧ ItOk p := by
  have hw : ∀ cs, wrapE Try.prog 50 cs = .agg cs := fun cs => by
    unfold wrapE; rw [if_pos (by kernel_rfl)]
  rw [hw]
  unfold Fits at h
  rw [Try.underlying50] at h
  obtain ⟨xss, rfl, h⟩ := h
  cases h with | cons h0 h => cases h with | cons h1 h =>
  cases h
  unfold Fits at h0 h1
  simp only at h0 h1
  rw [Try.underlying9] at h0
  rw [Try.underlying48] at h1
  obtain ⟨q, rfl, hq⟩ := h0
  obtain ⟨xs, rfl, hlx, hx⟩ := h1
  obtain ⟨l, rfl, -⟩ := all_of (fun cs h => ver_fits h) hx
  have c1 : Try.prog.cellsOf 108 = 3 := by kernel_rfl
  have c2 : Try.prog.bytesOf 108 = 32 := by kernel_rfl
  rw [List.length_map, c2] at hlx
  refine ⟨(q, l), ?_, hq, by have e : reachBytes = 140737488351232 := rfl; simp only; omega⟩
  simp [encI, vAV, c1]
theorem open_items {a : AV} (h : ArgFits Try.prog 5 45 a) : ∃ l : List It, a = .sl 2 (l.map encI) .any ∧ l.length ≤ 35184372088832 ∧ ∀ p ∈ l, ItOk p := by
  obtain ⟨cs, h, rfl⟩ := h
  unfold Fits at h
  rw [Try.underlying45] at h
  obtain ⟨xs, rfl, hlx, hx⟩ := h
  obtain ⟨l, rfl, hl⟩ := all_of (fun cs h => item_fits h) hx
  have c1 : Try.prog.cellsOf 50 = 2 := by kernel_rfl
  have c2 : Try.prog.bytesOf 50 = 40 := by kernel_rfl
  rw [List.length_map, c2] at hlx
  refine ⟨l, ?_, row_len (by decide) hlx, hl⟩
  unfold wrapE; rw [if_neg (by rw [show isAggT Try.prog 45 = false by kernel_rfl]; simp), c1]; rfl
def ChOk (c : Ch) : Prop := c.k.length ≤ reachBytes ∧ c.v.length ≤ reachBytes
theorem change_fits {k : Nat} {cs : List AV} (h : Fits Try.prog (k + 2) 103 cs) : ∃ p : Ch, wrapE Try.prog 103 cs = encCh p ∧ ChOk p := by
  have hw : ∀ cs, wrapE Try.prog 103 cs = .agg cs := fun cs => by
    unfold wrapE; rw [if_pos (by kernel_rfl)]
  rw [hw]
  unfold Fits at h
  rw [Try.underlying103] at h
  obtain ⟨xss, rfl, h⟩ := h
  cases h with | cons h0 h => cases h with | cons h1 h => cases h with | cons h2 h =>
  cases h
  unfold Fits at h0 h1 h2
  simp only at h0 h1 h2
  rw [Try.underlying9] at h0 h1
  rw [Try.underlying4] at h2
  obtain ⟨n, rfl, hn⟩ := h0
  obtain ⟨v, rfl, hv⟩ := h1
  obtain ⟨d, rfl⟩ := h2
  exact ⟨⟨n, v, d⟩, rfl, hn, hv⟩
theorem changes_fits {k : Nat} {cs : List AV} (h : Fits Try.prog (k + 3) 27 cs) : ∃ l : List Ch, wrapE Try.prog 27 cs = .sl 3 (chs l) .any ∧ cs = [.sl 3 (chs l) .any] ∧ l.length ≤ 35184372088832 ∧ ∀ c ∈ l, ChOk c := by
  unfold Fits at h
  rw [Try.underlying27] at h
  obtain ⟨xs, rfl, hlx, hx⟩ := h
  obtain ⟨l, rfl, hl⟩ := all_of (fun cs h => change_fits h) hx
  have c1 : Try.prog.cellsOf 103 = 3 := by kernel_rfl
  have c2 : Try.prog.bytesOf 103 = 40 := by kernel_rfl
  rw [List.length_map, c2] at hlx
  refine ⟨l, ?_, by rw [c1]; rfl, row_len (by decide) hlx, hl⟩
  unfold wrapE; rw [if_neg (by rw [show isAggT Try.prog 27 = false by kernel_rfl]; simp), c1]; rfl
theorem open_changes {a : AV} (h : ArgFits Try.prog 5 27 a) : ∃ l : List Ch, a = .sl 3 (chs l) .any ∧ l.length ≤ 35184372088832 ∧ ∀ c ∈ l, ChOk c := by
  obtain ⟨cs, h, rfl⟩ := h
  obtain ⟨l, e, -, h1, h2⟩ := changes_fits h
  exact ⟨l, e, h1, h2⟩
structure Act where
  k : Int
  t : Int
  l : List Ch
instance : Inhabited Act := ⟨⟨0, 0, []⟩⟩
end Go.Proofs.Ytpehfflehebmbaa.Space
end
section
set_option linter.unusedSimpArgs false
set_option linter.unusedVariables false
set_option maxRecDepth 10000
namespace Go.Proofs.Ytpehfflehebmbaa.Space
open Go Go.Av Go.Proofs Go.Proofs.Ytpehfflehebmbaa.C Go.Proofs.Ytpehfflehebmbaa.Batch
theorem fin0 : fr0.Fin := ⟨[], fun id h => by simp [fr0, none'] at h⟩
structure NoSp (x : AV) (F : Fr) : Prop where
  fin : F.Fin
  k : F.k = []
  is : x = .sc (.pointer none) ∨ ∃ s, x = .ptr s 0
  made : Looks Try.prog 52 [x] F (.bool false)
theorem no_nil : NoSp (.sc (.pointer none)) fr0 := by
  refine ⟨fin0, rfl, .inl rfl, ?_⟩
  refine f52.looks fin0 (by simp) fun n m => ?_
  unfold c52
  repeat (first
    | ((first | apply Wp.seqItemsR | apply Wp.itemsR); (· simp only [go_sem, reduceIte, Nat.reduceEqDiff, Nat.reduceAdd, bx, ax, if_true, if_false, Nat.reduceMul, Nat.reduceLeDiff]; exact rfl))
    | (refine WpItems.nil ⟨?_, ?_⟩; (· first | trivial | simp [pairsQ, pairsOk, apart, ent0]))
    | (apply Wp.cond_lit; (· simp only [go_sem, reduceIte, Nat.reduceEqDiff, Nat.reduceAdd, bx, ax, if_true, if_false, Nat.reduceMul, Nat.reduceLeDiff]; exact rfl); (· rfl))
    | refine Wp.skip ?_
    | refine Wp.label ?_
    | refine Wp.block ?_
    | refine Wp.exit ?_
    | refine Wp.seq ?_)
  exact Wp.ret ⟨trivial, _, rfl, VSub.refl _, rfl⟩
variable {x : AV} {F : Fr}
theorem no_since (h : NoSp x F) (a b : Bs) (t : Int) : GCalls Try.prog 22 [x, .str a, .str b, .int .i64 t] [F] (fun r l => r = .bool false ∧ l = [F]) := by
  refine f22.gsameF (by simp) fun n m ok1 => ?_
  unfold c22
  have ok := ((ok1.more (.cells [x])).more (.cells [.int .i64 t])).more (.cells [.bool false])
  have g0 : ∀ u v L, lay (ob (n + 1 + 1) u :: ob (n + 1) v :: ob n (.cells [x]) :: L) n = some (.cells [x]) := fun u v L => by
    rw [lay_ob_ne _ _ (by omega), lay_ob_ne _ _ (by omega), lay_ob_at]
  have g2 : ∀ u L, lay (ob (n + 1 + 1) (.cells [u]) :: L) (n + 1 + 1) = some (.cells [u]) := fun u L => lay_ob_at _ _ _
  have hm := h.made
  have h4 := h.k
  rcases h.is with e | ⟨s, e⟩
  all_goals
    clear h
    subst e
    refine Wp.seqReg (by simp only [go_sem, reduceIte, Nat.reduceEqDiff, Nat.reduceAdd, bx]; exact rfl) (by trivial) ?_
    rw [upd_new, upd_new, upd_new]
    repeat (first
      | ((first | apply Wp.seqItemsR | apply Wp.itemsR | ((first
          | (refine WpItems.glook ?_ ?_ (hm) (by first | exact fun j o h => h | exact ok.sub (by simp) | assumption) (fun ids => ?_); (· simp only [go_sem, reduceIte, Nat.reduceEqDiff, Nat.reduceAdd, bx]); (· simp only [go_sem, reduceIte, Nat.reduceEqDiff, Nat.reduceAdd, bx, List.map]; first | exact VSubs.refl _ | (repeat (first | exact VSubs.nil | refine VSubs.cons (by first | exact VSub.refl _ | assumption | exact VSub.cap | exact VSub.any _) ?_))))); apply WpItems.evR)); (· simp only [go_sem, reduceIte, Nat.reduceEqDiff, Nat.reduceAdd, bx, ax, if_true, if_false, Nat.reduceMul, Nat.reduceLeDiff, g0, g2]; exact rfl))
      | (refine WpItems.nil ⟨?_, ?_⟩; (· first | trivial | simp [pairsQ, pairsOk, apart, ent0]))
      | (apply Wp.cond_lit; (· simp only [go_sem, reduceIte, Nat.reduceEqDiff, Nat.reduceAdd, bx, ax, if_true, if_false, Nat.reduceMul, Nat.reduceLeDiff, g0, g2]; exact rfl); (· rfl))
      | refine Wp.skip ?_
      | refine Wp.label ?_
      | refine Wp.block ?_
      | refine Wp.exit ?_
      | refine Wp.seq ?_)
    rw [upd_ob]
    refine Wp.ret ⟨trivial, .bool false, ?_, VSub.refl _, fun j hj => ?_, fun t ht => by simp [ks, h4] at ht⟩
    · simp only [resOf, rvs, rv, go_sem, reduceIte, Nat.reduceEqDiff, lay_ob_at]
    · simp only
      rw [lay_ob_ne _ _ (by omega), lay_ob_ne _ _ (by omega), lay_ob_ne _ _ (by omega)]
end Go.Proofs.Ytpehfflehebmbaa.Space
end
section
set_option linter.unusedSimpArgs false
set_option linter.unusedVariables false
set_option maxRecDepth 10000
namespace Go.Proofs.Ytpehfflehebmbaa.Reads
open Go Go.Av Go.Proofs Go.Proofs.Ytpehfflehebmbaa.C Go.Proofs.Ytpehfflehebmbaa.Batch
def Keeps (f : FuncId) (args : List AV) (F : Fr) (b : Bool) : Prop := GCalls Try.prog f args [F] fun r L => r = .bool b ∧ L = [F]
theorem indexStr_g {F : Fr} (hk : F.k = []) (l : List Bs) (hl : l.length ≤ 4611686018427387904) (p : Bs → Bool) {g : FuncId} {fn : Func} (hf : Try.prog.funcs[g]? = some fn) (hb : fn.body.isSome = true) (hn : fn.name ≠ "runtime.NumGoroutine") (caps : List AV)
    (hp : ∀ c ∈ l, Keeps g (.str c :: caps) F (p c)) :
    GCalls Try.prog 135 [.sl 1 (strs l) .any, .clo (.func g) [] caps] [F] fun r L => r = .int .i64 (ix p l) ∧ L = [F] := by
  refine f135.gcalls (by simp) fun n m ok => ?_
  unfold c135
  refine Wp.seqReg (by simp only [go_sem, reduceIte, Nat.reduceEqDiff, Nat.reduceAdd, bx]; exact rfl) (by trivial) ?_
  refine Wp.seq ?_
  refine Wp.seqReg (by simp only [go_sem, reduceIte, Nat.reduceEqDiff, Nat.reduceAdd, bx, strs_length]; exact rfl) (by trivial) ?_
  refine Wp.block ?_
  refine Wp.loopG (β := Nat) [0, 1, 7] (by simp only [go_sem, reduceIte, Nat.reduceEqDiff, List.map]; exact rfl) (fun j => [(8, .int .i64 (j : Nat))]) (fun j L => j ≤ l.length ∧ (∀ i (hi : i < l.length), i < j → p l[i] = false) ∧ L = [F]) (fun j => l.length - j) 0 ⟨Nat.zero_le _, fun i hi h => absurd h (by omega), rfl⟩ ok (by simp only [AllSub, go_sem, reduceIte, Nat.reduceEqDiff]; exact ⟨VSub.refl _, trivial⟩) ?_
  rintro j L n1 T1 m1 on ⟨hj, hs, rfl⟩
  refine Wp.seqReg (by simp only [go_sem, reduceIte, Nat.reduceEqDiff, Nat.reduceAdd, bx]; exact rfl) (by trivial) ?_
  refine Wp.seq ?_
  refine Wp.cond_split (b := decide ((j : Int) < (l.length : Int))) (by simp only [go_sem, reduceIte, Nat.reduceEqDiff, Nat.reduceAdd, bx]) (fun hc => ?_) (fun hc => ?_)
  · have h1 : (0 : Int) ≤ (j : Int) := by omega
    have h2 : (j : Int) < (l.length : Int) := by simpa using hc
    have h3 : j < l.length := by omega
    have hq := hp _ (List.getElem_mem h3)
    rw [← getD_el (d := []) h3] at hq
    refine Wp.skip ?_
    refine Wp.seq ?_
    refine Wp.block ?_
    refine Wp.seqReg (by simp only [go_sem, reduceIte, Nat.reduceEqDiff, Nat.reduceAdd, bx]; exact rfl) (by trivial) ?_
    refine Wp.seqItems (by simp only [go_sem, reduceIte, Nat.reduceEqDiff, Nat.reduceAdd, bx, strs_length, h1, h2, and_self, if_true, Int.toNat_natCast, strs_getD _ _ _ h3]; exact rfl) ?_
    refine WpItems.gcallv [] [F] [] (by simp only [go_sem]) (by simp only [go_sem, reduceIte, Nat.reduceEqDiff]; exact rfl) hf hb hn (by simp only [go_sem, reduceIte, Nat.reduceEqDiff, List.map]; exact VSubs.refl _) hq on.ok fun r G' n2 m2 ids hqq hn2 hm2 ok2 wi ki => ?_
    obtain ⟨rfl, rfl⟩ := hqq
    simp only [List.nil_append, List.append_nil] at ok2 wi ki ⊢
    have on2 : On [F] n1 m1 [F] n2 _ m2 := ⟨hn2, hm2, ok2, wi, ki⟩
    refine WpItems.eval (by simp only [go_sem, reduceIte, Nat.reduceEqDiff, Nat.reduceAdd, bx]; exact rfl) ?_
    refine WpItems.nil ⟨by trivial, ?_⟩
    rw [getD_el h3]
    refine Wp.cond_split (b := p l[j]) (by simp only [go_sem, reduceIte, Nat.reduceEqDiff, Nat.reduceAdd, bx]) (fun hd => ?_) (fun hd => ?_)
    · refine Wp.seqReg (by simp only [go_sem, reduceIte, Nat.reduceEqDiff, Nat.reduceAdd, bx]; exact rfl) (by trivial) ?_
      refine Wp.ret ⟨trivial, _, rfl, _, _, ((on.step on2).ends (VSub.refl _) ⟨?_, rfl⟩)⟩
      rw [ix_found h3 hd hs]; rfl
    · refine Wp.skip ?_
      refine Wp.reg1 (by simp only [go_sem, reduceIte, Nat.reduceEqDiff, Nat.reduceAdd, bx]; simp (disch := omega) only [IntWalk.i64_in]; exact rfl) (by trivial) ?_
      refine ⟨j + 1, [F], n2, _, m2, on2, ⟨by omega, fun i hi h => ?_, rfl⟩, by omega, ?_⟩
      · by_cases he : i = j
        · subst he; exact hd
        · exact hs i hi (by omega)
      · refine StLe.tm (by simp only [AllSub, go_sem, reduceIte, Nat.reduceEqDiff, Nat.reduceAdd, bx]; and_intros <;> first | exact trivial | exact VSub.refl _ | exact VSub.any _ | (refine VSub.int ?_; omega))
  · have : ¬ (j : Int) < (l.length : Int) := by simpa using hc
    refine Wp.exit ?_
    refine Wp.seqReg (by simp only [go_sem, reduceIte, Nat.reduceEqDiff, Nat.reduceAdd, bx]; exact rfl) (by trivial) ?_
    refine Wp.ret ⟨trivial, _, rfl, _, _, (on.ends (VSub.refl _) ⟨?_, rfl⟩)⟩
    rw [ix_none fun i hi => hs i hi (by omega)]; rfl
theorem indexSp_g {F : Fr} (hk : F.k = []) (l : List Sp) (hl : l.length ≤ 4611686018427387904) (p : Sp → Bool) {g : FuncId} {fn : Func} (hf : Try.prog.funcs[g]? = some fn) (hb : fn.body.isSome = true) (hn : fn.name ≠ "runtime.NumGoroutine") (caps : List AV)
    (hp : ∀ c ∈ l, Keeps g (encSp c :: caps) F (p c)) :
    GCalls Try.prog 136 [.sl 2 (sps l) .any, .clo (.func g) [] caps] [F] fun r L => r = .int .i64 (ix p l) ∧ L = [F] := by
  refine f136.gcalls (by simp) fun n m ok => ?_
  unfold c136
  refine Wp.seqReg (by simp only [go_sem, reduceIte, Nat.reduceEqDiff, Nat.reduceAdd, bx]; exact rfl) (by trivial) ?_
  refine Wp.seq ?_
  refine Wp.seqReg (by simp only [go_sem, reduceIte, Nat.reduceEqDiff, Nat.reduceAdd, bx, sps_length]; exact rfl) (by trivial) ?_
  refine Wp.block ?_
  refine Wp.loopG (β := Nat) [0, 1, 7] (by simp only [go_sem, reduceIte, Nat.reduceEqDiff, List.map]; exact rfl) (fun j => [(8, .int .i64 (j : Nat))]) (fun j L => j ≤ l.length ∧ (∀ i (hi : i < l.length), i < j → p l[i] = false) ∧ L = [F]) (fun j => l.length - j) 0 ⟨Nat.zero_le _, fun i hi h => absurd h (by omega), rfl⟩ ok (by simp only [AllSub, go_sem, reduceIte, Nat.reduceEqDiff]; exact ⟨VSub.refl _, trivial⟩) ?_
  rintro j L n1 T1 m1 on ⟨hj, hs, rfl⟩
  refine Wp.seqReg (by simp only [go_sem, reduceIte, Nat.reduceEqDiff, Nat.reduceAdd, bx]; exact rfl) (by trivial) ?_
  refine Wp.seq ?_
  refine Wp.cond_split (b := decide ((j : Int) < (l.length : Int))) (by simp only [go_sem, reduceIte, Nat.reduceEqDiff, Nat.reduceAdd, bx]) (fun hc => ?_) (fun hc => ?_)
  · have h1 : (0 : Int) ≤ (j : Int) := by omega
    have h2 : (j : Int) < (l.length : Int) := by simpa using hc
    have h3 : j < l.length := by omega
    have hq := hp _ (List.getElem_mem h3)
    rw [← getD_el (d := default) h3] at hq
    refine Wp.skip ?_
    refine Wp.seq ?_
    refine Wp.block ?_
    refine Wp.seqReg (by simp only [go_sem, reduceIte, Nat.reduceEqDiff, Nat.reduceAdd, bx]; exact rfl) (by trivial) ?_
    refine Wp.seqItems (by simp only [go_sem, reduceIte, Nat.reduceEqDiff, Nat.reduceAdd, bx, sps_length, h1, h2, and_self, if_true, Int.toNat_natCast, sps_getD _ _ _ h3, encSp]; exact rfl) ?_
    refine WpItems.gcallv [] [F] [] (by simp only [go_sem]) (by simp only [go_sem, reduceIte, Nat.reduceEqDiff]; exact rfl) hf hb hn (by simp only [go_sem, reduceIte, Nat.reduceEqDiff, List.map]; exact VSubs.refl _) hq on.ok fun r G' n2 m2 ids hqq hn2 hm2 ok2 wi ki => ?_
    obtain ⟨rfl, rfl⟩ := hqq
    simp only [List.nil_append, List.append_nil] at ok2 wi ki ⊢
    have on2 : On [F] n1 m1 [F] n2 _ m2 := ⟨hn2, hm2, ok2, wi, ki⟩
    refine WpItems.eval (by simp only [go_sem, reduceIte, Nat.reduceEqDiff, Nat.reduceAdd, bx]; exact rfl) ?_
    refine WpItems.nil ⟨by trivial, ?_⟩
    rw [getD_el h3]
    refine Wp.cond_split (b := p l[j]) (by simp only [go_sem, reduceIte, Nat.reduceEqDiff, Nat.reduceAdd, bx]) (fun hd => ?_) (fun hd => ?_)
    · refine Wp.seqReg (by simp only [go_sem, reduceIte, Nat.reduceEqDiff, Nat.reduceAdd, bx]; exact rfl) (by trivial) ?_
      refine Wp.ret ⟨trivial, _, rfl, _, _, ((on.step on2).ends (VSub.refl _) ⟨?_, rfl⟩)⟩
      rw [ix_found h3 hd hs]; rfl
    · refine Wp.skip ?_
      refine Wp.reg1 (by simp only [go_sem, reduceIte, Nat.reduceEqDiff, Nat.reduceAdd, bx]; simp (disch := omega) only [IntWalk.i64_in]; exact rfl) (by trivial) ?_
      refine ⟨j + 1, [F], n2, _, m2, on2, ⟨by omega, fun i hi h => ?_, rfl⟩, by omega, ?_⟩
      · by_cases he : i = j
        · subst he; exact hd
        · exact hs i hi (by omega)
      · refine StLe.tm (by simp only [AllSub, go_sem, reduceIte, Nat.reduceEqDiff, Nat.reduceAdd, bx]; and_intros <;> first | exact trivial | exact VSub.refl _ | exact VSub.any _ | (refine VSub.int ?_; omega))
  · have : ¬ (j : Int) < (l.length : Int) := by simpa using hc
    refine Wp.exit ?_
    refine Wp.seqReg (by simp only [go_sem, reduceIte, Nat.reduceEqDiff, Nat.reduceAdd, bx]; exact rfl) (by trivial) ?_
    refine Wp.ret ⟨trivial, _, rfl, _, _, (on.ends (VSub.refl _) ⟨?_, rfl⟩)⟩
    rw [ix_none fun i hi => hs i hi (by omega)]; rfl
theorem containsStr_g {F : Fr} (hk : F.k = []) (l : List Bs) (hl : l.length ≤ 4611686018427387904) (p : Bs → Bool) {g : FuncId} {fn : Func} (hf : Try.prog.funcs[g]? = some fn) (hb : fn.body.isSome = true) (hn : fn.name ≠ "runtime.NumGoroutine") (caps : List AV)
    (hp : ∀ c ∈ l, Keeps g (.str c :: caps) F (p c)) :
    Keeps 97 [.sl 1 (strs l) .any, .clo (.func g) [] caps] F (l.any p) := by
  refine f97.gcalls (by simp) fun n m ok => ?_
  unfold c97
  repeat (first
    | ((first | apply Wp.seqItemsR | apply Wp.itemsR); (· simp only [go_sem, reduceIte, Nat.reduceEqDiff, Nat.reduceAdd, bx, ax, if_true, if_false, Nat.reduceMul, Nat.reduceLeDiff, ix_nonneg]; exact rfl))
    | (refine WpItems.nil ⟨?_, ?_⟩; (· first | trivial | simp [pairsQ, pairsOk, apart, ent0]))
    | (apply Wp.cond_lit; (· simp only [go_sem, reduceIte, Nat.reduceEqDiff, Nat.reduceAdd, bx, ax, if_true, if_false, Nat.reduceMul, Nat.reduceLeDiff, ix_nonneg]; exact rfl); (· rfl))
    | refine Wp.skip ?_
    | refine Wp.label ?_
    | refine Wp.block ?_
    | refine Wp.exit ?_
    | refine Wp.seq ?_)
  refine WpItems.gkeep0 (by simp only [go_sem, reduceIte, Nat.reduceEqDiff, Nat.reduceAdd, bx]) (by simp only [go_sem, reduceIte, Nat.reduceEqDiff, Nat.reduceAdd, bx, List.map]; first | exact VSubs.refl _ | (repeat (first | exact VSubs.nil | refine VSubs.cons (by first | exact VSub.refl _ | assumption | exact VSub.cap | exact VSub.any _) ?_))) (indexStr_g hk l hl p hf hb hn caps hp) (hk) (ok) fun n1 m1 ids on hids => ?_
  refine WpItems.evR (by simp only [go_sem, reduceIte, Nat.reduceEqDiff, Nat.reduceAdd, bx, ix_nonneg]; exact rfl) ?_
  repeat (first
    | ((first | apply Wp.seqItemsR | apply Wp.itemsR); (· simp only [go_sem, reduceIte, Nat.reduceEqDiff, Nat.reduceAdd, bx, ax, if_true, if_false, Nat.reduceMul, Nat.reduceLeDiff, ix_nonneg]; exact rfl))
    | (refine WpItems.nil ⟨?_, ?_⟩; (· first | trivial | simp [pairsQ, pairsOk, apart, ent0]))
    | (apply Wp.cond_lit; (· simp only [go_sem, reduceIte, Nat.reduceEqDiff, Nat.reduceAdd, bx, ax, if_true, if_false, Nat.reduceMul, Nat.reduceLeDiff, ix_nonneg]; exact rfl); (· rfl))
    | refine Wp.skip ?_
    | refine Wp.label ?_
    | refine Wp.block ?_
    | refine Wp.exit ?_
    | refine Wp.seq ?_)
  exact Wp.ret ⟨trivial, _, rfl, _, _, on.ends (VSub.refl _) ⟨rfl, rfl⟩⟩
theorem containsSp_g {F : Fr} (hk : F.k = []) (l : List Sp) (hl : l.length ≤ 4611686018427387904) (p : Sp → Bool) {g : FuncId} {fn : Func} (hf : Try.prog.funcs[g]? = some fn) (hb : fn.body.isSome = true) (hn : fn.name ≠ "runtime.NumGoroutine") (caps : List AV)
    (hp : ∀ c ∈ l, Keeps g (encSp c :: caps) F (p c)) :
    Keeps 99 [.sl 2 (sps l) .any, .clo (.func g) [] caps] F (l.any p) := by
  refine f99.gcalls (by simp) fun n m ok => ?_
  unfold c99
  repeat (first
    | ((first | apply Wp.seqItemsR | apply Wp.itemsR); (· simp only [go_sem, reduceIte, Nat.reduceEqDiff, Nat.reduceAdd, bx, ax, if_true, if_false, Nat.reduceMul, Nat.reduceLeDiff, ix_nonneg]; exact rfl))
    | (refine WpItems.nil ⟨?_, ?_⟩; (· first | trivial | simp [pairsQ, pairsOk, apart, ent0]))
    | (apply Wp.cond_lit; (· simp only [go_sem, reduceIte, Nat.reduceEqDiff, Nat.reduceAdd, bx, ax, if_true, if_false, Nat.reduceMul, Nat.reduceLeDiff, ix_nonneg]; exact rfl); (· rfl))
    | refine Wp.skip ?_
    | refine Wp.label ?_
    | refine Wp.block ?_
    | refine Wp.exit ?_
    | refine Wp.seq ?_)
  refine WpItems.gkeep0 (by simp only [go_sem, reduceIte, Nat.reduceEqDiff, Nat.reduceAdd, bx]) (by simp only [go_sem, reduceIte, Nat.reduceEqDiff, Nat.reduceAdd, bx, List.map]; first | exact VSubs.refl _ | (repeat (first | exact VSubs.nil | refine VSubs.cons (by first | exact VSub.refl _ | assumption | exact VSub.cap | exact VSub.any _) ?_))) (indexSp_g hk l hl p hf hb hn caps hp) (hk) (ok) fun n1 m1 ids on hids => ?_
  refine WpItems.evR (by simp only [go_sem, reduceIte, Nat.reduceEqDiff, Nat.reduceAdd, bx, ix_nonneg]; exact rfl) ?_
  repeat (first
    | ((first | apply Wp.seqItemsR | apply Wp.itemsR); (· simp only [go_sem, reduceIte, Nat.reduceEqDiff, Nat.reduceAdd, bx, ax, if_true, if_false, Nat.reduceMul, Nat.reduceLeDiff, ix_nonneg]; exact rfl))
    | (refine WpItems.nil ⟨?_, ?_⟩; (· first | trivial | simp [pairsQ, pairsOk, apart, ent0]))
    | (apply Wp.cond_lit; (· simp only [go_sem, reduceIte, Nat.reduceEqDiff, Nat.reduceAdd, bx, ax, if_true, if_false, Nat.reduceMul, Nat.reduceLeDiff, ix_nonneg]; exact rfl); (· rfl))
    | refine Wp.skip ?_
    | refine Wp.label ?_
    | refine Wp.block ?_
    | refine Wp.exit ?_
    | refine Wp.seq ?_)
  exact Wp.ret ⟨trivial, _, rfl, _, _, on.ends (VSub.refl _) ⟨rfl, rfl⟩⟩
def SinceC (x : AV) (F : Fr) (t : Int) (w : Bs → Bs → Bool) : Prop := ∀ a b, Keeps 22 [x, .str a, .str b, .int .i64 t] F (w a b)
theorem stale1_g {x : AV} {F : Fr} {t : Int} {w : Bs → Bs → Bool} (hk : F.k = []) (hw : SinceC x F t w) (q : Bs) (hq : q.length ≤ 4611686018427387904) : Keeps 98 [.str q, .ref [x], .ref [.int .i64 t]] F (w q (q ++ [0])) := by
  refine f98.gcalls (by simp) fun n m ok => ?_
  unfold c98
  have hadd : q.length + 1 < 9223372036854775808 := by omega
  have hw2 := hw q (q ++ [0])
  repeat (first
    | ((first | apply Wp.seqItemsR | apply Wp.itemsR); (· simp only [go_sem, reduceIte, Nat.reduceEqDiff, Nat.reduceAdd, bx, ax, if_true, if_false, Nat.reduceMul, Nat.reduceLeDiff, List.length_cons, List.length_nil, Nat.zero_add, hadd]; exact rfl))
    | (refine WpItems.nil ⟨?_, ?_⟩; (· first | trivial | simp [pairsQ, pairsOk, apart, ent0]))
    | (apply Wp.cond_lit; (· simp only [go_sem, reduceIte, Nat.reduceEqDiff, Nat.reduceAdd, bx, ax, if_true, if_false, Nat.reduceMul, Nat.reduceLeDiff, List.length_cons, List.length_nil, Nat.zero_add, hadd]; exact rfl); (· rfl))
    | refine Wp.skip ?_
    | refine Wp.label ?_
    | refine Wp.block ?_
    | refine Wp.exit ?_
    | refine Wp.seq ?_)
  refine WpItems.gkeep0 (by simp only [go_sem, reduceIte, Nat.reduceEqDiff, Nat.reduceAdd, bx]) (by simp only [go_sem, reduceIte, Nat.reduceEqDiff, Nat.reduceAdd, bx, List.map]; first | exact VSubs.refl _ | (repeat (first | exact VSubs.nil | refine VSubs.cons (by first | exact VSub.refl _ | assumption | exact VSub.cap | exact VSub.any _) ?_))) (hw2) (hk) (ok) fun n1 m1 ids on hids => ?_
  refine WpItems.evR (by simp only [go_sem, reduceIte, Nat.reduceEqDiff, Nat.reduceAdd, bx]; exact rfl) ?_
  repeat (first
    | ((first | apply Wp.seqItemsR | apply Wp.itemsR); (· simp only [go_sem, reduceIte, Nat.reduceEqDiff, Nat.reduceAdd, bx, ax, if_true, if_false, Nat.reduceMul, Nat.reduceLeDiff, hadd]; exact rfl))
    | (refine WpItems.nil ⟨?_, ?_⟩; (· first | trivial | simp [pairsQ, pairsOk, apart, ent0]))
    | (apply Wp.cond_lit; (· simp only [go_sem, reduceIte, Nat.reduceEqDiff, Nat.reduceAdd, bx, ax, if_true, if_false, Nat.reduceMul, Nat.reduceLeDiff, hadd]; exact rfl); (· rfl))
    | refine Wp.skip ?_
    | refine Wp.label ?_
    | refine Wp.block ?_
    | refine Wp.exit ?_
    | refine Wp.seq ?_)
  exact Wp.ret ⟨trivial, _, rfl, _, _, on.ends (VSub.refl _) ⟨rfl, rfl⟩⟩
theorem stale2_g {x : AV} {F : Fr} {t : Int} {w : Bs → Bs → Bool} (hk : F.k = []) (hw : SinceC x F t w) (s : Sp) : Keeps 100 [encSp s, .ref [x], .ref [.int .i64 t]] F (w s.f s.t) := by
  refine f100.gsameF (by simp) fun n m ok => ?_
  unfold c100
  have hw2 := hw s.f s.t
  have ok2 := ok.more (.cells [.str s.f, .str s.t])
  have gb : ∀ L, lay (ob n (.cells [.str s.f, .str s.t]) :: L) n = some (.cells [.str s.f, .str s.t]) := fun L => lay_ob_at _ _ _
  repeat (first
    | ((first | apply Wp.seqItemsR | apply Wp.itemsR); (· simp only [go_sem, reduceIte, Nat.reduceEqDiff, Nat.reduceAdd, bx, ax, if_true, if_false, Nat.reduceMul, Nat.reduceLeDiff, encSp]; exact rfl))
    | (refine WpItems.nil ⟨?_, ?_⟩; (· first | trivial | simp [pairsQ, pairsOk, apart, ent0]))
    | (apply Wp.cond_lit; (· simp only [go_sem, reduceIte, Nat.reduceEqDiff, Nat.reduceAdd, bx, ax, if_true, if_false, Nat.reduceMul, Nat.reduceLeDiff, encSp]; exact rfl); (· rfl))
    | refine Wp.skip ?_
    | refine Wp.label ?_
    | refine Wp.block ?_
    | refine Wp.exit ?_
    | refine Wp.seq ?_)
  rw [upd_new]
  repeat (first
    | ((first | apply Wp.seqItemsR | apply Wp.itemsR); (· simp only [go_sem, reduceIte, Nat.reduceEqDiff, Nat.reduceAdd, bx, ax, if_true, if_false, Nat.reduceMul, Nat.reduceLeDiff, gb]; exact rfl))
    | (refine WpItems.nil ⟨?_, ?_⟩; (· first | trivial | simp [pairsQ, pairsOk, apart, ent0]))
    | (apply Wp.cond_lit; (· simp only [go_sem, reduceIte, Nat.reduceEqDiff, Nat.reduceAdd, bx, ax, if_true, if_false, Nat.reduceMul, Nat.reduceLeDiff, gb]; exact rfl); (· rfl))
    | refine Wp.skip ?_
    | refine Wp.label ?_
    | refine Wp.block ?_
    | refine Wp.exit ?_
    | refine Wp.seq ?_)
  refine WpItems.gkeepI ([_]) ([]) (by simp only [go_sem, reduceIte, Nat.reduceEqDiff, Nat.reduceAdd, bx]) (by simp only [go_sem, reduceIte, Nat.reduceEqDiff, Nat.reduceAdd, bx, List.map]; first | exact VSubs.refl _ | (repeat (first | exact VSubs.nil | refine VSubs.cons (by first | exact VSub.refl _ | assumption | exact VSub.cap | exact VSub.any _) ?_))) (hw2) (hk) (ok2) fun n1 m1 ids hn1 hm1 hids ok3 => ?_
  simp only [List.cons_append, List.nil_append] at ok3 ⊢
  refine WpItems.evR (by simp only [go_sem, reduceIte, Nat.reduceEqDiff, Nat.reduceAdd, bx]; exact rfl) ?_
  repeat (first
    | ((first | apply Wp.seqItemsR | apply Wp.itemsR); (· simp only [go_sem, reduceIte, Nat.reduceEqDiff, Nat.reduceAdd, bx, ax, if_true, if_false, Nat.reduceMul, Nat.reduceLeDiff, gb]; exact rfl))
    | (refine WpItems.nil ⟨?_, ?_⟩; (· first | trivial | simp [pairsQ, pairsOk, apart, ent0]))
    | (apply Wp.cond_lit; (· simp only [go_sem, reduceIte, Nat.reduceEqDiff, Nat.reduceAdd, bx, ax, if_true, if_false, Nat.reduceMul, Nat.reduceLeDiff, gb]; exact rfl); (· rfl))
    | refine Wp.skip ?_
    | refine Wp.label ?_
    | refine Wp.block ?_
    | refine Wp.exit ?_
    | refine Wp.seq ?_)
  exact Wp.ret ⟨trivial, _, rfl, VSub.refl _, fun j hj => lay_ob_ne _ _ (by omega), fun t ht => by simp [ks, hk] at ht⟩
end Go.Proofs.Ytpehfflehebmbaa.Reads
end
section
set_option linter.unusedSimpArgs false
set_option linter.unusedVariables false
set_option maxRecDepth 10000
namespace Go.Proofs.Ytpehfflehebmbaa.Reads
open Go Go.Av Go.Proofs Go.Proofs.Ytpehfflehebmbaa.C Go.Proofs.Ytpehfflehebmbaa.Batch
def staleB (k : List Bs) (l : List Sp) (w : Bs → Bs → Bool) : Bool := checkB k l && ((k.any fun q => w q (q ++ [0])) || l.any fun s => w s.f s.t)
set_option maxHeartbeats 2000000 in
theorem stale_g {x : AV} {F : Fr} {t : Int} {w : Bs → Bs → Bool} (hx : x = .sc (.pointer none) ∨ ∃ s, x = .ptr s 0 ∧ (F.o s).isSome = true) (hk : F.k = []) (hw : SinceC x F t w) (k : List Bs) (l : List Sp) (lk : ∀ q ∈ k, q.length ≤ 4611686018427387904) :
    Keeps 50 [encR k l, x, .int .i64 t] F (staleB k l w) := by
  refine f50.gsameF (by simp) fun n m ok => ?_
  unfold c50
  have hck := check_p k l
  unfold encR at hck
  have e1 : decide (n ≤ n) = true := decide_eq_true (by omega)
  have e2 : decide (n ≤ n + 1) = true := decide_eq_true (by omega)
  have e3 : decide (n ≤ n + 1 + 1) = true := decide_eq_true (by omega)
  have f1 : (n = n + 1 + 1) = False := eq_false (by omega)
  have f2 : (n = n + 1) = False := eq_false (by omega)
  have f3 : (n + 1 = n + 1 + 1) = False := eq_false (by omega)
  have ok1 : Ok [F] (n + 1 + 1 + 1) (ks [F]) m := ok.grow (by omega) (Nat.le_refl _)
  have ole : ∀ a b c : Av.Obj, OLe (H.drop ⟨upd (upd (upd (lay [F]) n (some a)) (n + 1) (some b)) (n + 1 + 1) (some c), n + 1 + 1 + 1, ks [F], m⟩ fun j => decide (n ≤ j)).objs (lay [F]) := fun a b c j o hj => by
    have hjn : j < n := by
      rcases Nat.lt_or_ge j n with h | h
      · exact h
      · rw [ok.lay_bd h] at hj; cases hj
    refine ⟨o, ?_, OSub.refl _⟩
    simp only [H.drop, upd]
    rw [if_neg (by simp; omega), if_neg (by omega), if_neg (by omega), if_neg (by omega)]; exact hj
  have c1 := fun (hc : checkB k l = true) => containsStr_g hk k (by have := (check_ok hc).1; omega) (fun q => w q (q ++ [0])) Try.func98 rfl (of_decide_eq_true (by kernel_rfl)) [.ref [x], .ref [.int .i64 t]] (fun c hc2 => stale1_g hk hw c (lk c hc2))
  have c2 := fun (hc : checkB k l = true) => containsSp_g hk l (by have := (check_ok hc).2.1; omega) (fun s => w s.f s.t) Try.func100 rfl (of_decide_eq_true (by kernel_rfl)) [.ref [x], .ref [.int .i64 t]] (fun c _ => stale2_g hk hw c)
  have d4 : decide ((4 : Int) = 0) = false := rfl
  have d0 : decide ((0 : Int) = 0) = true := rfl
  rcases hx with e | ⟨s, e, hs⟩
  · clear hw
    subst e
    refine Wp.seqReg (by simp only [go_sem, reduceIte, Nat.reduceEqDiff, Nat.reduceAdd, bx, encR]; exact rfl) (by trivial) ?_
    refine Wp.frz (fun j => decide (n ≤ j)) [(3, .ref [.sl 1 (strs k) .any, .sl 2 (sps l) .any]), (4, .ref [.sc (.pointer none)]), (5, .ref [.int .i64 t])] ⟨lay [F], n + 1 + 1 + 1, ks [F], m⟩ ?_ (ole _ _ _) (fun t ht => ht) (Nat.le_refl _) (Nat.le_refl _) ?_
    · simp only [AllSub, go_sem, reduceIte, Nat.reduceEqDiff, unT, bx, e1, e2, e3, f1, f2, f3, if_false, if_true, List.drop_zero]
      and_intros <;> first | exact VSub.refl _ | trivial
    cases hc : checkB k l with
    | false =>
      rw [hc] at hck
      simp only [Bool.false_eq_true, if_false] at hck
      repeat (first
        | ((first | apply Wp.seqItemsR | apply Wp.itemsR | ((first
            | (refine WpItems.pcall ?_ ?_ (hck) ?_; (· simp only [go_sem, reduceIte, Nat.reduceEqDiff, Nat.reduceAdd, bx]); (· simp only [go_sem, reduceIte, Nat.reduceEqDiff, Nat.reduceAdd, bx, List.map]; first | exact VSubs.refl _ | (repeat (first | exact VSubs.nil | refine VSubs.cons (by first | exact VSub.refl _ | assumption | exact VSub.cap | exact VSub.any _) ?_))))); apply WpItems.evR)); (· simp only [go_sem, reduceIte, Nat.reduceEqDiff, Nat.reduceAdd, bx, ax, if_true, if_false, Nat.reduceMul, Nat.reduceLeDiff, d4]; exact rfl))
        | (refine WpItems.nil ⟨?_, ?_⟩; (· first | trivial | simp [pairsQ, pairsOk, apart, ent0]))
        | (apply Wp.cond_lit; (· simp only [go_sem, reduceIte, Nat.reduceEqDiff, Nat.reduceAdd, bx, ax, if_true, if_false, Nat.reduceMul, Nat.reduceLeDiff, d4]; exact rfl); (· rfl))
        | refine Wp.skip ?_
        | refine Wp.label ?_
        | refine Wp.block ?_
        | refine Wp.exit ?_
        | refine Wp.seq ?_)
      refine Wp.ret ⟨trivial, _, rfl, ?_, fun j hj => rfl, fun t ht => ht⟩
      rw [staleB, hc]; exact VSub.refl _
    | true =>
      rw [hc] at hck
      simp only [if_true] at hck
      have k1 := c1 hc
      have k2 := c2 hc
      repeat (first
        | ((first | apply Wp.seqItemsR | apply Wp.itemsR | ((first
            | (refine WpItems.pcall ?_ ?_ (hck) ?_; (· simp only [go_sem, reduceIte, Nat.reduceEqDiff, Nat.reduceAdd, bx]); (· simp only [go_sem, reduceIte, Nat.reduceEqDiff, Nat.reduceAdd, bx, List.map]; first | exact VSubs.refl _ | (repeat (first | exact VSubs.nil | refine VSubs.cons (by first | exact VSub.refl _ | assumption | exact VSub.cap | exact VSub.any _) ?_))))); apply WpItems.evR)); (· simp only [go_sem, reduceIte, Nat.reduceEqDiff, Nat.reduceAdd, bx, ax, if_true, if_false, Nat.reduceMul, Nat.reduceLeDiff, d0]; exact rfl))
        | (refine WpItems.nil ⟨?_, ?_⟩; (· first | trivial | simp [pairsQ, pairsOk, apart, ent0]))
        | (apply Wp.cond_lit; (· simp only [go_sem, reduceIte, Nat.reduceEqDiff, Nat.reduceAdd, bx, ax, if_true, if_false, Nat.reduceMul, Nat.reduceLeDiff, d0]; exact rfl); (· rfl))
        | refine Wp.skip ?_
        | refine Wp.label ?_
        | refine Wp.block ?_
        | refine Wp.exit ?_
        | refine Wp.seq ?_)
      cases hb1 : (k.any fun q => w q (q ++ [0])) with
      | true =>
        rw [hb1] at k1
        refine WpItems.gkeep0 (by simp only [go_sem, reduceIte, Nat.reduceEqDiff, Nat.reduceAdd, bx]) (by simp only [go_sem, reduceIte, Nat.reduceEqDiff, Nat.reduceAdd, bx, List.map]; first | exact VSubs.refl _ | (repeat (first | exact VSubs.nil | refine VSubs.cons (by first | exact VSub.refl _ | assumption | exact VSub.cap | exact VSub.any _) ?_))) (k1) (hk) (ok1) fun n1 m1 ids1 on1 hids1 => ?_
        refine WpItems.evR (by simp only [go_sem, reduceIte, Nat.reduceEqDiff, Nat.reduceAdd, bx]; exact rfl) ?_
        repeat (first
          | ((first | apply Wp.seqItemsR | apply Wp.itemsR); (· simp only [go_sem, reduceIte, Nat.reduceEqDiff, Nat.reduceAdd, bx, ax, if_true, if_false, Nat.reduceMul, Nat.reduceLeDiff, d0]; exact rfl))
          | (refine WpItems.nil ⟨?_, ?_⟩; (· first | trivial | simp [pairsQ, pairsOk, apart, ent0]))
          | (apply Wp.cond_lit; (· simp only [go_sem, reduceIte, Nat.reduceEqDiff, Nat.reduceAdd, bx, ax, if_true, if_false, Nat.reduceMul, Nat.reduceLeDiff, d0]; exact rfl); (· rfl))
          | refine Wp.skip ?_
          | refine Wp.label ?_
          | refine Wp.block ?_
          | refine Wp.exit ?_
          | refine Wp.seq ?_)
        refine Wp.ret ⟨trivial, _, rfl, ?_, fun j hj => rfl, fun t ht => by simp [ks, hk] at ht⟩
        rw [staleB, hc, hb1]; exact VSub.refl _
      | false =>
        rw [hb1] at k1
        refine WpItems.gkeep0 (by simp only [go_sem, reduceIte, Nat.reduceEqDiff, Nat.reduceAdd, bx]) (by simp only [go_sem, reduceIte, Nat.reduceEqDiff, Nat.reduceAdd, bx, List.map]; first | exact VSubs.refl _ | (repeat (first | exact VSubs.nil | refine VSubs.cons (by first | exact VSub.refl _ | assumption | exact VSub.cap | exact VSub.any _) ?_))) (k1) (hk) (ok1) fun n1 m1 ids1 on1 hids1 => ?_
        refine WpItems.evR (by simp only [go_sem, reduceIte, Nat.reduceEqDiff, Nat.reduceAdd, bx]; exact rfl) ?_
        repeat (first
          | ((first | apply Wp.seqItemsR | apply Wp.itemsR); (· simp only [go_sem, reduceIte, Nat.reduceEqDiff, Nat.reduceAdd, bx, ax, if_true, if_false, Nat.reduceMul, Nat.reduceLeDiff, d0]; exact rfl))
          | (refine WpItems.nil ⟨?_, ?_⟩; (· first | trivial | simp [pairsQ, pairsOk, apart, ent0]))
          | (apply Wp.cond_lit; (· simp only [go_sem, reduceIte, Nat.reduceEqDiff, Nat.reduceAdd, bx, ax, if_true, if_false, Nat.reduceMul, Nat.reduceLeDiff, d0]; exact rfl); (· rfl))
          | refine Wp.skip ?_
          | refine Wp.label ?_
          | refine Wp.block ?_
          | refine Wp.exit ?_
          | refine Wp.seq ?_)
        refine WpItems.gkeep0 (by simp only [go_sem, reduceIte, Nat.reduceEqDiff, Nat.reduceAdd, bx]) (by simp only [go_sem, reduceIte, Nat.reduceEqDiff, Nat.reduceAdd, bx, List.map]; first | exact VSubs.refl _ | (repeat (first | exact VSubs.nil | refine VSubs.cons (by first | exact VSub.refl _ | assumption | exact VSub.cap | exact VSub.any _) ?_))) (k2) (hk) (on1.ok) fun n2 m2 ids2 on2 hids2 => ?_
        refine WpItems.evR (by simp only [go_sem, reduceIte, Nat.reduceEqDiff, Nat.reduceAdd, bx]; exact rfl) ?_
        repeat (first
          | ((first | apply Wp.seqItemsR | apply Wp.itemsR); (· simp only [go_sem, reduceIte, Nat.reduceEqDiff, Nat.reduceAdd, bx, ax, if_true, if_false, Nat.reduceMul, Nat.reduceLeDiff, d0]; exact rfl))
          | (refine WpItems.nil ⟨?_, ?_⟩; (· first | trivial | simp [pairsQ, pairsOk, apart, ent0]))
          | (apply Wp.cond_lit; (· simp only [go_sem, reduceIte, Nat.reduceEqDiff, Nat.reduceAdd, bx, ax, if_true, if_false, Nat.reduceMul, Nat.reduceLeDiff, d0]; exact rfl); (· rfl))
          | refine Wp.skip ?_
          | refine Wp.label ?_
          | refine Wp.block ?_
          | refine Wp.exit ?_
          | refine Wp.seq ?_)
        refine Wp.ret ⟨trivial, _, rfl, ?_, fun j hj => rfl, fun t ht => by simp [ks, hk] at ht⟩
        rw [staleB, hc, hb1]; exact VSub.refl _
  · clear hw
    subst e
    refine Wp.seqReg (by simp only [go_sem, reduceIte, Nat.reduceEqDiff, Nat.reduceAdd, bx, encR]; exact rfl) (by trivial) ?_
    refine Wp.frz (fun j => decide (n ≤ j)) [(3, .ref [.sl 1 (strs k) .any, .sl 2 (sps l) .any]), (4, .ref [.ptr s 0]), (5, .ref [.int .i64 t])] ⟨lay [F], n + 1 + 1 + 1, ks [F], m⟩ ?_ (ole _ _ _) (fun t ht => ht) (Nat.le_refl _) (Nat.le_refl _) ?_
    · simp only [AllSub, go_sem, reduceIte, Nat.reduceEqDiff, unT, bx, e1, e2, e3, f1, f2, f3, if_false, if_true, List.drop_zero]
      and_intros <;> first | exact VSub.refl _ | trivial
    cases hc : checkB k l with
    | false =>
      rw [hc] at hck
      simp only [Bool.false_eq_true, if_false] at hck
      repeat (first
        | ((first | apply Wp.seqItemsR | apply Wp.itemsR | ((first
            | (refine WpItems.pcall ?_ ?_ (hck) ?_; (· simp only [go_sem, reduceIte, Nat.reduceEqDiff, Nat.reduceAdd, bx]); (· simp only [go_sem, reduceIte, Nat.reduceEqDiff, Nat.reduceAdd, bx, List.map]; first | exact VSubs.refl _ | (repeat (first | exact VSubs.nil | refine VSubs.cons (by first | exact VSub.refl _ | assumption | exact VSub.cap | exact VSub.any _) ?_))))); apply WpItems.evR)); (· simp only [go_sem, reduceIte, Nat.reduceEqDiff, Nat.reduceAdd, bx, ax, if_true, if_false, Nat.reduceMul, Nat.reduceLeDiff, d4]; exact rfl))
        | (refine WpItems.nil ⟨?_, ?_⟩; (· first | trivial | simp [pairsQ, pairsOk, apart, ent0]))
        | (apply Wp.cond_lit; (· simp only [go_sem, reduceIte, Nat.reduceEqDiff, Nat.reduceAdd, bx, ax, if_true, if_false, Nat.reduceMul, Nat.reduceLeDiff, d4]; exact rfl); (· rfl))
        | refine Wp.skip ?_
        | refine Wp.label ?_
        | refine Wp.block ?_
        | refine Wp.exit ?_
        | refine Wp.seq ?_)
      refine Wp.ret ⟨trivial, _, rfl, ?_, fun j hj => rfl, fun t ht => ht⟩
      rw [staleB, hc]; exact VSub.refl _
    | true =>
      rw [hc] at hck
      simp only [if_true] at hck
      have k1 := c1 hc
      have k2 := c2 hc
      repeat (first
        | ((first | apply Wp.seqItemsR | apply Wp.itemsR | ((first
            | (refine WpItems.pcall ?_ ?_ (hck) ?_; (· simp only [go_sem, reduceIte, Nat.reduceEqDiff, Nat.reduceAdd, bx]); (· simp only [go_sem, reduceIte, Nat.reduceEqDiff, Nat.reduceAdd, bx, List.map]; first | exact VSubs.refl _ | (repeat (first | exact VSubs.nil | refine VSubs.cons (by first | exact VSub.refl _ | assumption | exact VSub.cap | exact VSub.any _) ?_))))); apply WpItems.evR)); (· simp only [go_sem, reduceIte, Nat.reduceEqDiff, Nat.reduceAdd, bx, ax, if_true, if_false, Nat.reduceMul, Nat.reduceLeDiff, d0]; exact rfl))
        | (refine WpItems.nil ⟨?_, ?_⟩; (· first | trivial | simp [pairsQ, pairsOk, apart, ent0]))
        | (apply Wp.cond_lit; (· simp only [go_sem, reduceIte, Nat.reduceEqDiff, Nat.reduceAdd, bx, ax, if_true, if_false, Nat.reduceMul, Nat.reduceLeDiff, d0]; exact rfl); (· rfl))
        | refine Wp.skip ?_
        | refine Wp.label ?_
        | refine Wp.block ?_
        | refine Wp.exit ?_
        | refine Wp.seq ?_)
      cases hb1 : (k.any fun q => w q (q ++ [0])) with
      | true =>
        rw [hb1] at k1
        refine WpItems.gkeep0 (by simp only [go_sem, reduceIte, Nat.reduceEqDiff, Nat.reduceAdd, bx]) (by simp only [go_sem, reduceIte, Nat.reduceEqDiff, Nat.reduceAdd, bx, List.map]; first | exact VSubs.refl _ | (repeat (first | exact VSubs.nil | refine VSubs.cons (by first | exact VSub.refl _ | assumption | exact VSub.cap | exact VSub.any _) ?_))) (k1) (hk) (ok1) fun n1 m1 ids1 on1 hids1 => ?_
        refine WpItems.evR (by simp only [go_sem, reduceIte, Nat.reduceEqDiff, Nat.reduceAdd, bx]; exact rfl) ?_
        repeat (first
          | ((first | apply Wp.seqItemsR | apply Wp.itemsR); (· simp only [go_sem, reduceIte, Nat.reduceEqDiff, Nat.reduceAdd, bx, ax, if_true, if_false, Nat.reduceMul, Nat.reduceLeDiff, d0]; exact rfl))
          | (refine WpItems.nil ⟨?_, ?_⟩; (· first | trivial | simp [pairsQ, pairsOk, apart, ent0]))
          | (apply Wp.cond_lit; (· simp only [go_sem, reduceIte, Nat.reduceEqDiff, Nat.reduceAdd, bx, ax, if_true, if_false, Nat.reduceMul, Nat.reduceLeDiff, d0]; exact rfl); (· rfl))
          | refine Wp.skip ?_
          | refine Wp.label ?_
          | refine Wp.block ?_
          | refine Wp.exit ?_
          | refine Wp.seq ?_)
        refine Wp.ret ⟨trivial, _, rfl, ?_, fun j hj => rfl, fun t ht => by simp [ks, hk] at ht⟩
        rw [staleB, hc, hb1]; exact VSub.refl _
      | false =>
        rw [hb1] at k1
        refine WpItems.gkeep0 (by simp only [go_sem, reduceIte, Nat.reduceEqDiff, Nat.reduceAdd, bx]) (by simp only [go_sem, reduceIte, Nat.reduceEqDiff, Nat.reduceAdd, bx, List.map]; first | exact VSubs.refl _ | (repeat (first | exact VSubs.nil | refine VSubs.cons (by first | exact VSub.refl _ | assumption | exact VSub.cap | exact VSub.any _) ?_))) (k1) (hk) (ok1) fun n1 m1 ids1 on1 hids1 => ?_
        refine WpItems.evR (by simp only [go_sem, reduceIte, Nat.reduceEqDiff, Nat.reduceAdd, bx]; exact rfl) ?_
        repeat (first
          | ((first | apply Wp.seqItemsR | apply Wp.itemsR); (· simp only [go_sem, reduceIte, Nat.reduceEqDiff, Nat.reduceAdd, bx, ax, if_true, if_false, Nat.reduceMul, Nat.reduceLeDiff, d0]; exact rfl))
          | (refine WpItems.nil ⟨?_, ?_⟩; (· first | trivial | simp [pairsQ, pairsOk, apart, ent0]))
          | (apply Wp.cond_lit; (· simp only [go_sem, reduceIte, Nat.reduceEqDiff, Nat.reduceAdd, bx, ax, if_true, if_false, Nat.reduceMul, Nat.reduceLeDiff, d0]; exact rfl); (· rfl))
          | refine Wp.skip ?_
          | refine Wp.label ?_
          | refine Wp.block ?_
          | refine Wp.exit ?_
          | refine Wp.seq ?_)
        refine WpItems.gkeep0 (by simp only [go_sem, reduceIte, Nat.reduceEqDiff, Nat.reduceAdd, bx]) (by simp only [go_sem, reduceIte, Nat.reduceEqDiff, Nat.reduceAdd, bx, List.map]; first | exact VSubs.refl _ | (repeat (first | exact VSubs.nil | refine VSubs.cons (by first | exact VSub.refl _ | assumption | exact VSub.cap | exact VSub.any _) ?_))) (k2) (hk) (on1.ok) fun n2 m2 ids2 on2 hids2 => ?_
        refine WpItems.evR (by simp only [go_sem, reduceIte, Nat.reduceEqDiff, Nat.reduceAdd, bx]; exact rfl) ?_
        repeat (first
          | ((first | apply Wp.seqItemsR | apply Wp.itemsR); (· simp only [go_sem, reduceIte, Nat.reduceEqDiff, Nat.reduceAdd, bx, ax, if_true, if_false, Nat.reduceMul, Nat.reduceLeDiff, d0]; exact rfl))
          | (refine WpItems.nil ⟨?_, ?_⟩; (· first | trivial | simp [pairsQ, pairsOk, apart, ent0]))
          | (apply Wp.cond_lit; (· simp only [go_sem, reduceIte, Nat.reduceEqDiff, Nat.reduceAdd, bx, ax, if_true, if_false, Nat.reduceMul, Nat.reduceLeDiff, d0]; exact rfl); (· rfl))
          | refine Wp.skip ?_
          | refine Wp.label ?_
          | refine Wp.block ?_
          | refine Wp.exit ?_
          | refine Wp.seq ?_)
        refine Wp.ret ⟨trivial, _, rfl, ?_, fun j hj => rfl, fun t ht => by simp [ks, hk] at ht⟩
        rw [staleB, hc, hb1]; exact VSub.refl _
theorem less_zero : ∀ (x q : Bs), (!Op.bytesLess x q && Op.bytesLess x (q ++ [0])) = decide (x = q)
  | [], [] => by simp [Op.bytesLess]
  | a :: x, [] => by cases x <;> simp [Op.bytesLess]
  | [], b :: q => by simp [Op.bytesLess]
  | a :: x, b :: q => by
    have ih := less_zero x q
    simp only [List.cons_append, Op.bytesLess]
    by_cases h1 : a < b
    · have : a ≠ b := fun e => by rw [e] at h1; exact absurd h1 (by simp)
      simp [h1, this]
    · by_cases h2 : a = b
      · subst h2
        simp only [h1, decide_false, Bool.false_or, beq_self_eq_true, Bool.true_and]
        rw [ih]; simp
      · have : (a == b) = false := by simp [h2]
        simp [h1, h2, this]
theorem in_zero (x q : Bs) : Space.inB x q (q ++ [0]) = decide (x = q) := by
  have : (q ++ [0] : Bs) ≠ [] := by simp
  rw [← less_zero, Space.inB, Space.selP, decide_eq_false this, Bool.false_or]
theorem win_in (s : Sp) (x : Bs) : Space.inB x s.f s.t = winB s x := rfl
open Space (Spc It RiseL sinceS) in
theorem stale_law {S : Spc} (hr : RiseL S.L) (k : List Bs) (l : List Sp) (t : Int) : staleB k l (fun a b => sinceS S a b t) = S.L.any fun p => coversB k l p.1 && sinceS S p.1 (p.1 ++ [0]) t := by
  cases hc : checkB k l with
  | false => simp [staleB, coversB, hc]
  | true =>
    rw [staleB, hc, Bool.true_and]
    refine Bool.eq_iff_iff.2 ?_
    simp only [Bool.or_eq_true, List.any_eq_true, Bool.and_eq_true, covers_eq hc, decide_eq_true_eq, Space.sinceS_eq hr, in_zero, win_in]
    constructor
    · rintro (⟨q, hq, p, hp, e, hs⟩ | ⟨s, hs, p, hp, hw, hv⟩)
      · exact ⟨p, hp, .inl (by rw [e]; exact hq), p, hp, rfl, hs⟩
      · exact ⟨p, hp, .inr (List.any_eq_true.2 ⟨s, hs, hw⟩), p, hp, rfl, hv⟩
    · rintro ⟨p, hp, h1, p2, hp2, e, hv⟩
      rcases h1 with h1 | h1
      · exact .inl ⟨p.1, h1, p2, hp2, e, hv⟩
      · obtain ⟨s, hs, hw⟩ := List.any_eq_true.1 h1
        exact .inr ⟨s, hs, p2, hp2, by rw [e]; exact hw, hv⟩
end Go.Proofs.Ytpehfflehebmbaa.Reads
end
section
set_option linter.unusedSimpArgs false
set_option linter.unusedVariables false
set_option maxRecDepth 10000
namespace Go.Proofs.Ytpehfflehebmbaa.Reads
open Go Go.Av Go.Proofs Go.Proofs.Ytpehfflehebmbaa.C Go.Proofs.Ytpehfflehebmbaa.Batch
theorem stale_nil (k : List Bs) (l : List Sp) : staleB k l (fun _ _ => false) = false := by
  unfold staleB
  have h1 : (k.any fun q => (fun _ _ : Bs => false) q (q ++ [0])) = false := by rw [List.any_eq_false]; simp
  have h2 : (l.any fun s => (fun _ _ : Bs => false) s.f s.t) = false := by rw [List.any_eq_false]; simp
  rw [h1, h2]; simp
theorem none_of {F : Fr} {A : List Fr} {j : Nat} (h : lay A j = none) (hF : F ∈ A) : F.o j = none := lay_none.1 h F hF
set_option maxHeartbeats 4000000 in
theorem meet_p (k : List Bs) (l : List Sp) (hk0 : ∀ s ∈ k, s.length ≤ 140737488351232) (hl0 : ∀ s ∈ l, s.f.length ≤ 140737488351232 ∧ s.t.length ≤ 140737488351232) (q : Bs) (hq : q.length ≤ 140737488351232) (cs : List Ch) (hcs : ∀ c ∈ cs, c.k.length ≤ 140737488351232) (hcl : cs.length ≤ 35184372088832) (items : List Space.It) (hil : items.length ≤ 35184372088832) (hiv : ∀ p ∈ items, p.2.length ≤ 4398046511104) (t : Int) :
    PCalls Try.prog 11 [encR k l, .str q, .sl 3 (chs cs) .any, .sl 2 (items.map Space.encI) .any, .int .i64 t] (.bool true) := by
  refine f11.pcalls0 (by simp) (by simp [allPure, isPure, capPure, encR_pure, chs_pure, Space.its_pure]) rfl ?_
  unfold c11
  have hL := lives_p
  have hfw := few_p k l
  unfold encR at hfw
  have hin : (items.map Space.encI).length = items.length := by simp
  have hk : LsK k := LsK.of fun s hs => by have := hk0 s hs; unfold Ls; omega
  have hl : LsS l := LsS.of fun s hs => by have := hl0 s hs; unfold Ls; omega
  have hq2 : Ls q := by unfold Ls; omega
  cases hf : fewB k l with
  | false =>
    rw [hf] at hfw
    repeat (first
      | ((first | apply Wp.seqItemsR | apply Wp.itemsR | ((first
          | (refine WpItems.pcall ?_ ?_ (hfw) ?_; (· simp only [go_sem, reduceIte, Nat.reduceEqDiff, Nat.reduceAdd, bx]); (· simp only [go_sem, reduceIte, Nat.reduceEqDiff, Nat.reduceAdd, bx, List.map]; first | exact VSubs.refl _ | (repeat (first | exact VSubs.nil | refine VSubs.cons (by first | exact VSub.refl _ | assumption | exact VSub.cap | exact VSub.any _) ?_))))
          | (refine WpItems.pcall ?_ ?_ (hL) ?_; (· simp only [go_sem, reduceIte, Nat.reduceEqDiff, Nat.reduceAdd, bx]); (· simp only [go_sem, reduceIte, Nat.reduceEqDiff, Nat.reduceAdd, bx, List.map]; first | exact VSubs.refl _ | (repeat (first | exact VSubs.nil | refine VSubs.cons (by first | exact VSub.refl _ | assumption | exact VSub.cap | exact VSub.any _) ?_))))); apply WpItems.evR)); (· simp only [go_sem, reduceIte, Nat.reduceEqDiff, Nat.reduceAdd, bx, ax, if_true, if_false, Nat.reduceMul, Nat.reduceLeDiff, encR, hin, chs_length]; exact rfl))
      | (refine WpItems.nil ⟨?_, ?_⟩; (· first | trivial | simp [pairsQ, pairsOk, apart, ent0]))
      | (apply Wp.cond_lit; (· simp only [go_sem, reduceIte, Nat.reduceEqDiff, Nat.reduceAdd, bx, ax, if_true, if_false, Nat.reduceMul, Nat.reduceLeDiff, encR, hin, chs_length]; exact rfl); (· rfl))
      | refine Wp.skip ?_
      | refine Wp.label ?_
      | refine Wp.block ?_
      | refine Wp.exit ?_
      | refine Wp.seq ?_)
    refine Wp.ret ⟨trivial, _, rfl, ?_⟩
    simp only [go_sem, reduceIte, Nat.reduceEqDiff, Nat.reduceAdd, bx]
    exact VSub.refl _
  | true =>
  rw [hf] at hfw
  by_cases h1 : 100 < cs.length
  · have d1 : decide ((100 : Int) < (cs.length : Int)) = true := decide_eq_true (by omega)
    repeat (first
      | ((first | apply Wp.seqItemsR | apply Wp.itemsR | ((first
          | (refine WpItems.pcall ?_ ?_ (hfw) ?_; (· simp only [go_sem, reduceIte, Nat.reduceEqDiff, Nat.reduceAdd, bx]); (· simp only [go_sem, reduceIte, Nat.reduceEqDiff, Nat.reduceAdd, bx, List.map]; first | exact VSubs.refl _ | (repeat (first | exact VSubs.nil | refine VSubs.cons (by first | exact VSub.refl _ | assumption | exact VSub.cap | exact VSub.any _) ?_))))
          | (refine WpItems.pcall ?_ ?_ (hL) ?_; (· simp only [go_sem, reduceIte, Nat.reduceEqDiff, Nat.reduceAdd, bx]); (· simp only [go_sem, reduceIte, Nat.reduceEqDiff, Nat.reduceAdd, bx, List.map]; first | exact VSubs.refl _ | (repeat (first | exact VSubs.nil | refine VSubs.cons (by first | exact VSub.refl _ | assumption | exact VSub.cap | exact VSub.any _) ?_))))); apply WpItems.evR)); (· simp only [go_sem, reduceIte, Nat.reduceEqDiff, Nat.reduceAdd, bx, ax, if_true, if_false, Nat.reduceMul, Nat.reduceLeDiff, encR, hin, chs_length, d1]; exact rfl))
      | (refine WpItems.nil ⟨?_, ?_⟩; (· first | trivial | simp [pairsQ, pairsOk, apart, ent0]))
      | (apply Wp.cond_lit; (· simp only [go_sem, reduceIte, Nat.reduceEqDiff, Nat.reduceAdd, bx, ax, if_true, if_false, Nat.reduceMul, Nat.reduceLeDiff, encR, hin, chs_length, d1]; exact rfl); (· rfl))
      | refine Wp.skip ?_
      | refine Wp.label ?_
      | refine Wp.block ?_
      | refine Wp.exit ?_
      | refine Wp.seq ?_)
    refine Wp.ret ⟨trivial, _, rfl, ?_⟩
    simp only [go_sem, reduceIte, Nat.reduceEqDiff, Nat.reduceAdd, bx]
    exact VSub.refl _
  have d1 : decide ((100 : Int) < (cs.length : Int)) = false := decide_eq_false (by omega)
  by_cases h2 : 100 < items.length
  · have d2 : decide ((100 : Int) < (items.length : Int)) = true := decide_eq_true (by omega)
    repeat (first
      | ((first | apply Wp.seqItemsR | apply Wp.itemsR | ((first
          | (refine WpItems.pcall ?_ ?_ (hfw) ?_; (· simp only [go_sem, reduceIte, Nat.reduceEqDiff, Nat.reduceAdd, bx]); (· simp only [go_sem, reduceIte, Nat.reduceEqDiff, Nat.reduceAdd, bx, List.map]; first | exact VSubs.refl _ | (repeat (first | exact VSubs.nil | refine VSubs.cons (by first | exact VSub.refl _ | assumption | exact VSub.cap | exact VSub.any _) ?_))))
          | (refine WpItems.pcall ?_ ?_ (hL) ?_; (· simp only [go_sem, reduceIte, Nat.reduceEqDiff, Nat.reduceAdd, bx]); (· simp only [go_sem, reduceIte, Nat.reduceEqDiff, Nat.reduceAdd, bx, List.map]; first | exact VSubs.refl _ | (repeat (first | exact VSubs.nil | refine VSubs.cons (by first | exact VSub.refl _ | assumption | exact VSub.cap | exact VSub.any _) ?_))))); apply WpItems.evR)); (· simp only [go_sem, reduceIte, Nat.reduceEqDiff, Nat.reduceAdd, bx, ax, if_true, if_false, Nat.reduceMul, Nat.reduceLeDiff, encR, hin, chs_length, d1, d2]; exact rfl))
      | (refine WpItems.nil ⟨?_, ?_⟩; (· first | trivial | simp [pairsQ, pairsOk, apart, ent0]))
      | (apply Wp.cond_lit; (· simp only [go_sem, reduceIte, Nat.reduceEqDiff, Nat.reduceAdd, bx, ax, if_true, if_false, Nat.reduceMul, Nat.reduceLeDiff, encR, hin, chs_length, d1, d2]; exact rfl); (· rfl))
      | refine Wp.skip ?_
      | refine Wp.label ?_
      | refine Wp.block ?_
      | refine Wp.exit ?_
      | refine Wp.seq ?_)
    refine Wp.ret ⟨trivial, _, rfl, ?_⟩
    simp only [go_sem, reduceIte, Nat.reduceEqDiff, Nat.reduceAdd, bx]
    exact VSub.refl _
  have d2 : decide ((100 : Int) < (items.length : Int)) = false := decide_eq_false (by omega)
  have hcov := Covers_p k l q
  have hcovR := coversR_p k l hk hl q hq2
  have hhit := Hit_p k l cs (by omega)
  have hhitR := hitR_p k l hk hl cs (by omega) fun c hc => by have := hcs c hc; unfold Ls; omega
  have hst := stale_g (t := t) (.inl rfl) rfl (fun a b => Space.no_since Space.no_nil a b t) k l fun s hs => by have := hk0 s hs; omega
  rw [stale_nil] at hst
  unfold encR at hcov hcovR hhit hhitR hst
  generalize coversB k l q = bc at *
  generalize hitB k l cs = bh at *
  repeat (first
    | ((first | apply Wp.seqItemsR | apply Wp.itemsR); (· simp only [go_sem, reduceIte, Nat.reduceEqDiff, Nat.reduceAdd, bx, ax, if_true, if_false, Nat.reduceMul, Nat.reduceLeDiff, encR]; exact rfl))
    | (refine WpItems.nil ⟨?_, ?_⟩; (· first | trivial | simp [pairsQ, pairsOk, apart, ent0]))
    | (apply Wp.cond_lit; (· simp only [go_sem, reduceIte, Nat.reduceEqDiff, Nat.reduceAdd, bx, ax, if_true, if_false, Nat.reduceMul, Nat.reduceLeDiff, encR]; exact rfl); (· rfl))
    | refine Wp.skip ?_
    | refine Wp.label ?_
    | refine Wp.block ?_
    | refine Wp.exit ?_
    | refine Wp.seq ?_)
  have e : (upd none' 0 (some (Av.Obj.cells [.sl 1 (strs k) .any, .sl 2 (sps l) .any])) : Objs) = lay [ob 0 (.cells [.sl 1 (strs k) .any, .sl 2 (sps l) .any]), fr0] := upd_new (l := [fr0])
  rw [e]
  have ok0 : Ok [ob 0 (.cells [.sl 1 (strs k) .any, .sl 2 (sps l) .any]), fr0] 1 [] 0 := Ok.more (Ok.start Ok.nil) _
  have g0 : ∀ L, lay (ob 0 (.cells [.sl 1 (strs k) .any, .sl 2 (sps l) .any]) :: L) 0 = some (.cells [.sl 1 (strs k) .any, .sl 2 (sps l) .any]) := fun L => lay_ob_at _ _ _
  repeat (first
    | ((first | apply Wp.seqItemsR | apply Wp.itemsR | ((first
        | (refine WpItems.pcall ?_ ?_ (hfw) ?_; (· simp only [go_sem, reduceIte, Nat.reduceEqDiff, Nat.reduceAdd, bx]); (· simp only [go_sem, reduceIte, Nat.reduceEqDiff, Nat.reduceAdd, bx, List.map]; first | exact VSubs.refl _ | (repeat (first | exact VSubs.nil | refine VSubs.cons (by first | exact VSub.refl _ | assumption | exact VSub.cap | exact VSub.any _) ?_))))
        | (refine WpItems.pcall ?_ ?_ (hcov) ?_; (· simp only [go_sem, reduceIte, Nat.reduceEqDiff, Nat.reduceAdd, bx]); (· simp only [go_sem, reduceIte, Nat.reduceEqDiff, Nat.reduceAdd, bx, List.map]; first | exact VSubs.refl _ | (repeat (first | exact VSubs.nil | refine VSubs.cons (by first | exact VSub.refl _ | assumption | exact VSub.cap | exact VSub.any _) ?_))))
        | (refine WpItems.pcall ?_ ?_ (hcovR) ?_; (· simp only [go_sem, reduceIte, Nat.reduceEqDiff, Nat.reduceAdd, bx]); (· simp only [go_sem, reduceIte, Nat.reduceEqDiff, Nat.reduceAdd, bx, List.map]; first | exact VSubs.refl _ | (repeat (first | exact VSubs.nil | refine VSubs.cons (by first | exact VSub.refl _ | assumption | exact VSub.cap | exact VSub.any _) ?_))))
        | (refine WpItems.pcall ?_ ?_ (hhit) ?_; (· simp only [go_sem, reduceIte, Nat.reduceEqDiff, Nat.reduceAdd, bx]); (· simp only [go_sem, reduceIte, Nat.reduceEqDiff, Nat.reduceAdd, bx, List.map]; first | exact VSubs.refl _ | (repeat (first | exact VSubs.nil | refine VSubs.cons (by first | exact VSub.refl _ | assumption | exact VSub.cap | exact VSub.any _) ?_))))
        | (refine WpItems.pcall ?_ ?_ (hhitR) ?_; (· simp only [go_sem, reduceIte, Nat.reduceEqDiff, Nat.reduceAdd, bx]); (· simp only [go_sem, reduceIte, Nat.reduceEqDiff, Nat.reduceAdd, bx, List.map]; first | exact VSubs.refl _ | (repeat (first | exact VSubs.nil | refine VSubs.cons (by first | exact VSub.refl _ | assumption | exact VSub.cap | exact VSub.any _) ?_))))); apply WpItems.evR)); (· simp only [go_sem, reduceIte, Nat.reduceEqDiff, Nat.reduceAdd, bx, ax, if_true, if_false, Nat.reduceMul, Nat.reduceLeDiff, g0, hin, chs_length, d1, d2, eqB, bne_self_eq_false, beq_self_eq_true]; exact rfl))
    | (refine WpItems.nil ⟨?_, ?_⟩; (· first | trivial | simp [pairsQ, pairsOk, apart, ent0]))
    | (apply Wp.cond_lit; (· simp only [go_sem, reduceIte, Nat.reduceEqDiff, Nat.reduceAdd, bx, ax, if_true, if_false, Nat.reduceMul, Nat.reduceLeDiff, g0, hin, chs_length, d1, d2, eqB, bne_self_eq_false, beq_self_eq_true]; exact rfl); (· rfl))
    | refine Wp.skip ?_
    | refine Wp.label ?_
    | refine Wp.block ?_
    | refine Wp.exit ?_
    | refine Wp.seq ?_)
  have hlg := Space.load_g items (by omega) hiv 1000 0
  have hlr := Space.loadR_p items (by omega) hiv 1000 0
  have d00 : decide ((0 : Int) = 0) = true := rfl
  have d40 : decide ((4 : Int) = 0) = false := rfl
  refine WpItems.gkeepI ([_]) ([]) (by simp only [go_sem, reduceIte, Nat.reduceEqDiff, Nat.reduceAdd, bx]) (by simp only [go_sem, reduceIte, Nat.reduceEqDiff, Nat.reduceAdd, bx, List.map]; first | exact VSubs.refl _ | (repeat (first | exact VSubs.nil | refine VSubs.cons (by first | exact VSub.refl _ | assumption | exact VSub.cap | exact VSub.any _) ?_))) (hst) (rfl) (ok0) fun n1 m1 ids1 hn1 hm1 hids1 ok1 => ?_
  simp only [List.cons_append, List.nil_append] at ok1 ⊢
  refine WpItems.evR (by simp only [go_sem, reduceIte, Nat.reduceEqDiff, Nat.reduceAdd, bx]; exact rfl) ?_
  refine WpItems.nil ⟨by simp [pairsQ, pairsOk, apart, ent0], ?_⟩
  cases hld : Space.ldB items 1000 0 with
  | false =>
    simp only [hld, Bool.false_eq_true, if_false, Space.encS] at hlg hlr
    repeat (first
      | ((first | apply Wp.seqItemsR | apply Wp.itemsR | ((first
          | (refine WpItems.pcall ?_ ?_ (hlr) ?_; (· simp only [go_sem, reduceIte, Nat.reduceEqDiff, Nat.reduceAdd, bx]); (· simp only [go_sem, reduceIte, Nat.reduceEqDiff, Nat.reduceAdd, bx, List.map]; first | exact VSubs.refl _ | (repeat (first | exact VSubs.nil | refine VSubs.cons (by first | exact VSub.refl _ | assumption | exact VSub.cap | exact VSub.any _) ?_))))); apply WpItems.evR)); (· simp only [go_sem, reduceIte, Nat.reduceEqDiff, Nat.reduceAdd, bx, ax, if_true, if_false, Nat.reduceMul, Nat.reduceLeDiff, g0]; exact rfl))
      | (refine WpItems.nil ⟨?_, ?_⟩; (· first | trivial | simp [pairsQ, pairsOk, apart, ent0]))
      | (apply Wp.cond_lit; (· simp only [go_sem, reduceIte, Nat.reduceEqDiff, Nat.reduceAdd, bx, ax, if_true, if_false, Nat.reduceMul, Nat.reduceLeDiff, g0]; exact rfl); (· rfl))
      | refine Wp.skip ?_
      | refine Wp.label ?_
      | refine Wp.block ?_
      | refine Wp.exit ?_
      | refine Wp.seq ?_)
    rw [upd_new, upd_ob]
    have ok2 := ok1.more (.cells [.sl 2 (([] : List Space.It).map Space.encI) .any, .int .i64 0, .int .i64 0])
    refine WpItems.gcallI [_, _, _] [] [] (by simp only [go_sem, bx]) (by simp only [go_sem, reduceIte, Nat.reduceEqDiff, List.map]; exact VSubs.refl _) hlg ok2 fun r G2 n2 T2 m2 ids2 hq2' on2 hids2 => ?_
    obtain ⟨rfl, rfl⟩ := hq2'
    simp only [List.cons_append, List.nil_append, List.append_nil] at on2 ⊢
    refine WpItems.evR (by simp only [go_sem, reduceIte, Nat.reduceEqDiff, Nat.reduceAdd, bx]; exact rfl) ?_
    repeat (first
      | ((first | apply Wp.seqItemsR | apply Wp.itemsR | ((first
          | (refine WpItems.pcall ?_ ?_ (hL) ?_; (· simp only [go_sem, reduceIte, Nat.reduceEqDiff, Nat.reduceAdd, bx]); (· simp only [go_sem, reduceIte, Nat.reduceEqDiff, Nat.reduceAdd, bx, List.map]; first | exact VSubs.refl _ | (repeat (first | exact VSubs.nil | refine VSubs.cons (by first | exact VSub.refl _ | assumption | exact VSub.cap | exact VSub.any _) ?_))))); apply WpItems.evR)); (· simp only [go_sem, reduceIte, Nat.reduceEqDiff, Nat.reduceAdd, bx, ax, if_true, if_false, Nat.reduceMul, Nat.reduceLeDiff, d40]; exact rfl))
      | (refine WpItems.nil ⟨?_, ?_⟩; (· first | trivial | simp [pairsQ, pairsOk, apart, ent0]))
      | (apply Wp.cond_lit; (· simp only [go_sem, reduceIte, Nat.reduceEqDiff, Nat.reduceAdd, bx, ax, if_true, if_false, Nat.reduceMul, Nat.reduceLeDiff, d40]; exact rfl); (· rfl))
      | refine Wp.skip ?_
      | refine Wp.label ?_
      | refine Wp.block ?_
      | refine Wp.exit ?_
      | refine Wp.seq ?_)
    refine Wp.ret ⟨trivial, _, rfl, ?_⟩
    simp only [go_sem, reduceIte, Nat.reduceEqDiff, Nat.reduceAdd, bx]
    exact VSub.refl _
  | true =>
    simp only [hld, if_true] at hlg hlr
    obtain ⟨hri, hfu⟩ := Space.ld_rise hld
    rw [Space.layL_self hri hfu] at hlg
    have hkl : ∀ p ∈ items, p.1.length ≤ 128 := fun p hp => by
      obtain ⟨i, hi, rfl⟩ := List.mem_iff_getElem.1 hp
      have := Space.ld_key (Space.ld_all hld hi)
      rwa [Av.getD_el hi] at this
    have hW : Space.Wide ⟨items, 1000, 0⟩ := ⟨by simp only; omega, fun q => Space.mget_len (k := 4398046511104) hiv q⟩
    have hsr := staleR_p k l hk hl ⟨items, 1000, 0⟩ hri hW hkl t
    rw [← stale_law (S := ⟨items, 1000, 0⟩) hri] at hsr
    unfold encR at hsr
    unfold Space.encS at hsr hlr
    repeat (first
      | ((first | apply Wp.seqItemsR | apply Wp.itemsR | ((first
          | (refine WpItems.pcall ?_ ?_ (hlr) ?_; (· simp only [go_sem, reduceIte, Nat.reduceEqDiff, Nat.reduceAdd, bx]); (· simp only [go_sem, reduceIte, Nat.reduceEqDiff, Nat.reduceAdd, bx, List.map]; first | exact VSubs.refl _ | (repeat (first | exact VSubs.nil | refine VSubs.cons (by first | exact VSub.refl _ | assumption | exact VSub.cap | exact VSub.any _) ?_))))); apply WpItems.evR)); (· simp only [go_sem, reduceIte, Nat.reduceEqDiff, Nat.reduceAdd, bx, ax, if_true, if_false, Nat.reduceMul, Nat.reduceLeDiff, g0]; exact rfl))
      | (refine WpItems.nil ⟨?_, ?_⟩; (· first | trivial | simp [pairsQ, pairsOk, apart, ent0]))
      | (apply Wp.cond_lit; (· simp only [go_sem, reduceIte, Nat.reduceEqDiff, Nat.reduceAdd, bx, ax, if_true, if_false, Nat.reduceMul, Nat.reduceLeDiff, g0]; exact rfl); (· rfl))
      | refine Wp.skip ?_
      | refine Wp.label ?_
      | refine Wp.block ?_
      | refine Wp.exit ?_
      | refine Wp.seq ?_)
    rw [upd_new, upd_ob]
    have ok2 := ok1.more (.cells [.sl 2 (items.map Space.encI) .any, .int .i64 1000, .int .i64 0])
    refine WpItems.gcallI [_, _, _] [] [] (by simp only [go_sem, bx]) (by simp only [go_sem, reduceIte, Nat.reduceEqDiff, List.map]; exact VSubs.refl _) hlg ok2 fun r G2 n2 T2 m2 ids2 hq2' on2 hids2 => ?_
    obtain ⟨s, Fs, rfl, rfl, hSF⟩ := hq2'
    simp only [List.cons_append, List.nil_append, List.append_nil] at on2 ⊢
    obtain ⟨c0, M0, K0, hM0, hsc0, hs0, hc0, hK0⟩ := hSF.go
    have hst2 := stale_g (t := t) (.inr ⟨s, rfl, by rw [hs0]; rfl⟩) hSF.k (fun a b => Space.since_g hSF hri hW a b t) k l fun s hs => by have := hk0 s hs; omega
    unfold encR at hst2
    have gm : ∀ L, lay (ob n1 (.cells [.sl 2 (items.map Space.encI) .any, .int .i64 1000, .int .i64 0]) :: L) n1 = some (.cells [.sl 2 (items.map Space.encI) .any, .int .i64 1000, .int .i64 0]) := fun L => lay_ob_at _ _ _
    have g1 : ∀ o L, lay (ob n1 o :: ob 0 (.cells [.sl 1 (strs k) .any, .sl 2 (sps l) .any]) :: L) 0 = some (.cells [.sl 1 (strs k) .any, .sl 2 (sps l) .any]) := fun o L => by
      rw [lay_ob_ne _ _ (by omega), lay_ob_at]
    have f1 : Fs.o n1 = none := none_of (Ok.alone on2.ok) (by simp)
    have f0 : Fs.o 0 = none := none_of (Ok.alone on2.ok.tail) (by simp)
    generalize staleB k l (fun a b => Space.sinceS ⟨items, 1000, 0⟩ a b t) = bs at *
    have n2g := on2.gn
    refine WpItems.evR (by simp only [go_sem, reduceIte, Nat.reduceEqDiff, Nat.reduceAdd, bx]; exact rfl) ?_
    repeat (first
      | ((first | apply Wp.seqItemsR | apply Wp.itemsR); (· simp only [go_sem, reduceIte, Nat.reduceEqDiff, Nat.reduceAdd, bx, ax, if_true, if_false, Nat.reduceMul, Nat.reduceLeDiff, d00, g1, gm]; exact rfl))
      | (refine WpItems.nil ⟨?_, ?_⟩; (· first | trivial | simp [pairsQ, pairsOk, apart, ent0]))
      | (apply Wp.cond_lit; (· simp only [go_sem, reduceIte, Nat.reduceEqDiff, Nat.reduceAdd, bx, ax, if_true, if_false, Nat.reduceMul, Nat.reduceLeDiff, d00, g1, gm]; exact rfl); (· rfl))
      | refine Wp.skip ?_
      | refine Wp.label ?_
      | refine Wp.block ?_
      | refine Wp.exit ?_
      | refine Wp.seq ?_)
    refine WpItems.gkeepI ([_, _, _]) ([]) (by simp only [go_sem, reduceIte, Nat.reduceEqDiff, Nat.reduceAdd, bx]) (by simp only [go_sem, reduceIte, Nat.reduceEqDiff, Nat.reduceAdd, bx, List.map]; first | exact VSubs.refl _ | (repeat (first | exact VSubs.nil | refine VSubs.cons (by first | exact VSub.refl _ | assumption | exact VSub.cap | exact VSub.any _) ?_))) (hst2) (hSF.k) (on2.ok) fun n3 m3 ids3 hn3 hm3 hids3 ok3 => ?_
    have i0 : ∀ id, id ∈ ids3 → ¬ id = 0 := fun id h e => by
      rcases hids3 id h with h | h
      · rw [e, f0] at h; cases h
      · omega
    have i1 : ∀ id, id ∈ ids3 → ¬ id = n1 := fun id h e => by
      rcases hids3 id h with h | h
      · rw [e, f1] at h; cases h
      · omega
    simp only [List.cons_append, List.nil_append] at ok3 ⊢
    refine WpItems.evR (by simp only [go_sem, reduceIte, Nat.reduceEqDiff, Nat.reduceAdd, bx, g1, gm, Nat.reduceLeDiff]; exact rfl) ?_
    repeat (first
      | ((first | apply Wp.seqItemsR | apply Wp.itemsR | ((first
          | (refine WpItems.pcall ?_ ?_ (hsr) ?_; (· simp only [go_sem, reduceIte, Nat.reduceEqDiff, Nat.reduceAdd, bx]); (· simp only [go_sem, reduceIte, Nat.reduceEqDiff, Nat.reduceAdd, bx, List.map]; first | exact VSubs.refl _ | (repeat (first | exact VSubs.nil | refine VSubs.cons (by first | exact VSub.refl _ | assumption | exact VSub.cap | exact VSub.any _) ?_))))
          | (refine WpItems.pcall ?_ ?_ (hL) ?_; (· simp only [go_sem, reduceIte, Nat.reduceEqDiff, Nat.reduceAdd, bx]); (· simp only [go_sem, reduceIte, Nat.reduceEqDiff, Nat.reduceAdd, bx, List.map]; first | exact VSubs.refl _ | (repeat (first | exact VSubs.nil | refine VSubs.cons (by first | exact VSub.refl _ | assumption | exact VSub.cap | exact VSub.any _) ?_))))); apply WpItems.evR)); (· simp only [go_sem, reduceIte, Nat.reduceEqDiff, Nat.reduceAdd, bx, ax, if_true, if_false, Nat.reduceMul, Nat.reduceLeDiff, d00, g1, gm, eqB, beq_self_eq_true]; exact rfl))
      | (refine WpItems.nil ⟨?_, ?_⟩; (· first | trivial | simp [pairsQ, pairsOk, apart, ent0]))
      | (apply Wp.cond_lit; (· simp only [go_sem, reduceIte, Nat.reduceEqDiff, Nat.reduceAdd, bx, ax, if_true, if_false, Nat.reduceMul, Nat.reduceLeDiff, d00, g1, gm, eqB, beq_self_eq_true]; exact rfl); (· rfl))
      | refine Wp.skip ?_
      | refine Wp.label ?_
      | refine Wp.block ?_
      | refine Wp.exit ?_
      | refine Wp.seq ?_)
    refine WpItems.nil ⟨by simp [pairsQ, pairsOk, apart, ent0]; exact ⟨i0, i1⟩, ?_⟩
    repeat (first
      | ((first | apply Wp.seqItemsR | apply Wp.itemsR); (· simp only [go_sem, reduceIte, Nat.reduceEqDiff, Nat.reduceAdd, bx, ax, if_true, if_false, Nat.reduceMul, Nat.reduceLeDiff, hin]; exact rfl))
      | (refine WpItems.nil ⟨?_, ?_⟩; (· first | trivial | simp [pairsQ, pairsOk, apart, ent0]))
      | (apply Wp.cond_lit; (· simp only [go_sem, reduceIte, Nat.reduceEqDiff, Nat.reduceAdd, bx, ax, if_true, if_false, Nat.reduceMul, Nat.reduceLeDiff, hin]; exact rfl); (· rfl))
      | refine Wp.skip ?_
      | refine Wp.label ?_
      | refine Wp.block ?_
      | refine Wp.exit ?_
      | refine Wp.seq ?_)
    refine Wp.ret ⟨trivial, _, rfl, ?_⟩
    simp only [go_sem, reduceIte, Nat.reduceEqDiff, Nat.reduceAdd, bx]
    exact VSub.refl _
theorem law_ReadsMeet {b : Nat} (avs : List AV) (h : All2 (ArgFits Try.prog 5) Try.f11.params.toList avs) (_ : bulkAs avs ≤ b) : PCalls Try.prog 11 avs (.bool true) := by
  rw [Try.params11] at h
  cases h with | cons h0 h => cases h with | cons h1 h => cases h with | cons h2 h => cases h with | cons h3 h => cases h with | cons h4 h =>
  cases h
  have e : reachBytes = 140737488351232 := rfl
  obtain ⟨k, l, rfl, hk, hl⟩ := open_reads h0
  obtain ⟨q, rfl, hq⟩ := open_str h1
  obtain ⟨cs, rfl, hcl, hcs⟩ := Space.open_changes h2
  obtain ⟨items, rfl, hil, hiv⟩ := Space.open_items h3
  obtain ⟨t, rfl, -⟩ := open_i h4
  exact meet_p k l (fun s hs => by have := hk s hs; omega) (fun s hs => by have := hl s hs; exact ⟨by have := this.1; omega, by have := this.2; omega⟩) q (by omega) cs (fun c hc => by have := (hcs c hc).1; omega) hcl items hil (fun p hp => (hiv p hp).2) t
end Go.Proofs.Ytpehfflehebmbaa.Reads
end
section
set_option linter.unusedSimpArgs false
set_option linter.unusedVariables false
namespace Go.Proofs.Ytpehfflehebmbaa.Reads
open Go Go.Av Go.Proofs Go.Proofs.Ytpehfflehebmbaa.C
open Go.ChangeShapes Go.WideShapes Go.ChangeAt Go.RowKit
set_option maxRecDepth 100000 in
theorem lifted_ReadsMeet (os : Os) (started : os.Started) (H : Type) (enc : TypeId × Value → H) :
    ReturnsInHanded {} Try.checked os 11 .any (Rows.readsMeetSpec.pre6 enc Try.prog Try.f11 Rows.readsMeetRow.domain false) (Rows.readsMeetSpec.post enc Try.prog Try.f11 false true false false) := by
  refine returnsInHanded_of_change_sized (C := Try.checked) own started (by kernel_rfl) Try.func11
    (ChangeSpec.witness6 (enc := enc) (C := Try.checked) false ⟨#[], #[.agg #[.slice none 0 0, .slice none 0 0], .string ⟨#[]⟩, .slice none 0 0, .slice none 0 0, .int .i64 0], []⟩ 8 (by kernel_rfl) (by kernel_rfl) (by kernel_rfl) (by kernel_rfl)) ?_
  intro W base args ds gs before hval hW _ hwt _
  exact calls_row laid bulk rowed full rfl (fun l hl => by match l, hl with | [_, _, _, _, _], _ => rfl) rfl Try.underlying4 (by kernel_rfl) (by kernel_rfl) hval hW hwt (fun avs h hb => law_ReadsMeet avs h hb)
theorem said_ReadsMeet : Rows.ReadsMeetSaid :=
  OpenClaim.holds_of_wide 11 Try.f11 rfl rfl rfl rfl rfl rfl rfl ⟨rfl, rfl, rfl, rfl, rfl⟩ rfl rfl rfl rfl rfl (by kernel_rfl) Try.func11 (by kernel_rfl)
    (of_decide_eq_true (by kernel_rfl)) (by unfold Func.isWrapper; first | (rw [if_pos (by decide +kernel)]; kernel_rfl) | (rw [if_neg (by decide +kernel)]; exact ⟨rfl, rfl⟩))
    (fun os started H enc _ => lifted_ReadsMeet os started H enc)
#print axioms said_ReadsMeet
end Go.Proofs.Ytpehfflehebmbaa.Reads
end
