/- ReadsMet: the statement 'ReadsMetSaid', closed by the law that the walk shows. No condition. -/
import Derived.Deep.CondSized
import Derived.IntWalk
import Derived.KernelRfl
import Derived.Laws.Append
import Derived.Laws.AppendOwn
import Derived.Laws.BytesArg
import Derived.Laws.Cover3
import Derived.Laws.Entries
import Derived.Laws.IdiomCopy
import Derived.Laws.IdiomStrings
import Derived.Laws.Pointers
import Derived.Laws.Small
import Derived.Laws.Strings
import Derived.Laws.StructEq
import Derived.MapKept
import Derived.OpenShut
import Derived.Orders
import Derived.OrdersIn
import Derived.ProofKit
import Derived.RangeFuncRecord
import Derived.RangeFuncSeq
import Derived.ReadAgain
import Derived.Scope
import Derived.Shelf.Slices.Cells
import Derived.Shelf.Slices.Delete
import Derived.Shelf.Spec.SlicesInsertGrow
import Derived.SizedLaws
import Derived.Test.YtpehfflehebmbaaRows
import Derived.Test.YtpehfflehebmbaaMhD
section
set_option linter.unusedSimpArgs false
set_option linter.unusedVariables false
set_option maxRecDepth 10000
namespace Go.Proofs.Ytpehfflehebmbaa.Space
open Go Go.Av Go.Proofs Go.Proofs.Ytpehfflehebmbaa.C Go.Proofs.Ytpehfflehebmbaa.Batch
def mayB (x : It) (ahead : Bs) (first : Bool) (last : Int) : Bool := decide ((x.1.length : Int) ≤ 128) && (first || Op.bytesLess ahead x.1) && decide (0 < x.2.length) && chB x.2 && decide ((x.2.getD 0 default).t ≤ last)
theorem may_p (x : It) (hl : x.2.length ≤ 1152921504606846976) (ahead : Bs) (first : Bool) (last : Int) : PCalls Try.prog 65 [encI x, .str ahead, .bool first, .int .i64 last] (.bool (mayB x ahead first last)) := by
  refine f65.pcalls0 (by simp) (by simp [allPure, isPure, capPure, encI, vAV, vers_pure]) rfl ?_
  unfold c65
  obtain ⟨q, vs⟩ := x
  have hck := check_p vs (by simp only at hl; omega)
  have i0 : (0 : Int) ≤ 0 := by omega
  have t0 : Int.toNat 0 = 0 := rfl
  by_cases h1 : (q.length : Int) ≤ 128
  · have d1 := decide_eq_true h1
    cases h2 : (first || Op.bytesLess ahead q) with
    | false =>
      rw [Bool.or_eq_false_iff] at h2
      repeat' (first
        | (refine WpItems.nil ⟨?_, ?_⟩; (· first | trivial | simp [pairsQ, pairsOk, apart, ent0]))
        | (apply WpItems.evU; (· simp only [go_sem, reduceIte, Nat.reduceEqDiff, Nat.reduceAdd, bx, ax, if_true, if_false, Nat.reduceMul, Nat.reduceLeDiff, encI, vAV, d1, h2.1, h2.2, List.length_map]; exact rfl); (· simp only [go_sem, reduceIte, Nat.reduceEqDiff, Nat.reduceAdd, bx, ax, if_true, if_false, Nat.reduceMul, Nat.reduceLeDiff, encI, vAV, d1, h2.1, h2.2, List.length_map]; exact rfl))
        | (apply WpItems.part 1; (· simp only [go_sem, reduceIte, Nat.reduceEqDiff, Nat.reduceAdd, bx, ax, if_true, if_false, Nat.reduceMul, Nat.reduceLeDiff, encI, vAV, d1, h2.1, h2.2, List.length_map]; exact rfl); (try simp only [List.drop_succ_cons, List.drop_zero, List.drop_nil]))
        | (refine WpItems.gsplit_dec (p := ?_) ?_ (fun hc => ?_) (fun hc => ?_); rotate_left; (· simp only [go_sem, reduceIte, Nat.reduceEqDiff, Nat.reduceAdd, bx, ax, if_true, if_false, Nat.reduceMul, Nat.reduceLeDiff, encI, vAV, d1, h2.1, h2.2, List.length_map]; exact rfl))
        | (refine WpItems.gsplit_ndec (p := ?_) ?_ (fun hc => ?_) (fun hc => ?_); rotate_left; (· simp only [go_sem, reduceIte, Nat.reduceEqDiff, Nat.reduceAdd, bx, ax, if_true, if_false, Nat.reduceMul, Nat.reduceLeDiff, encI, vAV, d1, h2.1, h2.2, List.length_map]; exact rfl))
        | (refine WpItems.gsplit (b := ?_) ?_ (fun hc => ?_) (fun hc => ?_); rotate_left; (· simp only [go_sem, reduceIte, Nat.reduceEqDiff, Nat.reduceAdd, bx, ax, if_true, if_false, Nat.reduceMul, Nat.reduceLeDiff, encI, vAV, d1, h2.1, h2.2, List.length_map]; exact rfl))
        | refine Wp.seqRegS ?_
        | refine Wp.regS ?_
        | (refine Wp.cond_true ?_ ?_; (· simp only [go_sem, reduceIte, Nat.reduceEqDiff, Nat.reduceAdd, bx, ax, if_true, if_false, Nat.reduceMul, Nat.reduceLeDiff, encI, vAV, d1, h2.1, h2.2, List.length_map]))
        | (refine Wp.cond_false ?_ ?_; (· simp only [go_sem, reduceIte, Nat.reduceEqDiff, Nat.reduceAdd, bx, ax, if_true, if_false, Nat.reduceMul, Nat.reduceLeDiff, encI, vAV, d1, h2.1, h2.2, List.length_map]))
        | (refine Wp.cond_dec (p := ?_) ?_ (fun hc => ?_) (fun hc => ?_); rotate_left; (· simp only [go_sem, reduceIte, Nat.reduceEqDiff, Nat.reduceAdd, bx, ax, if_true, if_false, Nat.reduceMul, Nat.reduceLeDiff, encI, vAV, d1, h2.1, h2.2, List.length_map]; exact rfl))
        | (refine Wp.cond_ndec (p := ?_) ?_ (fun hc => ?_) (fun hc => ?_); rotate_left; (· simp only [go_sem, reduceIte, Nat.reduceEqDiff, Nat.reduceAdd, bx, ax, if_true, if_false, Nat.reduceMul, Nat.reduceLeDiff, encI, vAV, d1, h2.1, h2.2, List.length_map]; exact rfl))
        | (refine Wp.cond_split (b := ?_) ?_ (fun hc => ?_) (fun hc => ?_); rotate_left; (· simp only [go_sem, reduceIte, Nat.reduceEqDiff, Nat.reduceAdd, bx, ax, if_true, if_false, Nat.reduceMul, Nat.reduceLeDiff, encI, vAV, d1, h2.1, h2.2, List.length_map]; exact rfl))
        | refine Wp.skip ?_
        | refine Wp.label ?_
        | refine Wp.block ?_
        | refine Wp.exit ?_
        | refine Wp.seq ?_)
      refine Wp.ret ⟨trivial, _, rfl, ?_⟩
      simp only [go_sem, reduceIte, Nat.reduceEqDiff, Nat.reduceAdd, bx]
      simp [mayB, h2]; exact VSub.refl _
    | true =>
      cases first with
      | true =>
        cases vs with
        | nil =>
          have e1 : decide ((0 : Int) < ((0 : Nat) : Int)) = false := rfl
          repeat' (first
            | (refine WpItems.nil ⟨?_, ?_⟩; (· first | trivial | simp [pairsQ, pairsOk, apart, ent0]))
            | (apply WpItems.evU; (· simp only [go_sem, reduceIte, Nat.reduceEqDiff, Nat.reduceAdd, bx, ax, if_true, if_false, Nat.reduceMul, Nat.reduceLeDiff, encI, vAV, d1, Bool.true_or, List.map_nil, List.length_nil, e1, List.length_map]; exact rfl); (· simp only [go_sem, reduceIte, Nat.reduceEqDiff, Nat.reduceAdd, bx, ax, if_true, if_false, Nat.reduceMul, Nat.reduceLeDiff, encI, vAV, d1, Bool.true_or, List.map_nil, List.length_nil, e1, List.length_map]; exact rfl))
            | (apply WpItems.part 1; (· simp only [go_sem, reduceIte, Nat.reduceEqDiff, Nat.reduceAdd, bx, ax, if_true, if_false, Nat.reduceMul, Nat.reduceLeDiff, encI, vAV, d1, Bool.true_or, List.map_nil, List.length_nil, e1, List.length_map]; exact rfl); (try simp only [List.drop_succ_cons, List.drop_zero, List.drop_nil]))
            | (refine WpItems.gsplit_dec (p := ?_) ?_ (fun hc => ?_) (fun hc => ?_); rotate_left; (· simp only [go_sem, reduceIte, Nat.reduceEqDiff, Nat.reduceAdd, bx, ax, if_true, if_false, Nat.reduceMul, Nat.reduceLeDiff, encI, vAV, d1, Bool.true_or, List.map_nil, List.length_nil, e1, List.length_map]; exact rfl))
            | (refine WpItems.gsplit_ndec (p := ?_) ?_ (fun hc => ?_) (fun hc => ?_); rotate_left; (· simp only [go_sem, reduceIte, Nat.reduceEqDiff, Nat.reduceAdd, bx, ax, if_true, if_false, Nat.reduceMul, Nat.reduceLeDiff, encI, vAV, d1, Bool.true_or, List.map_nil, List.length_nil, e1, List.length_map]; exact rfl))
            | (refine WpItems.gsplit (b := ?_) ?_ (fun hc => ?_) (fun hc => ?_); rotate_left; (· simp only [go_sem, reduceIte, Nat.reduceEqDiff, Nat.reduceAdd, bx, ax, if_true, if_false, Nat.reduceMul, Nat.reduceLeDiff, encI, vAV, d1, Bool.true_or, List.map_nil, List.length_nil, e1, List.length_map]; exact rfl))
            | refine Wp.seqRegS ?_
            | refine Wp.regS ?_
            | (refine Wp.cond_true ?_ ?_; (· simp only [go_sem, reduceIte, Nat.reduceEqDiff, Nat.reduceAdd, bx, ax, if_true, if_false, Nat.reduceMul, Nat.reduceLeDiff, encI, vAV, d1, Bool.true_or, List.map_nil, List.length_nil, e1, List.length_map]))
            | (refine Wp.cond_false ?_ ?_; (· simp only [go_sem, reduceIte, Nat.reduceEqDiff, Nat.reduceAdd, bx, ax, if_true, if_false, Nat.reduceMul, Nat.reduceLeDiff, encI, vAV, d1, Bool.true_or, List.map_nil, List.length_nil, e1, List.length_map]))
            | (refine Wp.cond_dec (p := ?_) ?_ (fun hc => ?_) (fun hc => ?_); rotate_left; (· simp only [go_sem, reduceIte, Nat.reduceEqDiff, Nat.reduceAdd, bx, ax, if_true, if_false, Nat.reduceMul, Nat.reduceLeDiff, encI, vAV, d1, Bool.true_or, List.map_nil, List.length_nil, e1, List.length_map]; exact rfl))
            | (refine Wp.cond_ndec (p := ?_) ?_ (fun hc => ?_) (fun hc => ?_); rotate_left; (· simp only [go_sem, reduceIte, Nat.reduceEqDiff, Nat.reduceAdd, bx, ax, if_true, if_false, Nat.reduceMul, Nat.reduceLeDiff, encI, vAV, d1, Bool.true_or, List.map_nil, List.length_nil, e1, List.length_map]; exact rfl))
            | (refine Wp.cond_split (b := ?_) ?_ (fun hc => ?_) (fun hc => ?_); rotate_left; (· simp only [go_sem, reduceIte, Nat.reduceEqDiff, Nat.reduceAdd, bx, ax, if_true, if_false, Nat.reduceMul, Nat.reduceLeDiff, encI, vAV, d1, Bool.true_or, List.map_nil, List.length_nil, e1, List.length_map]; exact rfl))
            | refine Wp.skip ?_
            | refine Wp.label ?_
            | refine Wp.block ?_
            | refine Wp.exit ?_
            | refine Wp.seq ?_)
          refine Wp.ret ⟨trivial, _, rfl, ?_⟩
          simp only [go_sem, reduceIte, Nat.reduceEqDiff, Nat.reduceAdd, bx]
          simp [mayB]; exact VSub.refl _
        | cons v l =>
          have e1 : decide ((0 : Int) < ((l.length + 1 : Nat) : Int)) = true := decide_eq_true (by omega)
          have e3 : (0 : Int) < ((l.length + 1 : Nat) : Int) := by omega
          cases h3 : chB (v :: l) with
          | false =>
            have e2 : decide ((4 : Int) = 0) = false := rfl
            rw [h3] at hck
            repeat' (first
              | (refine WpItems.nil ⟨?_, ?_⟩; (· first | trivial | simp [pairsQ, pairsOk, apart, ent0]))
              | (apply WpItems.evU; (· simp only [go_sem, reduceIte, Nat.reduceEqDiff, Nat.reduceAdd, bx, ax, if_true, if_false, Nat.reduceMul, Nat.reduceLeDiff, encI, vAV, d1, Bool.true_or, List.length_map, List.length_cons, e1, e2, Bool.false_eq_true, if_false, List.length_map]; exact rfl); (· simp only [go_sem, reduceIte, Nat.reduceEqDiff, Nat.reduceAdd, bx, ax, if_true, if_false, Nat.reduceMul, Nat.reduceLeDiff, encI, vAV, d1, Bool.true_or, List.length_map, List.length_cons, e1, e2, Bool.false_eq_true, if_false, List.length_map]; exact rfl))
              | (apply WpItems.part 1; (· simp only [go_sem, reduceIte, Nat.reduceEqDiff, Nat.reduceAdd, bx, ax, if_true, if_false, Nat.reduceMul, Nat.reduceLeDiff, encI, vAV, d1, Bool.true_or, List.length_map, List.length_cons, e1, e2, Bool.false_eq_true, if_false, List.length_map]; exact rfl); (try simp only [List.drop_succ_cons, List.drop_zero, List.drop_nil]))
              | (refine WpItems.pcall ?_ ?_ (hck) ?_; (· simp only [go_sem, reduceIte, Nat.reduceEqDiff, Nat.reduceAdd, bx]); (· simp only [go_sem, reduceIte, Nat.reduceEqDiff, Nat.reduceAdd, bx, List.map, ax, if_true, if_false, Nat.reduceMul, Nat.reduceLeDiff, encI, vAV, d1, Bool.true_or, List.length_map, List.length_cons, e1, e2, Bool.false_eq_true, if_false, List.length_map]; first | exact VSubs.refl _ | (repeat (first | exact VSubs.nil | refine VSubs.cons (by first | exact VSub.refl _ | assumption | exact VSub.cap | exact VSub.any _) ?_))))
              | (refine WpItems.gsplit_dec (p := ?_) ?_ (fun hc => ?_) (fun hc => ?_); rotate_left; (· simp only [go_sem, reduceIte, Nat.reduceEqDiff, Nat.reduceAdd, bx, ax, if_true, if_false, Nat.reduceMul, Nat.reduceLeDiff, encI, vAV, d1, Bool.true_or, List.length_map, List.length_cons, e1, e2, Bool.false_eq_true, if_false, List.length_map]; exact rfl))
              | (refine WpItems.gsplit_ndec (p := ?_) ?_ (fun hc => ?_) (fun hc => ?_); rotate_left; (· simp only [go_sem, reduceIte, Nat.reduceEqDiff, Nat.reduceAdd, bx, ax, if_true, if_false, Nat.reduceMul, Nat.reduceLeDiff, encI, vAV, d1, Bool.true_or, List.length_map, List.length_cons, e1, e2, Bool.false_eq_true, if_false, List.length_map]; exact rfl))
              | (refine WpItems.gsplit (b := ?_) ?_ (fun hc => ?_) (fun hc => ?_); rotate_left; (· simp only [go_sem, reduceIte, Nat.reduceEqDiff, Nat.reduceAdd, bx, ax, if_true, if_false, Nat.reduceMul, Nat.reduceLeDiff, encI, vAV, d1, Bool.true_or, List.length_map, List.length_cons, e1, e2, Bool.false_eq_true, if_false, List.length_map]; exact rfl))
              | refine Wp.seqRegS ?_
              | refine Wp.regS ?_
              | (refine Wp.cond_true ?_ ?_; (· simp only [go_sem, reduceIte, Nat.reduceEqDiff, Nat.reduceAdd, bx, ax, if_true, if_false, Nat.reduceMul, Nat.reduceLeDiff, encI, vAV, d1, Bool.true_or, List.length_map, List.length_cons, e1, e2, Bool.false_eq_true, if_false, List.length_map]))
              | (refine Wp.cond_false ?_ ?_; (· simp only [go_sem, reduceIte, Nat.reduceEqDiff, Nat.reduceAdd, bx, ax, if_true, if_false, Nat.reduceMul, Nat.reduceLeDiff, encI, vAV, d1, Bool.true_or, List.length_map, List.length_cons, e1, e2, Bool.false_eq_true, if_false, List.length_map]))
              | (refine Wp.cond_dec (p := ?_) ?_ (fun hc => ?_) (fun hc => ?_); rotate_left; (· simp only [go_sem, reduceIte, Nat.reduceEqDiff, Nat.reduceAdd, bx, ax, if_true, if_false, Nat.reduceMul, Nat.reduceLeDiff, encI, vAV, d1, Bool.true_or, List.length_map, List.length_cons, e1, e2, Bool.false_eq_true, if_false, List.length_map]; exact rfl))
              | (refine Wp.cond_ndec (p := ?_) ?_ (fun hc => ?_) (fun hc => ?_); rotate_left; (· simp only [go_sem, reduceIte, Nat.reduceEqDiff, Nat.reduceAdd, bx, ax, if_true, if_false, Nat.reduceMul, Nat.reduceLeDiff, encI, vAV, d1, Bool.true_or, List.length_map, List.length_cons, e1, e2, Bool.false_eq_true, if_false, List.length_map]; exact rfl))
              | (refine Wp.cond_split (b := ?_) ?_ (fun hc => ?_) (fun hc => ?_); rotate_left; (· simp only [go_sem, reduceIte, Nat.reduceEqDiff, Nat.reduceAdd, bx, ax, if_true, if_false, Nat.reduceMul, Nat.reduceLeDiff, encI, vAV, d1, Bool.true_or, List.length_map, List.length_cons, e1, e2, Bool.false_eq_true, if_false, List.length_map]; exact rfl))
              | refine Wp.skip ?_
              | refine Wp.label ?_
              | refine Wp.block ?_
              | refine Wp.exit ?_
              | refine Wp.seq ?_)
            refine Wp.ret ⟨trivial, _, rfl, ?_⟩
            simp only [go_sem, reduceIte, Nat.reduceEqDiff, Nat.reduceAdd, bx]
            simp [mayB, h3]; exact VSub.refl _
          | true =>
            have e2 : decide ((0 : Int) = 0) = true := rfl
            rw [h3] at hck
            repeat' (first
              | (refine WpItems.nil ⟨?_, ?_⟩; (· first | trivial | simp [pairsQ, pairsOk, apart, ent0]))
              | (apply WpItems.evU; (· simp only [go_sem, reduceIte, Nat.reduceEqDiff, Nat.reduceAdd, bx, ax, if_true, if_false, Nat.reduceMul, Nat.reduceLeDiff, encI, vAV, d1, Bool.true_or, List.length_map, List.length_cons, e1, e2, e3, i0, t0, List.map_cons, List.getD_cons_zero, encV, if_true, List.length_map]; exact rfl); (· simp only [go_sem, reduceIte, Nat.reduceEqDiff, Nat.reduceAdd, bx, ax, if_true, if_false, Nat.reduceMul, Nat.reduceLeDiff, encI, vAV, d1, Bool.true_or, List.length_map, List.length_cons, e1, e2, e3, i0, t0, List.map_cons, List.getD_cons_zero, encV, if_true, List.length_map]; exact rfl))
              | (apply WpItems.part 1; (· simp only [go_sem, reduceIte, Nat.reduceEqDiff, Nat.reduceAdd, bx, ax, if_true, if_false, Nat.reduceMul, Nat.reduceLeDiff, encI, vAV, d1, Bool.true_or, List.length_map, List.length_cons, e1, e2, e3, i0, t0, List.map_cons, List.getD_cons_zero, encV, if_true, List.length_map]; exact rfl); (try simp only [List.drop_succ_cons, List.drop_zero, List.drop_nil]))
              | (refine WpItems.pcall ?_ ?_ (hck) ?_; (· simp only [go_sem, reduceIte, Nat.reduceEqDiff, Nat.reduceAdd, bx]); (· simp only [go_sem, reduceIte, Nat.reduceEqDiff, Nat.reduceAdd, bx, List.map, ax, if_true, if_false, Nat.reduceMul, Nat.reduceLeDiff, encI, vAV, d1, Bool.true_or, List.length_map, List.length_cons, e1, e2, e3, i0, t0, List.map_cons, List.getD_cons_zero, encV, if_true, List.length_map]; first | exact VSubs.refl _ | (repeat (first | exact VSubs.nil | refine VSubs.cons (by first | exact VSub.refl _ | assumption | exact VSub.cap | exact VSub.any _) ?_))))
              | (refine WpItems.gsplit_dec (p := ?_) ?_ (fun hc => ?_) (fun hc => ?_); rotate_left; (· simp only [go_sem, reduceIte, Nat.reduceEqDiff, Nat.reduceAdd, bx, ax, if_true, if_false, Nat.reduceMul, Nat.reduceLeDiff, encI, vAV, d1, Bool.true_or, List.length_map, List.length_cons, e1, e2, e3, i0, t0, List.map_cons, List.getD_cons_zero, encV, if_true, List.length_map]; exact rfl))
              | (refine WpItems.gsplit_ndec (p := ?_) ?_ (fun hc => ?_) (fun hc => ?_); rotate_left; (· simp only [go_sem, reduceIte, Nat.reduceEqDiff, Nat.reduceAdd, bx, ax, if_true, if_false, Nat.reduceMul, Nat.reduceLeDiff, encI, vAV, d1, Bool.true_or, List.length_map, List.length_cons, e1, e2, e3, i0, t0, List.map_cons, List.getD_cons_zero, encV, if_true, List.length_map]; exact rfl))
              | (refine WpItems.gsplit (b := ?_) ?_ (fun hc => ?_) (fun hc => ?_); rotate_left; (· simp only [go_sem, reduceIte, Nat.reduceEqDiff, Nat.reduceAdd, bx, ax, if_true, if_false, Nat.reduceMul, Nat.reduceLeDiff, encI, vAV, d1, Bool.true_or, List.length_map, List.length_cons, e1, e2, e3, i0, t0, List.map_cons, List.getD_cons_zero, encV, if_true, List.length_map]; exact rfl))
              | refine Wp.seqRegS ?_
              | refine Wp.regS ?_
              | (refine Wp.cond_true ?_ ?_; (· simp only [go_sem, reduceIte, Nat.reduceEqDiff, Nat.reduceAdd, bx, ax, if_true, if_false, Nat.reduceMul, Nat.reduceLeDiff, encI, vAV, d1, Bool.true_or, List.length_map, List.length_cons, e1, e2, e3, i0, t0, List.map_cons, List.getD_cons_zero, encV, if_true, List.length_map]))
              | (refine Wp.cond_false ?_ ?_; (· simp only [go_sem, reduceIte, Nat.reduceEqDiff, Nat.reduceAdd, bx, ax, if_true, if_false, Nat.reduceMul, Nat.reduceLeDiff, encI, vAV, d1, Bool.true_or, List.length_map, List.length_cons, e1, e2, e3, i0, t0, List.map_cons, List.getD_cons_zero, encV, if_true, List.length_map]))
              | (refine Wp.cond_dec (p := ?_) ?_ (fun hc => ?_) (fun hc => ?_); rotate_left; (· simp only [go_sem, reduceIte, Nat.reduceEqDiff, Nat.reduceAdd, bx, ax, if_true, if_false, Nat.reduceMul, Nat.reduceLeDiff, encI, vAV, d1, Bool.true_or, List.length_map, List.length_cons, e1, e2, e3, i0, t0, List.map_cons, List.getD_cons_zero, encV, if_true, List.length_map]; exact rfl))
              | (refine Wp.cond_ndec (p := ?_) ?_ (fun hc => ?_) (fun hc => ?_); rotate_left; (· simp only [go_sem, reduceIte, Nat.reduceEqDiff, Nat.reduceAdd, bx, ax, if_true, if_false, Nat.reduceMul, Nat.reduceLeDiff, encI, vAV, d1, Bool.true_or, List.length_map, List.length_cons, e1, e2, e3, i0, t0, List.map_cons, List.getD_cons_zero, encV, if_true, List.length_map]; exact rfl))
              | (refine Wp.cond_split (b := ?_) ?_ (fun hc => ?_) (fun hc => ?_); rotate_left; (· simp only [go_sem, reduceIte, Nat.reduceEqDiff, Nat.reduceAdd, bx, ax, if_true, if_false, Nat.reduceMul, Nat.reduceLeDiff, encI, vAV, d1, Bool.true_or, List.length_map, List.length_cons, e1, e2, e3, i0, t0, List.map_cons, List.getD_cons_zero, encV, if_true, List.length_map]; exact rfl))
              | refine Wp.skip ?_
              | refine Wp.label ?_
              | refine Wp.block ?_
              | refine Wp.exit ?_
              | refine Wp.seq ?_)
            refine Wp.ret ⟨trivial, _, rfl, ?_⟩
            simp only [go_sem, reduceIte, Nat.reduceEqDiff, Nat.reduceAdd, bx]
            simp [mayB, h1, h3, h2]; exact VSub.refl _
      | false =>
        rw [Bool.false_or] at h2
        cases vs with
        | nil =>
          have e1 : decide ((0 : Int) < ((0 : Nat) : Int)) = false := rfl
          repeat' (first
            | (refine WpItems.nil ⟨?_, ?_⟩; (· first | trivial | simp [pairsQ, pairsOk, apart, ent0]))
            | (apply WpItems.evU; (· simp only [go_sem, reduceIte, Nat.reduceEqDiff, Nat.reduceAdd, bx, ax, if_true, if_false, Nat.reduceMul, Nat.reduceLeDiff, encI, vAV, d1, h2, List.map_nil, List.length_nil, e1, List.length_map]; exact rfl); (· simp only [go_sem, reduceIte, Nat.reduceEqDiff, Nat.reduceAdd, bx, ax, if_true, if_false, Nat.reduceMul, Nat.reduceLeDiff, encI, vAV, d1, h2, List.map_nil, List.length_nil, e1, List.length_map]; exact rfl))
            | (apply WpItems.part 1; (· simp only [go_sem, reduceIte, Nat.reduceEqDiff, Nat.reduceAdd, bx, ax, if_true, if_false, Nat.reduceMul, Nat.reduceLeDiff, encI, vAV, d1, h2, List.map_nil, List.length_nil, e1, List.length_map]; exact rfl); (try simp only [List.drop_succ_cons, List.drop_zero, List.drop_nil]))
            | (refine WpItems.gsplit_dec (p := ?_) ?_ (fun hc => ?_) (fun hc => ?_); rotate_left; (· simp only [go_sem, reduceIte, Nat.reduceEqDiff, Nat.reduceAdd, bx, ax, if_true, if_false, Nat.reduceMul, Nat.reduceLeDiff, encI, vAV, d1, h2, List.map_nil, List.length_nil, e1, List.length_map]; exact rfl))
            | (refine WpItems.gsplit_ndec (p := ?_) ?_ (fun hc => ?_) (fun hc => ?_); rotate_left; (· simp only [go_sem, reduceIte, Nat.reduceEqDiff, Nat.reduceAdd, bx, ax, if_true, if_false, Nat.reduceMul, Nat.reduceLeDiff, encI, vAV, d1, h2, List.map_nil, List.length_nil, e1, List.length_map]; exact rfl))
            | (refine WpItems.gsplit (b := ?_) ?_ (fun hc => ?_) (fun hc => ?_); rotate_left; (· simp only [go_sem, reduceIte, Nat.reduceEqDiff, Nat.reduceAdd, bx, ax, if_true, if_false, Nat.reduceMul, Nat.reduceLeDiff, encI, vAV, d1, h2, List.map_nil, List.length_nil, e1, List.length_map]; exact rfl))
            | refine Wp.seqRegS ?_
            | refine Wp.regS ?_
            | (refine Wp.cond_true ?_ ?_; (· simp only [go_sem, reduceIte, Nat.reduceEqDiff, Nat.reduceAdd, bx, ax, if_true, if_false, Nat.reduceMul, Nat.reduceLeDiff, encI, vAV, d1, h2, List.map_nil, List.length_nil, e1, List.length_map]))
            | (refine Wp.cond_false ?_ ?_; (· simp only [go_sem, reduceIte, Nat.reduceEqDiff, Nat.reduceAdd, bx, ax, if_true, if_false, Nat.reduceMul, Nat.reduceLeDiff, encI, vAV, d1, h2, List.map_nil, List.length_nil, e1, List.length_map]))
            | (refine Wp.cond_dec (p := ?_) ?_ (fun hc => ?_) (fun hc => ?_); rotate_left; (· simp only [go_sem, reduceIte, Nat.reduceEqDiff, Nat.reduceAdd, bx, ax, if_true, if_false, Nat.reduceMul, Nat.reduceLeDiff, encI, vAV, d1, h2, List.map_nil, List.length_nil, e1, List.length_map]; exact rfl))
            | (refine Wp.cond_ndec (p := ?_) ?_ (fun hc => ?_) (fun hc => ?_); rotate_left; (· simp only [go_sem, reduceIte, Nat.reduceEqDiff, Nat.reduceAdd, bx, ax, if_true, if_false, Nat.reduceMul, Nat.reduceLeDiff, encI, vAV, d1, h2, List.map_nil, List.length_nil, e1, List.length_map]; exact rfl))
            | (refine Wp.cond_split (b := ?_) ?_ (fun hc => ?_) (fun hc => ?_); rotate_left; (· simp only [go_sem, reduceIte, Nat.reduceEqDiff, Nat.reduceAdd, bx, ax, if_true, if_false, Nat.reduceMul, Nat.reduceLeDiff, encI, vAV, d1, h2, List.map_nil, List.length_nil, e1, List.length_map]; exact rfl))
            | refine Wp.skip ?_
            | refine Wp.label ?_
            | refine Wp.block ?_
            | refine Wp.exit ?_
            | refine Wp.seq ?_)
          refine Wp.ret ⟨trivial, _, rfl, ?_⟩
          simp only [go_sem, reduceIte, Nat.reduceEqDiff, Nat.reduceAdd, bx]
          simp [mayB]; exact VSub.refl _
        | cons v l =>
          have e1 : decide ((0 : Int) < ((l.length + 1 : Nat) : Int)) = true := decide_eq_true (by omega)
          have e3 : (0 : Int) < ((l.length + 1 : Nat) : Int) := by omega
          cases h3 : chB (v :: l) with
          | false =>
            have e2 : decide ((4 : Int) = 0) = false := rfl
            rw [h3] at hck
            repeat' (first
              | (refine WpItems.nil ⟨?_, ?_⟩; (· first | trivial | simp [pairsQ, pairsOk, apart, ent0]))
              | (apply WpItems.evU; (· simp only [go_sem, reduceIte, Nat.reduceEqDiff, Nat.reduceAdd, bx, ax, if_true, if_false, Nat.reduceMul, Nat.reduceLeDiff, encI, vAV, d1, h2, List.length_map, List.length_cons, e1, e2, Bool.false_eq_true, if_false, List.length_map]; exact rfl); (· simp only [go_sem, reduceIte, Nat.reduceEqDiff, Nat.reduceAdd, bx, ax, if_true, if_false, Nat.reduceMul, Nat.reduceLeDiff, encI, vAV, d1, h2, List.length_map, List.length_cons, e1, e2, Bool.false_eq_true, if_false, List.length_map]; exact rfl))
              | (apply WpItems.part 1; (· simp only [go_sem, reduceIte, Nat.reduceEqDiff, Nat.reduceAdd, bx, ax, if_true, if_false, Nat.reduceMul, Nat.reduceLeDiff, encI, vAV, d1, h2, List.length_map, List.length_cons, e1, e2, Bool.false_eq_true, if_false, List.length_map]; exact rfl); (try simp only [List.drop_succ_cons, List.drop_zero, List.drop_nil]))
              | (refine WpItems.pcall ?_ ?_ (hck) ?_; (· simp only [go_sem, reduceIte, Nat.reduceEqDiff, Nat.reduceAdd, bx]); (· simp only [go_sem, reduceIte, Nat.reduceEqDiff, Nat.reduceAdd, bx, List.map, ax, if_true, if_false, Nat.reduceMul, Nat.reduceLeDiff, encI, vAV, d1, h2, List.length_map, List.length_cons, e1, e2, Bool.false_eq_true, if_false, List.length_map]; first | exact VSubs.refl _ | (repeat (first | exact VSubs.nil | refine VSubs.cons (by first | exact VSub.refl _ | assumption | exact VSub.cap | exact VSub.any _) ?_))))
              | (refine WpItems.gsplit_dec (p := ?_) ?_ (fun hc => ?_) (fun hc => ?_); rotate_left; (· simp only [go_sem, reduceIte, Nat.reduceEqDiff, Nat.reduceAdd, bx, ax, if_true, if_false, Nat.reduceMul, Nat.reduceLeDiff, encI, vAV, d1, h2, List.length_map, List.length_cons, e1, e2, Bool.false_eq_true, if_false, List.length_map]; exact rfl))
              | (refine WpItems.gsplit_ndec (p := ?_) ?_ (fun hc => ?_) (fun hc => ?_); rotate_left; (· simp only [go_sem, reduceIte, Nat.reduceEqDiff, Nat.reduceAdd, bx, ax, if_true, if_false, Nat.reduceMul, Nat.reduceLeDiff, encI, vAV, d1, h2, List.length_map, List.length_cons, e1, e2, Bool.false_eq_true, if_false, List.length_map]; exact rfl))
              | (refine WpItems.gsplit (b := ?_) ?_ (fun hc => ?_) (fun hc => ?_); rotate_left; (· simp only [go_sem, reduceIte, Nat.reduceEqDiff, Nat.reduceAdd, bx, ax, if_true, if_false, Nat.reduceMul, Nat.reduceLeDiff, encI, vAV, d1, h2, List.length_map, List.length_cons, e1, e2, Bool.false_eq_true, if_false, List.length_map]; exact rfl))
              | refine Wp.seqRegS ?_
              | refine Wp.regS ?_
              | (refine Wp.cond_true ?_ ?_; (· simp only [go_sem, reduceIte, Nat.reduceEqDiff, Nat.reduceAdd, bx, ax, if_true, if_false, Nat.reduceMul, Nat.reduceLeDiff, encI, vAV, d1, h2, List.length_map, List.length_cons, e1, e2, Bool.false_eq_true, if_false, List.length_map]))
              | (refine Wp.cond_false ?_ ?_; (· simp only [go_sem, reduceIte, Nat.reduceEqDiff, Nat.reduceAdd, bx, ax, if_true, if_false, Nat.reduceMul, Nat.reduceLeDiff, encI, vAV, d1, h2, List.length_map, List.length_cons, e1, e2, Bool.false_eq_true, if_false, List.length_map]))
              | (refine Wp.cond_dec (p := ?_) ?_ (fun hc => ?_) (fun hc => ?_); rotate_left; (· simp only [go_sem, reduceIte, Nat.reduceEqDiff, Nat.reduceAdd, bx, ax, if_true, if_false, Nat.reduceMul, Nat.reduceLeDiff, encI, vAV, d1, h2, List.length_map, List.length_cons, e1, e2, Bool.false_eq_true, if_false, List.length_map]; exact rfl))
              | (refine Wp.cond_ndec (p := ?_) ?_ (fun hc => ?_) (fun hc => ?_); rotate_left; (· simp only [go_sem, reduceIte, Nat.reduceEqDiff, Nat.reduceAdd, bx, ax, if_true, if_false, Nat.reduceMul, Nat.reduceLeDiff, encI, vAV, d1, h2, List.length_map, List.length_cons, e1, e2, Bool.false_eq_true, if_false, List.length_map]; exact rfl))
              | (refine Wp.cond_split (b := ?_) ?_ (fun hc => ?_) (fun hc => ?_); rotate_left; (· simp only [go_sem, reduceIte, Nat.reduceEqDiff, Nat.reduceAdd, bx, ax, if_true, if_false, Nat.reduceMul, Nat.reduceLeDiff, encI, vAV, d1, h2, List.length_map, List.length_cons, e1, e2, Bool.false_eq_true, if_false, List.length_map]; exact rfl))
              | refine Wp.skip ?_
              | refine Wp.label ?_
              | refine Wp.block ?_
              | refine Wp.exit ?_
              | refine Wp.seq ?_)
            refine Wp.ret ⟨trivial, _, rfl, ?_⟩
            simp only [go_sem, reduceIte, Nat.reduceEqDiff, Nat.reduceAdd, bx]
            simp [mayB, h3]; exact VSub.refl _
          | true =>
            have e2 : decide ((0 : Int) = 0) = true := rfl
            rw [h3] at hck
            repeat' (first
              | (refine WpItems.nil ⟨?_, ?_⟩; (· first | trivial | simp [pairsQ, pairsOk, apart, ent0]))
              | (apply WpItems.evU; (· simp only [go_sem, reduceIte, Nat.reduceEqDiff, Nat.reduceAdd, bx, ax, if_true, if_false, Nat.reduceMul, Nat.reduceLeDiff, encI, vAV, d1, h2, List.length_map, List.length_cons, e1, e2, e3, i0, t0, List.map_cons, List.getD_cons_zero, encV, if_true, List.length_map]; exact rfl); (· simp only [go_sem, reduceIte, Nat.reduceEqDiff, Nat.reduceAdd, bx, ax, if_true, if_false, Nat.reduceMul, Nat.reduceLeDiff, encI, vAV, d1, h2, List.length_map, List.length_cons, e1, e2, e3, i0, t0, List.map_cons, List.getD_cons_zero, encV, if_true, List.length_map]; exact rfl))
              | (apply WpItems.part 1; (· simp only [go_sem, reduceIte, Nat.reduceEqDiff, Nat.reduceAdd, bx, ax, if_true, if_false, Nat.reduceMul, Nat.reduceLeDiff, encI, vAV, d1, h2, List.length_map, List.length_cons, e1, e2, e3, i0, t0, List.map_cons, List.getD_cons_zero, encV, if_true, List.length_map]; exact rfl); (try simp only [List.drop_succ_cons, List.drop_zero, List.drop_nil]))
              | (refine WpItems.pcall ?_ ?_ (hck) ?_; (· simp only [go_sem, reduceIte, Nat.reduceEqDiff, Nat.reduceAdd, bx]); (· simp only [go_sem, reduceIte, Nat.reduceEqDiff, Nat.reduceAdd, bx, List.map, ax, if_true, if_false, Nat.reduceMul, Nat.reduceLeDiff, encI, vAV, d1, h2, List.length_map, List.length_cons, e1, e2, e3, i0, t0, List.map_cons, List.getD_cons_zero, encV, if_true, List.length_map]; first | exact VSubs.refl _ | (repeat (first | exact VSubs.nil | refine VSubs.cons (by first | exact VSub.refl _ | assumption | exact VSub.cap | exact VSub.any _) ?_))))
              | (refine WpItems.gsplit_dec (p := ?_) ?_ (fun hc => ?_) (fun hc => ?_); rotate_left; (· simp only [go_sem, reduceIte, Nat.reduceEqDiff, Nat.reduceAdd, bx, ax, if_true, if_false, Nat.reduceMul, Nat.reduceLeDiff, encI, vAV, d1, h2, List.length_map, List.length_cons, e1, e2, e3, i0, t0, List.map_cons, List.getD_cons_zero, encV, if_true, List.length_map]; exact rfl))
              | (refine WpItems.gsplit_ndec (p := ?_) ?_ (fun hc => ?_) (fun hc => ?_); rotate_left; (· simp only [go_sem, reduceIte, Nat.reduceEqDiff, Nat.reduceAdd, bx, ax, if_true, if_false, Nat.reduceMul, Nat.reduceLeDiff, encI, vAV, d1, h2, List.length_map, List.length_cons, e1, e2, e3, i0, t0, List.map_cons, List.getD_cons_zero, encV, if_true, List.length_map]; exact rfl))
              | (refine WpItems.gsplit (b := ?_) ?_ (fun hc => ?_) (fun hc => ?_); rotate_left; (· simp only [go_sem, reduceIte, Nat.reduceEqDiff, Nat.reduceAdd, bx, ax, if_true, if_false, Nat.reduceMul, Nat.reduceLeDiff, encI, vAV, d1, h2, List.length_map, List.length_cons, e1, e2, e3, i0, t0, List.map_cons, List.getD_cons_zero, encV, if_true, List.length_map]; exact rfl))
              | refine Wp.seqRegS ?_
              | refine Wp.regS ?_
              | (refine Wp.cond_true ?_ ?_; (· simp only [go_sem, reduceIte, Nat.reduceEqDiff, Nat.reduceAdd, bx, ax, if_true, if_false, Nat.reduceMul, Nat.reduceLeDiff, encI, vAV, d1, h2, List.length_map, List.length_cons, e1, e2, e3, i0, t0, List.map_cons, List.getD_cons_zero, encV, if_true, List.length_map]))
              | (refine Wp.cond_false ?_ ?_; (· simp only [go_sem, reduceIte, Nat.reduceEqDiff, Nat.reduceAdd, bx, ax, if_true, if_false, Nat.reduceMul, Nat.reduceLeDiff, encI, vAV, d1, h2, List.length_map, List.length_cons, e1, e2, e3, i0, t0, List.map_cons, List.getD_cons_zero, encV, if_true, List.length_map]))
              | (refine Wp.cond_dec (p := ?_) ?_ (fun hc => ?_) (fun hc => ?_); rotate_left; (· simp only [go_sem, reduceIte, Nat.reduceEqDiff, Nat.reduceAdd, bx, ax, if_true, if_false, Nat.reduceMul, Nat.reduceLeDiff, encI, vAV, d1, h2, List.length_map, List.length_cons, e1, e2, e3, i0, t0, List.map_cons, List.getD_cons_zero, encV, if_true, List.length_map]; exact rfl))
              | (refine Wp.cond_ndec (p := ?_) ?_ (fun hc => ?_) (fun hc => ?_); rotate_left; (· simp only [go_sem, reduceIte, Nat.reduceEqDiff, Nat.reduceAdd, bx, ax, if_true, if_false, Nat.reduceMul, Nat.reduceLeDiff, encI, vAV, d1, h2, List.length_map, List.length_cons, e1, e2, e3, i0, t0, List.map_cons, List.getD_cons_zero, encV, if_true, List.length_map]; exact rfl))
              | (refine Wp.cond_split (b := ?_) ?_ (fun hc => ?_) (fun hc => ?_); rotate_left; (· simp only [go_sem, reduceIte, Nat.reduceEqDiff, Nat.reduceAdd, bx, ax, if_true, if_false, Nat.reduceMul, Nat.reduceLeDiff, encI, vAV, d1, h2, List.length_map, List.length_cons, e1, e2, e3, i0, t0, List.map_cons, List.getD_cons_zero, encV, if_true, List.length_map]; exact rfl))
              | refine Wp.skip ?_
              | refine Wp.label ?_
              | refine Wp.block ?_
              | refine Wp.exit ?_
              | refine Wp.seq ?_)
            refine Wp.ret ⟨trivial, _, rfl, ?_⟩
            simp only [go_sem, reduceIte, Nat.reduceEqDiff, Nat.reduceAdd, bx]
            simp [mayB, h1, h3, h2]; exact VSub.refl _
  · have d1 := decide_eq_false h1
    repeat' (first
      | (refine WpItems.nil ⟨?_, ?_⟩; (· first | trivial | simp [pairsQ, pairsOk, apart, ent0]))
      | (apply WpItems.evU; (· simp only [go_sem, reduceIte, Nat.reduceEqDiff, Nat.reduceAdd, bx, ax, if_true, if_false, Nat.reduceMul, Nat.reduceLeDiff, encI, vAV, d1, List.length_map]; exact rfl); (· simp only [go_sem, reduceIte, Nat.reduceEqDiff, Nat.reduceAdd, bx, ax, if_true, if_false, Nat.reduceMul, Nat.reduceLeDiff, encI, vAV, d1, List.length_map]; exact rfl))
      | (apply WpItems.part 1; (· simp only [go_sem, reduceIte, Nat.reduceEqDiff, Nat.reduceAdd, bx, ax, if_true, if_false, Nat.reduceMul, Nat.reduceLeDiff, encI, vAV, d1, List.length_map]; exact rfl); (try simp only [List.drop_succ_cons, List.drop_zero, List.drop_nil]))
      | (refine WpItems.gsplit_dec (p := ?_) ?_ (fun hc => ?_) (fun hc => ?_); rotate_left; (· simp only [go_sem, reduceIte, Nat.reduceEqDiff, Nat.reduceAdd, bx, ax, if_true, if_false, Nat.reduceMul, Nat.reduceLeDiff, encI, vAV, d1, List.length_map]; exact rfl))
      | (refine WpItems.gsplit_ndec (p := ?_) ?_ (fun hc => ?_) (fun hc => ?_); rotate_left; (· simp only [go_sem, reduceIte, Nat.reduceEqDiff, Nat.reduceAdd, bx, ax, if_true, if_false, Nat.reduceMul, Nat.reduceLeDiff, encI, vAV, d1, List.length_map]; exact rfl))
      | (refine WpItems.gsplit (b := ?_) ?_ (fun hc => ?_) (fun hc => ?_); rotate_left; (· simp only [go_sem, reduceIte, Nat.reduceEqDiff, Nat.reduceAdd, bx, ax, if_true, if_false, Nat.reduceMul, Nat.reduceLeDiff, encI, vAV, d1, List.length_map]; exact rfl))
      | refine Wp.seqRegS ?_
      | refine Wp.regS ?_
      | (refine Wp.cond_true ?_ ?_; (· simp only [go_sem, reduceIte, Nat.reduceEqDiff, Nat.reduceAdd, bx, ax, if_true, if_false, Nat.reduceMul, Nat.reduceLeDiff, encI, vAV, d1, List.length_map]))
      | (refine Wp.cond_false ?_ ?_; (· simp only [go_sem, reduceIte, Nat.reduceEqDiff, Nat.reduceAdd, bx, ax, if_true, if_false, Nat.reduceMul, Nat.reduceLeDiff, encI, vAV, d1, List.length_map]))
      | (refine Wp.cond_dec (p := ?_) ?_ (fun hc => ?_) (fun hc => ?_); rotate_left; (· simp only [go_sem, reduceIte, Nat.reduceEqDiff, Nat.reduceAdd, bx, ax, if_true, if_false, Nat.reduceMul, Nat.reduceLeDiff, encI, vAV, d1, List.length_map]; exact rfl))
      | (refine Wp.cond_ndec (p := ?_) ?_ (fun hc => ?_) (fun hc => ?_); rotate_left; (· simp only [go_sem, reduceIte, Nat.reduceEqDiff, Nat.reduceAdd, bx, ax, if_true, if_false, Nat.reduceMul, Nat.reduceLeDiff, encI, vAV, d1, List.length_map]; exact rfl))
      | (refine Wp.cond_split (b := ?_) ?_ (fun hc => ?_) (fun hc => ?_); rotate_left; (· simp only [go_sem, reduceIte, Nat.reduceEqDiff, Nat.reduceAdd, bx, ax, if_true, if_false, Nat.reduceMul, Nat.reduceLeDiff, encI, vAV, d1, List.length_map]; exact rfl))
      | refine Wp.skip ?_
      | refine Wp.label ?_
      | refine Wp.block ?_
      | refine Wp.exit ?_
      | refine Wp.seq ?_)
    refine Wp.ret ⟨trivial, _, rfl, ?_⟩
    simp only [go_sem, reduceIte, Nat.reduceEqDiff, Nat.reduceAdd, bx]
    simp [mayB, h1]; exact VSub.refl _
end Go.Proofs.Ytpehfflehebmbaa.Space
end
section
set_option linter.unusedSimpArgs false
set_option linter.unusedVariables false
set_option maxRecDepth 10000
namespace Go.Proofs.Ytpehfflehebmbaa.Space
open Go Go.Av Go.Proofs Go.Proofs.Ytpehfflehebmbaa.C Go.Proofs.Ytpehfflehebmbaa.Batch
def aheadAt (l : List It) (i : Nat) : Bs := if i = 0 then [] else (l.getD (i - 1) default).1
def ldAt (l : List It) (last : Int) (i : Nat) : Bool := mayB (l.getD i default) (aheadAt l i) (decide (i = 0)) last
def ldB (l : List It) (last mark : Int) : Bool := !decide (last < 0) && !decide (1152921504606846976 < last) && !decide (mark < 0) && !decide (last < mark) && (List.range l.length).all (ldAt l last)
set_option maxHeartbeats 1000000 in
theorem load_g (l : List It) (hl : l.length ≤ 500000) (hv : ∀ p ∈ l, p.2.length ≤ 4398046511104) (last mark : Int) : GCalls Try.prog 26 [.sl 2 (l.map encI) .any, .int .i64 last, .int .i64 mark] [] (fun r L => if ldB l last mark = true then ∃ s F, r = .tup [.ptr s 0, .int .i64 0] ∧ L = [F] ∧ SpcF s ⟨layL [] l, last, mark⟩ F else r = .tup [.sc (.pointer none), .int .i64 4] ∧ L = []) := by
  refine f26.gcalls (by simp) fun n m ok => ?_
  unfold c26
  have bad : ∀ (h : H), n ≤ h.n → m ≤ h.m → ldB l last mark = false → ∃ r l', Av.Ends [] n m (fun r L => if ldB l last mark = true then ∃ s F, r = .tup [.ptr s 0, .int .i64 0] ∧ L = [F] ∧ SpcF s ⟨layL [] l, last, mark⟩ F else r = .tup [.sc (.pointer none), .int .i64 4] ∧ L = []) (.tup [.sc (.pointer none), .int .i64 4]) h r l' := by
    intro h h1 h2 h3
    refine ⟨_, [], ⟨VSub.refl _, OLe.lay_nil _, fun t ht => by simp [ks] at ht, Ok.nil, fun j => .inr (.inr rfl), fun t ht => by simp [ks] at ht, ?_⟩⟩
    rw [h3]; exact ⟨rfl, rfl⟩
  by_cases p1 : last < 0
  · have d1 := decide_eq_true p1
    repeat (first
      | ((first | apply Wp.seqItemsR | apply Wp.itemsR); (· simp only [go_sem, reduceIte, Nat.reduceEqDiff, Nat.reduceAdd, bx, ax, if_true, if_false, Nat.reduceMul, Nat.reduceLeDiff, d1]; exact rfl))
      | (refine WpItems.nil ⟨?_, ?_⟩; (· first | trivial | simp [pairsQ, pairsOk, apart, ent0]))
      | (apply Wp.cond_lit; (· simp only [go_sem, reduceIte, Nat.reduceEqDiff, Nat.reduceAdd, bx, ax, if_true, if_false, Nat.reduceMul, Nat.reduceLeDiff, d1]; exact rfl); (· rfl))
      | refine Wp.skip ?_
      | refine Wp.label ?_
      | refine Wp.block ?_
      | refine Wp.exit ?_
      | refine Wp.seq ?_)
    exact Wp.ret ⟨trivial, _, rfl, bad _ (Nat.le_refl _) (Nat.le_refl _) (by simp [ldB, p1])⟩
  have d1 := decide_eq_false p1
  by_cases p2 : 1152921504606846976 < last
  · have d2 := decide_eq_true p2
    repeat (first
      | ((first | apply Wp.seqItemsR | apply Wp.itemsR); (· simp only [go_sem, reduceIte, Nat.reduceEqDiff, Nat.reduceAdd, bx, ax, if_true, if_false, Nat.reduceMul, Nat.reduceLeDiff, d1, d2]; exact rfl))
      | (refine WpItems.nil ⟨?_, ?_⟩; (· first | trivial | simp [pairsQ, pairsOk, apart, ent0]))
      | (apply Wp.cond_lit; (· simp only [go_sem, reduceIte, Nat.reduceEqDiff, Nat.reduceAdd, bx, ax, if_true, if_false, Nat.reduceMul, Nat.reduceLeDiff, d1, d2]; exact rfl); (· rfl))
      | refine Wp.skip ?_
      | refine Wp.label ?_
      | refine Wp.block ?_
      | refine Wp.exit ?_
      | refine Wp.seq ?_)
    exact Wp.ret ⟨trivial, _, rfl, bad _ (Nat.le_refl _) (Nat.le_refl _) (by simp [ldB, p2])⟩
  have d2 := decide_eq_false p2
  by_cases p3 : mark < 0
  · have d3 := decide_eq_true p3
    repeat (first
      | ((first | apply Wp.seqItemsR | apply Wp.itemsR); (· simp only [go_sem, reduceIte, Nat.reduceEqDiff, Nat.reduceAdd, bx, ax, if_true, if_false, Nat.reduceMul, Nat.reduceLeDiff, d1, d2, d3]; exact rfl))
      | (refine WpItems.nil ⟨?_, ?_⟩; (· first | trivial | simp [pairsQ, pairsOk, apart, ent0]))
      | (apply Wp.cond_lit; (· simp only [go_sem, reduceIte, Nat.reduceEqDiff, Nat.reduceAdd, bx, ax, if_true, if_false, Nat.reduceMul, Nat.reduceLeDiff, d1, d2, d3]; exact rfl); (· rfl))
      | refine Wp.skip ?_
      | refine Wp.label ?_
      | refine Wp.block ?_
      | refine Wp.exit ?_
      | refine Wp.seq ?_)
    exact Wp.ret ⟨trivial, _, rfl, bad _ (Nat.le_refl _) (Nat.le_refl _) (by simp [ldB, p3])⟩
  have d3 := decide_eq_false p3
  by_cases p4 : last < mark
  · have d4 := decide_eq_true p4
    repeat (first
      | ((first | apply Wp.seqItemsR | apply Wp.itemsR); (· simp only [go_sem, reduceIte, Nat.reduceEqDiff, Nat.reduceAdd, bx, ax, if_true, if_false, Nat.reduceMul, Nat.reduceLeDiff, d1, d2, d3, d4]; exact rfl))
      | (refine WpItems.nil ⟨?_, ?_⟩; (· first | trivial | simp [pairsQ, pairsOk, apart, ent0]))
      | (apply Wp.cond_lit; (· simp only [go_sem, reduceIte, Nat.reduceEqDiff, Nat.reduceAdd, bx, ax, if_true, if_false, Nat.reduceMul, Nat.reduceLeDiff, d1, d2, d3, d4]; exact rfl); (· rfl))
      | refine Wp.skip ?_
      | refine Wp.label ?_
      | refine Wp.block ?_
      | refine Wp.exit ?_
      | refine Wp.seq ?_)
    exact Wp.ret ⟨trivial, _, rfl, bad _ (Nat.le_refl _) (Nat.le_refl _) (by simp [ldB, p4])⟩
  have d4 := decide_eq_false p4
  repeat (first
    | ((first | apply Wp.seqItemsR | apply Wp.itemsR); (· simp only [go_sem, reduceIte, Nat.reduceEqDiff, Nat.reduceAdd, bx, ax, if_true, if_false, Nat.reduceMul, Nat.reduceLeDiff, d1, d2, d3, d4]; exact rfl))
    | (refine WpItems.nil ⟨?_, ?_⟩; (· first | trivial | simp [pairsQ, pairsOk, apart, ent0]))
    | (apply Wp.cond_lit; (· simp only [go_sem, reduceIte, Nat.reduceEqDiff, Nat.reduceAdd, bx, ax, if_true, if_false, Nat.reduceMul, Nat.reduceLeDiff, d1, d2, d3, d4]; exact rfl); (· rfl))
    | refine Wp.skip ?_
    | refine Wp.label ?_
    | refine Wp.block ?_
    | refine Wp.exit ?_
    | refine Wp.seq ?_)
  refine WpItems.gcall [] [] [] (by simp only [go_sem]) (by simp only [go_sem, reduceIte, Nat.reduceEqDiff, List.map]; exact VSubs.refl _) new_g ok fun r G' n1 m1 ids1 hq hn1 hm1 ok1 wi1 ki1 => ?_
  obtain ⟨s, F1, rfl, rfl, hF1⟩ := hq
  obtain ⟨c1, M1, K1, hM1, hsc1, hs1, hc1, hK1⟩ := hF1.go
  have on1 : On [] n m [F1] n1 _ m1 := ⟨hn1, hm1, ok1, wi1, ki1⟩
  have gs1 := on1.ok.at0 hs1
  refine WpItems.evR (by simp only [go_sem, reduceIte, Nat.reduceEqDiff, Nat.reduceAdd, bx]; exact rfl) ?_
  refine WpItems.nil ⟨by trivial, ?_⟩
  repeat (first
    | ((first | apply Wp.seqItemsR | apply Wp.itemsR); (· simp only [go_sem, reduceIte, Nat.reduceEqDiff, Nat.reduceAdd, bx, ax, if_true, if_false, Nat.reduceMul, Nat.reduceLeDiff, gs1, List.length_map]; exact rfl))
    | (refine WpItems.nil ⟨?_, ?_⟩; (· first | trivial | simp [pairsQ, pairsOk, apart, ent0]))
    | (apply Wp.cond_lit; (· simp only [go_sem, reduceIte, Nat.reduceEqDiff, Nat.reduceAdd, bx, ax, if_true, if_false, Nat.reduceMul, Nat.reduceLeDiff, gs1, List.length_map]; exact rfl); (· rfl))
    | refine Wp.skip ?_
    | refine Wp.label ?_
    | refine Wp.block ?_
    | refine Wp.exit ?_
    | refine Wp.seq ?_)
  rw [upd_lay]
  have hF2 : SpcF s ⟨[], last, 0⟩ _ := hF1.times hs1 last 0
  have on2 := on1.step (On.put (o := .cells [K1, .mp c1, .int .i64 last, .int .i64 0]) on1.ok (by rw [hs1]; rfl))
  generalize hf2 : (⟨upd F1.o s (some (.cells [K1, .mp c1, .int .i64 last, .int .i64 0])), F1.k⟩ : Fr) = F2 at *
  have f2 : F2.o s = some (.cells [K1, .mp c1, .int .i64 last, .int .i64 0]) := by rw [← hf2]; simp [upd]
  rw [upd_lay]
  have hF3 : SpcF s ⟨[], last, mark⟩ _ := hF2.times f2 last mark
  have on3 := on2.step (On.put (o := .cells [K1, .mp c1, .int .i64 last, .int .i64 mark]) on2.ok (by rw [f2]; rfl))
  generalize hf3 : (⟨upd F2.o s (some (.cells [K1, .mp c1, .int .i64 last, .int .i64 mark])), F2.k⟩ : Fr) = F3 at *
  have hil : (l.map encI).length = l.length := by simp
  refine Wp.loopG (β := Nat) [1, 8, 36, 37] (by simp only [go_sem, reduceIte, Nat.reduceEqDiff, List.map]; exact rfl) (fun i => [(38, .int .i64 (i : Nat)), (9, .str (aheadAt l i))]) (fun i L => i ≤ l.length ∧ (∀ j, j < i → ldAt l last j = true) ∧ ∃ F', L = [F'] ∧ SpcF s ⟨layL [] (l.take i), last, mark⟩ F') (fun i => l.length - i) 0 ⟨Nat.zero_le _, fun j h => absurd h (by omega), F3, rfl, hF3⟩ on3.ok (by simp only [AllSub, go_sem, reduceIte, Nat.reduceEqDiff]; exact ⟨VSub.refl _, VSub.refl _, trivial⟩) ?_
  rintro i L n5 T5 m5 on ⟨hi, hall, F', rfl, hF'⟩
  by_cases hi2 : i < l.length
  · have g1 : decide (((i : Nat) : Int) < ((l.length : Nat) : Int)) = true := decide_eq_true (by omega)
    have h2 : (0 : Int) ≤ ((i : Nat) : Int) := by omega
    have h3 : ((i : Nat) : Int) < ((l.length : Nat) : Int) := by omega
    have e1 : IntKind.i64.wrap (((i : Nat) : Int) + 1) = ((i + 1 : Nat) : Int) := by rw [IntWalk.i64_in _ (by omega)]; omega
    have hat := enc_at encI l i .any hi2
    have hdo := layL_snoc [] l hi2
    obtain ⟨hr', hl'⟩ := layL_ok (l.take i) [] (by simp [RiseL, Rise, keysOf])
    have hl2 : (layL [] (l.take i)).length ≤ 500000 := by
      rw [List.length_take] at hl'
      simp only [List.length_nil] at hl'
      omega
    have hvx : (l.getD i default).2.length ≤ 4398046511104 := hv _ (by rw [getD_el hi2]; exact List.getElem_mem hi2)
    have hmay := may_p (l.getD i default) (by omega) (aheadAt l i) (decide (i = 0)) last
    have hah : aheadAt l (i + 1) = (l.getD i default).1 := by simp [aheadAt]
    have hz : decide ((i : Int) = 0) = decide (i = 0) := by simp
    have hcl := clone_p (l.getD i default).2 (by omega)
    cases hm : ldAt l last i with
    | false =>
      have hm' := hm
      unfold ldAt at hm'
      rw [hm'] at hmay
      generalize l.getD i default = x at *
      repeat (first
        | ((first | apply Wp.seqItemsR | apply Wp.itemsR); (· simp only [go_sem, reduceIte, Nat.reduceEqDiff, Nat.reduceAdd, bx, ax, if_true, if_false, Nat.reduceMul, Nat.reduceLeDiff, g1, h2, h3, hat, hil, encI, vAV, hz]; exact rfl))
        | (refine WpItems.nil ⟨?_, ?_⟩; (· first | trivial | simp [pairsQ, pairsOk, apart, ent0]))
        | (apply Wp.cond_lit; (· simp only [go_sem, reduceIte, Nat.reduceEqDiff, Nat.reduceAdd, bx, ax, if_true, if_false, Nat.reduceMul, Nat.reduceLeDiff, g1, h2, h3, hat, hil, encI, vAV, hz]; exact rfl); (· rfl))
        | refine Wp.skip ?_
        | refine Wp.label ?_
        | refine Wp.block ?_
        | refine Wp.exit ?_
        | refine Wp.seq ?_)
      refine WpItems.pcall (by simp only [go_sem]) (by simp only [go_sem, reduceIte, Nat.reduceEqDiff, List.map]; exact VSubs.refl _) hmay ?_
      refine WpItems.evR (by simp only [go_sem, reduceIte, Nat.reduceEqDiff, Nat.reduceAdd, bx]; exact rfl) ?_
      refine WpItems.nil ⟨by trivial, ?_⟩
      repeat (first
        | ((first | apply Wp.seqItemsR | apply Wp.itemsR); (· simp only [go_sem, reduceIte, Nat.reduceEqDiff, Nat.reduceAdd, bx, ax, if_true, if_false, Nat.reduceMul, Nat.reduceLeDiff]; exact rfl))
        | (refine WpItems.nil ⟨?_, ?_⟩; (· first | trivial | simp [pairsQ, pairsOk, apart, ent0]))
        | (apply Wp.cond_lit; (· simp only [go_sem, reduceIte, Nat.reduceEqDiff, Nat.reduceAdd, bx, ax, if_true, if_false, Nat.reduceMul, Nat.reduceLeDiff]; exact rfl); (· rfl))
        | refine Wp.skip ?_
        | refine Wp.label ?_
        | refine Wp.block ?_
        | refine Wp.exit ?_
        | refine Wp.seq ?_)
      have on4 := on3.step on
      exact Wp.ret ⟨trivial, _, rfl, bad _ (by have := on4.gn; simp only; omega) on4.gm (by
        have : (List.range l.length).all (ldAt l last) = false := all_no hi2 hm
        simp [ldB, this])⟩
    | true =>
      have hm' := hm
      unfold ldAt at hm'
      rw [hm'] at hmay
      generalize l.getD i default = x at *
      repeat (first
        | ((first | apply Wp.seqItemsR | apply Wp.itemsR); (· simp only [go_sem, reduceIte, Nat.reduceEqDiff, Nat.reduceAdd, bx, ax, if_true, if_false, Nat.reduceMul, Nat.reduceLeDiff, g1, h2, h3, hat, hil, encI, vAV, hz]; exact rfl))
        | (refine WpItems.nil ⟨?_, ?_⟩; (· first | trivial | simp [pairsQ, pairsOk, apart, ent0]))
        | (apply Wp.cond_lit; (· simp only [go_sem, reduceIte, Nat.reduceEqDiff, Nat.reduceAdd, bx, ax, if_true, if_false, Nat.reduceMul, Nat.reduceLeDiff, g1, h2, h3, hat, hil, encI, vAV, hz]; exact rfl); (· rfl))
        | refine Wp.skip ?_
        | refine Wp.label ?_
        | refine Wp.block ?_
        | refine Wp.exit ?_
        | refine Wp.seq ?_)
      refine WpItems.pcall (by simp only [go_sem]) (by simp only [go_sem, reduceIte, Nat.reduceEqDiff, List.map]; exact VSubs.refl _) hmay ?_
      refine WpItems.evR (by simp only [go_sem, reduceIte, Nat.reduceEqDiff, Nat.reduceAdd, bx]; exact rfl) ?_
      refine WpItems.nil ⟨by trivial, ?_⟩
      repeat (first
        | ((first | apply Wp.seqItemsR | apply Wp.itemsR); (· simp only [go_sem, reduceIte, Nat.reduceEqDiff, Nat.reduceAdd, bx, ax, if_true, if_false, Nat.reduceMul, Nat.reduceLeDiff, hcl]; exact rfl))
        | (refine WpItems.nil ⟨?_, ?_⟩; (· first | trivial | simp [pairsQ, pairsOk, apart, ent0]))
        | (apply Wp.cond_lit; (· simp only [go_sem, reduceIte, Nat.reduceEqDiff, Nat.reduceAdd, bx, ax, if_true, if_false, Nat.reduceMul, Nat.reduceLeDiff, hcl]; exact rfl); (· rfl))
        | refine Wp.skip ?_
        | refine Wp.label ?_
        | refine Wp.block ?_
        | refine Wp.exit ?_
        | refine Wp.seq ?_)
      rw [upd_new, upd_ob]
      refine WpItems.pcall (by simp only [go_sem]) (by simp only [go_sem, reduceIte, Nat.reduceEqDiff, List.map]; exact VSubs.refl _) hcl ?_
      refine WpItems.evR (by simp only [go_sem, reduceIte, Nat.reduceEqDiff, Nat.reduceAdd, bx]; exact rfl) ?_
      have ok6 := on.ok.more (.cells [.str x.1, vAV x.2])
      refine WpItems.gcall [_] [F'] [] (by simp only [go_sem]) (by simp only [go_sem, reduceIte, Nat.reduceEqDiff, List.map]; exact VSubs.refl _) (set_g hF' hr' hl2 x.1 x.2) ok6 fun r G' n' m' ids hq hn' hm' ok7 wi ki => ?_
      obtain ⟨rfl, F5, rfl, hF5⟩ := hq
      have on7 : On [F'] n5 m5 [F5] n' _ m' := On.under ⟨hn', hm', ok7, wi, ki⟩
      have g5 : lay ([ob n5 (.cells [.str x.1, vAV x.2])] ++ [F5] ++ []) n5 = some (.cells [.str x.1, vAV x.2]) := lay_ob_at n5 _ [F5]
      refine WpItems.evR (by simp only [go_sem, reduceIte, Nat.reduceEqDiff, Nat.reduceAdd, bx]; exact rfl) ?_
      refine WpItems.nil ⟨by simp [pairsQ, pairsOk, apart, ent0], ?_⟩
      simp only [List.cons_append, List.nil_append, List.append_nil, vAV] at g5 ⊢
      repeat (first
        | ((first | apply Wp.seqItemsR | apply Wp.itemsR); (· simp only [go_sem, reduceIte, Nat.reduceEqDiff, Nat.reduceAdd, bx, ax, if_true, if_false, Nat.reduceMul, Nat.reduceLeDiff, e1, g5]; exact rfl))
        | (refine WpItems.nil ⟨?_, ?_⟩; (· first | trivial | simp [pairsQ, pairsOk, apart, ent0]))
        | (apply Wp.cond_lit; (· simp only [go_sem, reduceIte, Nat.reduceEqDiff, Nat.reduceAdd, bx, ax, if_true, if_false, Nat.reduceMul, Nat.reduceLeDiff, e1, g5]; exact rfl); (· rfl))
        | refine Wp.skip ?_
        | refine Wp.label ?_
        | refine Wp.block ?_
        | refine Wp.exit ?_
        | refine Wp.seq ?_)
      refine ⟨i + 1, [F5], n', _, m', on7, ⟨by omega, all_step hall hm, F5, rfl, ?_⟩, by omega, ?_⟩
      · rw [hdo]; exact hF5
      · refine StLe.of (tm_le ?_) (ole_drop_ob (Ok.alone ok7)) (fun _ h => h) (Nat.le_refl _) (Nat.le_refl _)
        rw [hah]
        simp only [AllSub, go_sem, reduceIte, Nat.reduceEqDiff, Nat.reduceAdd, bx]; and_intros <;> first | exact trivial | exact VSub.refl _ | exact VSub.any _ | (refine VSub.int ?_; omega)
  · have hie : i = l.length := by omega
    subst hie
    have g1 : decide (((l.length : Nat) : Int) < ((l.length : Nat) : Int)) = false := decide_eq_false (by omega)
    rw [List.take_length] at hF'
    have hld : ldB l last mark = true := by
      simp only [ldB, d1, d2, d3, d4, Bool.not_false, Bool.true_and]
      exact all_yes hall
    repeat (first
      | ((first | apply Wp.seqItemsR | apply Wp.itemsR); (· simp only [go_sem, reduceIte, Nat.reduceEqDiff, Nat.reduceAdd, bx, ax, if_true, if_false, Nat.reduceMul, Nat.reduceLeDiff, g1]; exact rfl))
      | (refine WpItems.nil ⟨?_, ?_⟩; (· first | trivial | simp [pairsQ, pairsOk, apart, ent0]))
      | (apply Wp.cond_lit; (· simp only [go_sem, reduceIte, Nat.reduceEqDiff, Nat.reduceAdd, bx, ax, if_true, if_false, Nat.reduceMul, Nat.reduceLeDiff, g1]; exact rfl); (· rfl))
      | refine Wp.skip ?_
      | refine Wp.label ?_
      | refine Wp.block ?_
      | refine Wp.exit ?_
      | refine Wp.seq ?_)
    refine Wp.ret ⟨trivial, _, rfl, _, _, (on3.step on).ends (VSub.refl _) ?_⟩
    rw [if_pos hld]
    exact ⟨s, F', rfl, rfl, hF'⟩
end Go.Proofs.Ytpehfflehebmbaa.Space
end
section
set_option linter.unusedSimpArgs false
set_option linter.unusedVariables false
set_option maxRecDepth 10000
namespace Go.Proofs.Ytpehfflehebmbaa.Space
open Go Go.Av Go.Proofs Go.Proofs.Ytpehfflehebmbaa.C Go.Proofs.Ytpehfflehebmbaa.Batch
theorem keysOf_cons (p : It) (L : List It) : keysOf (p :: L) = p.1 :: keysOf L := rfl
theorem plK_cons (k : Bs) (ks : List Bs) (q : Bs) : plK (k :: ks) q = if Op.bytesLess k q = true then plK ks q + 1 else 0 := by
  simp only [plK, List.findIdx_cons]
  cases h : Op.bytesLess k q <;> simp
theorem thK_nil (q : Bs) : thK [] q = false := by simp [thK]
theorem thK_cons (k : Bs) (ks : List Bs) (q : Bs) : thK (k :: ks) q = if Op.bytesLess k q = true then thK ks q else decide (k = q) := by
  simp only [thK, plK_cons]
  cases h : Op.bytesLess k q <;> simp
theorem setL_nil (q : Bs) (v : List Ver) : setL [] q v = if v = [] then [] else [(q, v)] := by
  simp [setL, keysOf, thK_nil, plK]
theorem setL_cons (p : It) (L : List It) (q : Bs) (v : List Ver) : setL (p :: L) q v = if Op.bytesLess p.1 q = true then p :: setL L q v else if p.1 = q then (if v = [] then L else (q, v) :: L) else (if v = [] then p :: L else (q, v) :: p :: L) := by
  simp only [setL, keysOf_cons, thK_cons, plK_cons]
  by_cases h : Op.bytesLess p.1 q = true
  · simp only [if_pos h, List.take_succ_cons, List.drop_succ_cons, List.cons_append]
    split <;> split <;> rfl
  · simp only [if_neg h]
    by_cases e : p.1 = q
    · simp [e]
    · simp [e]
theorem setL_mid (q : Bs) (v : List Ver) (B : List It) : ∀ A : List It, (∀ p ∈ A, Op.bytesLess p.1 q = true) → setL (A ++ B) q v = A ++ setL B q v
  | [], _ => rfl
  | p :: A, h => by
    rw [List.cons_append, setL_cons, if_pos (h p (by simp)), setL_mid q v B A (fun x hx => h x (by simp [hx]))]; rfl
theorem rise_cons {p : It} {L : List It} : RiseL (p :: L) ↔ (∀ x ∈ L, Op.bytesLess p.1 x.1 = true) ∧ RiseL L := by
  simp [RiseL, Rise, keysOf, List.pairwise_cons]
theorem rise_app {A B : List It} : RiseL (A ++ B) ↔ RiseL A ∧ RiseL B ∧ ∀ x ∈ A, ∀ y ∈ B, Op.bytesLess x.1 y.1 = true := by
  unfold RiseL Rise keysOf
  rw [List.map_append, List.pairwise_append]
  simp
theorem less_ne {a b : Bs} (h : Op.bytesLess a b = true) : a ≠ b := fun e => by rw [e, less_irrefl] at h; cases h
theorem after {p : It} {L : List It} {q : Bs} (hr : RiseL (p :: L)) (h : Op.bytesLess p.1 q = false) : ∀ x ∈ L, x.1 ≠ q := by
  intro x hx e
  have := (rise_cons.1 hr).1 x hx
  rw [e, h] at this; cases this
def Full (L : List It) : Prop := ∀ p ∈ L, p.2 ≠ []
theorem layL_app : ∀ (l A : List It), RiseL (A ++ l) → Full l → layL A l = A ++ l
  | [], A, _, _ => by simp [layL]
  | p :: l, A, hr, hf => by
    have h1 := (rise_app.1 hr).2.2
    have hs : setL A p.1 p.2 = A ++ [p] := by
      have := setL_mid p.1 p.2 [] A (fun x hx => h1 x hx p (by simp))
      rw [List.append_nil, setL_nil, if_neg (hf p (by simp))] at this
      exact this
    have e : layL A (p :: l) = layL (setL A p.1 p.2) l := rfl
    rw [e, hs, layL_app l (A ++ [p]) (by simpa using hr) (fun x hx => hf x (by simp [hx]))]
    simp
theorem layL_self {L : List It} (hr : RiseL L) (hf : Full L) : layL [] L = L := by
  have := layL_app L [] (by simpa using hr) hf
  simpa using this
theorem setL_full {L : List It} (hf : Full L) (q : Bs) (v : List Ver) : Full (setL L q v) := by
  induction L with
  | nil => rw [setL_nil]; split <;> simp_all [Full]
  | cons p L ih =>
    have h1 : p.2 ≠ [] := hf p (by simp)
    have h2 : Full L := fun x hx => hf x (by simp [hx])
    have h3 := ih h2
    rw [setL_cons]
    intro x hx
    split at hx
    · rcases List.mem_cons.1 hx with rfl | hx
      · exact h1
      · exact h3 x hx
    · split at hx <;> split at hx
      · exact h2 x hx
      · rename_i hv
        rcases List.mem_cons.1 hx with rfl | hx
        · exact hv
        · exact h2 x hx
      · exact hf x hx
      · rename_i hv
        rcases List.mem_cons.1 hx with rfl | hx
        · exact hv
        · exact hf x hx
theorem mget_mem {L : List It} (hr : RiseL L) {p : It} (hp : p ∈ L) : mget L p.1 = p.2 := by
  induction L with
  | nil => simp at hp
  | cons x L ih =>
    obtain ⟨h1, h2⟩ := rise_cons.1 hr
    rcases List.mem_cons.1 hp with rfl | hp
    · simp [mget]
    · rw [mget, if_neg (less_ne (h1 p hp))]; exact ih h2 hp
def inB (k a b : Bs) : Bool := !Op.bytesLess k a && selP b k
theorem sel_none {b : Bs} : ∀ {ks : List Bs} {k : Bs}, (∀ x ∈ ks, Op.bytesLess k x = true) → selP b k = false → ∀ x ∈ ks, selP b x = false := by
  intro ks k h hk x hx
  simp only [selP, Bool.or_eq_false_iff, decide_eq_false_iff_not] at hk ⊢
  refine ⟨hk.1, ?_⟩
  cases hc : Op.bytesLess x b with
  | false => rfl
  | true => rw [less_trans (h x hx) hc] at hk; cases hk.2
theorem take_filter {b : Bs} : ∀ ks : List Bs, Rise ks → ks.takeWhile (selP b) = ks.filter (selP b)
  | [], _ => rfl
  | k :: ks, hr => by
    obtain ⟨h1, h2⟩ := List.pairwise_cons.1 hr
    rw [List.takeWhile_cons, List.filter_cons]
    cases hk : selP b k with
    | true => simp only [if_true]; rw [take_filter ks h2]
    | false =>
      simp only [Bool.false_eq_true, if_false]
      refine (List.filter_eq_nil_iff.2 fun x hx => ?_).symm
      rw [sel_none h1 hk x hx]; exact Bool.false_ne_true
theorem selK_eq {a b : Bs} : ∀ ks : List Bs, Rise ks → selK ks a b = ks.filter fun k => inB k a b
  | [], _ => by simp [selK]
  | k :: ks, hr => by
    obtain ⟨h1, h2⟩ := List.pairwise_cons.1 hr
    by_cases h : Op.bytesLess k a = true
    · have ih := selK_eq (a := a) (b := b) ks h2
      rw [selK, plK_cons, if_pos h, List.drop_succ_cons, List.filter_cons, if_neg (by simp [inB, h])]
      exact ih
    · have h' : Op.bytesLess k a = false := by simpa using h
      rw [selK, plK_cons, if_neg h, List.drop_zero, take_filter _ hr]
      refine List.filter_congr fun x hx => ?_
      have : Op.bytesLess x a = false := by
        rcases List.mem_cons.1 hx with rfl | hx
        · exact h'
        · cases hc : Op.bytesLess x a with
          | false => rfl
          | true => rw [less_trans (h1 x hx) hc] at h'; cases h'
      simp [inB, this]
theorem sinceS_eq {S : Spc} (hr : RiseL S.L) (a b : Bs) (t : Int) : sinceS S a b t = S.L.any fun p => inB p.1 a b && sinceB p.2 t := by
  rw [sinceS, selK_eq _ hr, keysOf, List.filter_map, List.any_map]
  refine Bool.eq_iff_iff.2 ?_
  simp only [List.any_eq_true, List.mem_filter, Function.comp, Bool.and_eq_true]
  constructor
  · rintro ⟨p, ⟨hp, h1⟩, h2⟩
    rw [mget_mem hr hp] at h2
    exact ⟨p, hp, h1, h2⟩
  · rintro ⟨p, hp, h1, h2⟩
    rw [← mget_mem hr hp] at h2
    exact ⟨p, ⟨hp, h1⟩, h2⟩
end Go.Proofs.Ytpehfflehebmbaa.Space
end
section
set_option linter.unusedSimpArgs false
set_option linter.unusedVariables false
set_option maxRecDepth 10000
namespace Go.Proofs.Ytpehfflehebmbaa.Space
open Go Go.Av Go.Proofs Go.Proofs.Ytpehfflehebmbaa.C Go.Proofs.Ytpehfflehebmbaa.Batch
def encS (S : Spc) : AV := .agg [.sl 2 (S.L.map encI) .any, .int .i64 S.last, .int .i64 S.mark]
theorem encI_pure (p : It) : isPure (encI p) = true := by simp [allPure, isPure, capPure, encI, vAV, vers_pure]
theorem its_pure (l : List It) : allPure (l.map encI) = true := Av.allPure_map encI_pure l
theorem encS_pure (S : Spc) : isPure (encS S) = true := by simp [allPure, isPure, capPure, encS, its_pure]
end Go.Proofs.Ytpehfflehebmbaa.Space
end
section
set_option linter.unusedSimpArgs false
set_option linter.unusedVariables false
set_option maxRecDepth 10000
namespace Go.Proofs.Ytpehfflehebmbaa.Space
open Go Go.Av Go.Proofs Go.Proofs.Ytpehfflehebmbaa.C Go.Proofs.Ytpehfflehebmbaa.Batch
end Go.Proofs.Ytpehfflehebmbaa.Space
end
section
set_option linter.unusedSimpArgs false
set_option linter.unusedVariables false
set_option maxRecDepth 10000
namespace Go.Proofs.Ytpehfflehebmbaa.Space
open Go Go.Av Go.Proofs Go.Proofs.Ytpehfflehebmbaa.C Go.Proofs.Ytpehfflehebmbaa.Batch
end Go.Proofs.Ytpehfflehebmbaa.Space
end
section
set_option linter.unusedSimpArgs false
set_option linter.unusedVariables false
set_option maxRecDepth 10000
namespace Go.Proofs.Ytpehfflehebmbaa.Space
open Go Go.Av Go.Proofs Go.Proofs.Ytpehfflehebmbaa.C Go.Proofs.Ytpehfflehebmbaa.Batch
end Go.Proofs.Ytpehfflehebmbaa.Space
end
section
set_option linter.unusedSimpArgs false
set_option linter.unusedVariables false
set_option maxRecDepth 10000
namespace Go.Proofs.Ytpehfflehebmbaa.Reads
open Go Go.Av Go.Proofs Go.Proofs.Ytpehfflehebmbaa.C Go.Proofs.Ytpehfflehebmbaa.Batch
theorem covers_eq {k : List Bs} {l : List Sp} (h : checkB k l = true) (q : Bs) : coversB k l q = (decide (q ∈ k) || spanned l q) := by
  rw [coversB, h, there_iff (ks_of (check_ok h).2.2.2).1]; rfl
end Go.Proofs.Ytpehfflehebmbaa.Reads
end
section
set_option linter.unusedSimpArgs false
set_option linter.unusedVariables false
set_option maxRecDepth 10000
namespace Go.Proofs.Ytpehfflehebmbaa.Space
open Go Go.Av Go.Proofs Go.Proofs.Ytpehfflehebmbaa.C Go.Proofs.Ytpehfflehebmbaa.Batch
def upR (t : Int) (S : Spc) (A : List It) (c : Ch) : List It := setL A c.k (addB (mget S.L c.k) ⟨t, c.v, c.d⟩).1
theorem fit_at {l : List Ch} (h : fitB l = true) {j : Nat} (hj : j < l.length) : fitAt l j = true := List.all_eq_true.1 h j (List.mem_range.2 hj)
theorem fit_new {l : List Ch} (h : fitB l = true) {j : Nat} (hj : j < l.length) : (l.getD j default).k ∉ (l.take j).map (·.k) := by
  have := fit_at h hj
  simp only [fitAt, Bool.and_eq_true, Bool.not_eq_true', decide_eq_false_iff_not] at this
  exact this.1.1.1
theorem fit_len {l : List Ch} (h : fitB l = true) {j : Nat} (hj : j < l.length) : (l.getD j default).k.length ≤ 128 := by
  have := fit_at h hj
  simp only [fitAt, Bool.and_eq_true, decide_eq_true_eq] at this
  omega
theorem do_eq (t : Int) (S : Spc) (hr : RiseL S.L) (l : List Ch) (h : fitB l = true) : ∀ j, j ≤ l.length → RiseL ((l.take j).foldl (upR t S) S.L) ∧ (∀ q, q ∉ (l.take j).map (·.k) → mget ((l.take j).foldl (upR t S) S.L) q = mget S.L q) ∧ doS t S (l.take j) = { S with L := (l.take j).foldl (upR t S) S.L }
  | 0, _ => by simp [doS, hr]
  | j + 1, hj => by
    obtain ⟨h1, h2, h3⟩ := do_eq t S hr l h j (by omega)
    have e : (l.take (j + 1)).foldl (upR t S) S.L = upR t S ((l.take j).foldl (upR t S) S.L) (l.getD j default) := by
      rw [take_snoc default (show j < l.length by omega), List.foldl_append]; rfl
    have hn := fit_new h (show j < l.length by omega)
    rw [e]
    refine ⟨setL_rise h1 _ _, fun q hq => ?_, ?_⟩
    · rw [take_snoc default (show j < l.length by omega), List.map_append, List.mem_append, not_or] at hq
      rw [upR, setL_get h1, if_neg (fun e => hq.2 (by rw [List.map_cons, e]; exact List.mem_cons_self))]
      exact h2 q hq.1
    · rw [do_snoc t S l (show j < l.length by omega), h3, stepS, setS]
      simp only [upR, h2 _ hn]
theorem setL_mem {L : List It} {q : Bs} {v : List Ver} {x : It} (h : x ∈ setL L q v) : x = (q, v) ∨ x ∈ L := by
  unfold setL at h
  split at h <;> split at h
  · rcases List.mem_append.1 h with h | h
    · exact .inr (List.mem_of_mem_take h)
    · exact .inr (List.mem_of_mem_drop h)
  · exact .inr h
  · rcases List.mem_append.1 h with h | h
    · exact .inr (List.mem_of_mem_take h)
    · rcases List.mem_cons.1 h with h | h
      · exact .inl h
      · exact .inr (List.mem_of_mem_drop h)
  · rcases List.mem_append.1 h with h | h
    · exact .inr (List.mem_of_mem_take h)
    · rcases List.mem_cons.1 h with h | h
      · exact .inl h
      · exact .inr (List.mem_of_mem_drop h)
theorem setL_ls {L : List It} (lk : ∀ p ∈ L, Ls p.1) {q : Bs} (hq : Ls q) (v : List Ver) : ∀ p ∈ setL L q v, Ls p.1 := fun p hp => by
  rcases setL_mem hp with rfl | hp
  · exact hq
  · exact lk p hp
end Go.Proofs.Ytpehfflehebmbaa.Space
end
section
set_option linter.unusedSimpArgs false
set_option linter.unusedVariables false
set_option maxRecDepth 10000
namespace Go.Proofs.Ytpehfflehebmbaa.Space
open Go Go.Av Go.Proofs Go.Proofs.Ytpehfflehebmbaa.C Go.Proofs.Ytpehfflehebmbaa.Batch
theorem ld_key {l : List It} {last : Int} {j : Nat} (h : ldAt l last j = true) : (l.getD j default).1.length ≤ 128 := by
  simp only [ldAt, mayB, Bool.and_eq_true, decide_eq_true_eq] at h
  omega
theorem ld_next {l : List It} {last : Int} {j : Nat} (h : ldAt l last (j + 1) = true) : Op.bytesLess (l.getD j default).1 (l.getD (j + 1) default).1 = true := by
  simp only [ldAt, mayB, aheadAt, Bool.and_eq_true, Bool.or_eq_true, decide_eq_true_eq, Nat.add_one_ne_zero, false_or, if_false, Nat.add_sub_cancel] at h
  exact h.1.1.1.2
theorem ld_full {l : List It} {last : Int} {j : Nat} (h : ldAt l last j = true) : (l.getD j default).2 ≠ [] := by
  simp only [ldAt, mayB, Bool.and_eq_true, decide_eq_true_eq] at h
  exact List.length_pos_iff.1 h.1.1.2
theorem ld_all {l : List It} {last mark : Int} (h : ldB l last mark = true) {j : Nat} (hj : j < l.length) : ldAt l last j = true := by
  simp only [ldB, Bool.and_eq_true] at h
  exact List.all_eq_true.1 h.2 j (List.mem_range.2 hj)
theorem ld_rise {l : List It} {last mark : Int} (h : ldB l last mark = true) : RiseL l ∧ Full l := by
  have up : ∀ i j, i < j → j < l.length → Op.bytesLess (l.getD i default).1 (l.getD j default).1 = true := by
    intro i j hij
    induction j with
    | zero => omega
    | succ j ih =>
      intro hj
      have h1 := ld_next (ld_all h hj)
      by_cases e : i = j
      · rw [e]; exact h1
      · exact less_trans (ih (by omega) (by omega)) h1
  refine ⟨List.pairwise_iff_getElem.2 fun i j hi hj hij => ?_, fun p hp => ?_⟩
  · simp only [keysOf, List.length_map] at hi hj
    have := up i j hij hj
    rw [getD_el hi, getD_el hj] at this
    simpa [keysOf] using this
  · obtain ⟨i, hi, rfl⟩ := List.mem_iff_getElem.1 hp
    have := ld_full (ld_all h hi)
    rwa [getD_el hi] at this
set_option maxHeartbeats 4000000 in
theorem loadR_p (l : List It) (hl : l.length ≤ 500000) (hv : ∀ p ∈ l, p.2.length ≤ 4398046511104) (last mark : Int) : PCalls Try.prog 27 [.sl 2 (l.map encI) .any, .int .i64 last, .int .i64 mark] (if ldB l last mark = true then .tup [encS ⟨l, last, mark⟩, .int .i64 0] else .tup [encS ⟨[], 0, 0⟩, .int .i64 4]) := by
  refine f27.pcalls0 (by simp) (by simp [allPure, isPure, capPure, its_pure]) (by split <;> simp [isPure, allPure, encS_pure]) ?_
  unfold c27
  have hil : (l.map encI).length = l.length := by simp
  by_cases p1 : last < 0
  · have d1 := decide_eq_true p1
    repeat (first
      | ((first | apply Wp.seqItemsR | apply Wp.itemsR); (· simp only [go_sem, reduceIte, Nat.reduceEqDiff, Nat.reduceAdd, bx, ax, if_true, if_false, Nat.reduceMul, Nat.reduceLeDiff, d1]; exact rfl))
      | (refine WpItems.nil ⟨?_, ?_⟩; (· first | trivial | simp [pairsQ, pairsOk, apart, ent0]))
      | (apply Wp.cond_lit; (· simp only [go_sem, reduceIte, Nat.reduceEqDiff, Nat.reduceAdd, bx, ax, if_true, if_false, Nat.reduceMul, Nat.reduceLeDiff, d1]; exact rfl); (· rfl))
      | refine Wp.skip ?_
      | refine Wp.label ?_
      | refine Wp.block ?_
      | refine Wp.exit ?_
      | refine Wp.seq ?_)
    refine Wp.ret ⟨trivial, _, rfl, ?_⟩
    simp only [go_sem, reduceIte, Nat.reduceEqDiff, Nat.reduceAdd, bx]
    rw [if_neg (by simp [ldB, p1])]; exact VSub.tup (VSubs.cons (VSub.agg (VSubs.cons VSub.cap (VSubs.refl _))) (VSubs.refl _))
  have d1 := decide_eq_false p1
  by_cases p2 : 1152921504606846976 < last
  · have d2 := decide_eq_true p2
    repeat (first
      | ((first | apply Wp.seqItemsR | apply Wp.itemsR); (· simp only [go_sem, reduceIte, Nat.reduceEqDiff, Nat.reduceAdd, bx, ax, if_true, if_false, Nat.reduceMul, Nat.reduceLeDiff, d1, d2]; exact rfl))
      | (refine WpItems.nil ⟨?_, ?_⟩; (· first | trivial | simp [pairsQ, pairsOk, apart, ent0]))
      | (apply Wp.cond_lit; (· simp only [go_sem, reduceIte, Nat.reduceEqDiff, Nat.reduceAdd, bx, ax, if_true, if_false, Nat.reduceMul, Nat.reduceLeDiff, d1, d2]; exact rfl); (· rfl))
      | refine Wp.skip ?_
      | refine Wp.label ?_
      | refine Wp.block ?_
      | refine Wp.exit ?_
      | refine Wp.seq ?_)
    refine Wp.ret ⟨trivial, _, rfl, ?_⟩
    simp only [go_sem, reduceIte, Nat.reduceEqDiff, Nat.reduceAdd, bx]
    rw [if_neg (by simp [ldB, p2])]; exact VSub.tup (VSubs.cons (VSub.agg (VSubs.cons VSub.cap (VSubs.refl _))) (VSubs.refl _))
  have d2 := decide_eq_false p2
  by_cases p3 : mark < 0
  · have d3 := decide_eq_true p3
    repeat (first
      | ((first | apply Wp.seqItemsR | apply Wp.itemsR); (· simp only [go_sem, reduceIte, Nat.reduceEqDiff, Nat.reduceAdd, bx, ax, if_true, if_false, Nat.reduceMul, Nat.reduceLeDiff, d1, d2, d3]; exact rfl))
      | (refine WpItems.nil ⟨?_, ?_⟩; (· first | trivial | simp [pairsQ, pairsOk, apart, ent0]))
      | (apply Wp.cond_lit; (· simp only [go_sem, reduceIte, Nat.reduceEqDiff, Nat.reduceAdd, bx, ax, if_true, if_false, Nat.reduceMul, Nat.reduceLeDiff, d1, d2, d3]; exact rfl); (· rfl))
      | refine Wp.skip ?_
      | refine Wp.label ?_
      | refine Wp.block ?_
      | refine Wp.exit ?_
      | refine Wp.seq ?_)
    refine Wp.ret ⟨trivial, _, rfl, ?_⟩
    simp only [go_sem, reduceIte, Nat.reduceEqDiff, Nat.reduceAdd, bx]
    rw [if_neg (by simp [ldB, p3])]; exact VSub.tup (VSubs.cons (VSub.agg (VSubs.cons VSub.cap (VSubs.refl _))) (VSubs.refl _))
  have d3 := decide_eq_false p3
  by_cases p4 : last < mark
  · have d4 := decide_eq_true p4
    repeat (first
      | ((first | apply Wp.seqItemsR | apply Wp.itemsR); (· simp only [go_sem, reduceIte, Nat.reduceEqDiff, Nat.reduceAdd, bx, ax, if_true, if_false, Nat.reduceMul, Nat.reduceLeDiff, d1, d2, d3, d4]; exact rfl))
      | (refine WpItems.nil ⟨?_, ?_⟩; (· first | trivial | simp [pairsQ, pairsOk, apart, ent0]))
      | (apply Wp.cond_lit; (· simp only [go_sem, reduceIte, Nat.reduceEqDiff, Nat.reduceAdd, bx, ax, if_true, if_false, Nat.reduceMul, Nat.reduceLeDiff, d1, d2, d3, d4]; exact rfl); (· rfl))
      | refine Wp.skip ?_
      | refine Wp.label ?_
      | refine Wp.block ?_
      | refine Wp.exit ?_
      | refine Wp.seq ?_)
    refine Wp.ret ⟨trivial, _, rfl, ?_⟩
    simp only [go_sem, reduceIte, Nat.reduceEqDiff, Nat.reduceAdd, bx]
    rw [if_neg (by simp [ldB, p4])]; exact VSub.tup (VSubs.cons (VSub.agg (VSubs.cons VSub.cap (VSubs.refl _))) (VSubs.refl _))
  have d4 := decide_eq_false p4
  repeat (first
    | ((first | apply Wp.seqItemsR | apply Wp.itemsR); (· simp only [go_sem, reduceIte, Nat.reduceEqDiff, Nat.reduceAdd, bx, ax, if_true, if_false, Nat.reduceMul, Nat.reduceLeDiff, d1, d2, d3, d4]; exact rfl))
    | (refine WpItems.nil ⟨?_, ?_⟩; (· first | trivial | simp [pairsQ, pairsOk, apart, ent0]))
    | (apply Wp.cond_lit; (· simp only [go_sem, reduceIte, Nat.reduceEqDiff, Nat.reduceAdd, bx, ax, if_true, if_false, Nat.reduceMul, Nat.reduceLeDiff, d1, d2, d3, d4]; exact rfl); (· rfl))
    | refine Wp.skip ?_
    | refine Wp.label ?_
    | refine Wp.block ?_
    | refine Wp.exit ?_
    | refine Wp.seq ?_)
  refine Wp.loopK [0, 1, 2, 6, 7] (by simp only [go_sem, reduceIte, Nat.reduceEqDiff, Nat.reduceAdd, bx, List.map]; exact rfl) (fun j : Nat => [(8, .int .i64 (j : Nat))]) (fun j => j ≤ l.length ∧ ∀ i, i < j → ldAt l last i = true) (fun j => l.length - j) 0 ⟨Nat.zero_le _, fun i h => absurd h (by omega)⟩ ?_ ?_
  · simp only [AllSub, go_sem, reduceIte, Nat.reduceEqDiff, Nat.reduceAdd, bx]; and_intros <;> first | exact trivial | exact VSub.refl _ | exact VSub.any _ | (refine VSub.int ?_; omega)
  rintro j ⟨hj, hs⟩
  by_cases hj2 : j < l.length
  · have g1 : decide (((j : Nat) : Int) < ((l.length : Nat) : Int)) = true := decide_eq_true (by omega)
    have h2 : (0 : Int) ≤ ((j : Nat) : Int) := by omega
    have h3 : ((j : Nat) : Int) < ((l.length : Nat) : Int) := by omega
    have e1 : IntKind.i64.wrap (((j : Nat) : Int) + 1) = ((j + 1 : Nat) : Int) := by rw [IntWalk.i64_in _ (by omega)]; omega
    have hat := enc_at encI l j .any hj2
    have no : ldAt l last j = false → ldB l last mark = false := fun h => by
      have : (List.range l.length).all (ldAt l last) = false := all_no hj2 h
      rw [ldB, this, Bool.and_false]
    have bad : ldAt l last j = false → VSub (.tup [.agg [.sl 2 [] (.exact 0), .int .i64 0, .int .i64 0], .int .i64 4]) (if ldB l last mark = true then .tup [encS ⟨l, last, mark⟩, .int .i64 0] else .tup [encS ⟨[], 0, 0⟩, .int .i64 4]) := fun h => by
      rw [if_neg (by rw [no h]; exact Bool.false_ne_true)]; exact VSub.tup (VSubs.cons (VSub.agg (VSubs.cons VSub.cap (VSubs.refl _))) (VSubs.refl _))
    have hvx : (l.getD j default).2.length ≤ 4398046511104 := hv _ (by rw [getD_el hj2]; exact List.getElem_mem hj2)
    have hck := rightsR_p (l.getD j default).2 (by omega)
    have def0 : ldAt l last j = (decide (((l.getD j default).1.length : Int) ≤ 128) && (decide (j = 0) || Op.bytesLess (aheadAt l j) (l.getD j default).1) && decide (0 < (l.getD j default).2.length) && chB (l.getD j default).2 && decide (((l.getD j default).2.getD 0 default).t ≤ last)) := rfl
    have stp : ldAt l last j = true → ∀ i, i < j + 1 → ldAt l last i = true := fun h i hi => by
      by_cases e : i = j
      · rw [e]; exact h
      · exact hs i (by omega)
    have ahd : j ≠ 0 → ∃ p : It, p = l.getD (j - 1) default ∧ aheadAt l j = p.1 ∧ p.1.length ≤ 128 ∧ (l.map encI).getD (j - 1) .any = encI p := fun h => by
      refine ⟨_, rfl, by rw [aheadAt, if_neg h], ld_key (hs (j - 1) (by omega)), enc_at encI l (j - 1) .any (by omega)⟩
    generalize hx : l.getD j default = x at *
    obtain ⟨q, vs⟩ := x
    simp only at hvx hck def0
    by_cases q1 : 128 < (q.length : Int)
    · have c1 := decide_eq_true q1
      have hb := bad (by rw [def0, decide_eq_false (show ¬ (q.length : Int) ≤ 128 by omega)]; simp)
      repeat (first
        | ((first | apply Wp.seqItemsR | apply Wp.itemsR); (· simp only [go_sem, reduceIte, Nat.reduceEqDiff, Nat.reduceAdd, bx, ax, if_true, if_false, Nat.reduceMul, Nat.reduceLeDiff, g1, h2, h3, hat, hil, encI, vAV, c1]; exact rfl))
        | (refine WpItems.nil ⟨?_, ?_⟩; (· first | trivial | simp [pairsQ, pairsOk, apart, ent0]))
        | (apply Wp.cond_lit; (· simp only [go_sem, reduceIte, Nat.reduceEqDiff, Nat.reduceAdd, bx, ax, if_true, if_false, Nat.reduceMul, Nat.reduceLeDiff, g1, h2, h3, hat, hil, encI, vAV, c1]; exact rfl); (· rfl))
        | refine Wp.skip ?_
        | refine Wp.label ?_
        | refine Wp.block ?_
        | refine Wp.exit ?_
        | refine Wp.seq ?_)
      refine Wp.ret ⟨trivial, _, rfl, ?_⟩
      simp only [go_sem, reduceIte, Nat.reduceEqDiff, Nat.reduceAdd, bx]
      exact hb
    have c1 := decide_eq_false q1
    have c1' : decide ((q.length : Int) ≤ 128) = true := decide_eq_true (by omega)
    by_cases jz : j = 0
    · have k0 : decide ((0 : Int) < (j : Int)) = false := decide_eq_false (by omega)
      cases vs with
      | nil =>
        have hb := bad (by rw [def0]; simp)
        have n0 : decide (((0 : Nat) : Int) = 0) = true := rfl
        repeat' (first
          | (refine WpItems.nil ⟨?_, ?_⟩; (· first | trivial | simp [pairsQ, pairsOk, apart, ent0]))
          | (apply WpItems.evU; (· simp only [go_sem, reduceIte, Nat.reduceEqDiff, Nat.reduceAdd, bx, ax, if_true, if_false, Nat.reduceMul, Nat.reduceLeDiff, g1, h2, h3, hat, hil, encI, vAV, c1, k0, List.map_nil, List.length_nil, n0, List.length_map]; exact rfl); (· simp only [go_sem, reduceIte, Nat.reduceEqDiff, Nat.reduceAdd, bx, ax, if_true, if_false, Nat.reduceMul, Nat.reduceLeDiff, g1, h2, h3, hat, hil, encI, vAV, c1, k0, List.map_nil, List.length_nil, n0, List.length_map]; exact rfl))
          | (apply WpItems.part 1; (· simp only [go_sem, reduceIte, Nat.reduceEqDiff, Nat.reduceAdd, bx, ax, if_true, if_false, Nat.reduceMul, Nat.reduceLeDiff, g1, h2, h3, hat, hil, encI, vAV, c1, k0, List.map_nil, List.length_nil, n0, List.length_map]; exact rfl); (try simp only [List.drop_succ_cons, List.drop_zero, List.drop_nil]))
          | (refine WpItems.gsplit_dec (p := ?_) ?_ (fun hc => ?_) (fun hc => ?_); rotate_left; (· simp only [go_sem, reduceIte, Nat.reduceEqDiff, Nat.reduceAdd, bx, ax, if_true, if_false, Nat.reduceMul, Nat.reduceLeDiff, g1, h2, h3, hat, hil, encI, vAV, c1, k0, List.map_nil, List.length_nil, n0, List.length_map]; exact rfl))
          | (refine WpItems.gsplit_ndec (p := ?_) ?_ (fun hc => ?_) (fun hc => ?_); rotate_left; (· simp only [go_sem, reduceIte, Nat.reduceEqDiff, Nat.reduceAdd, bx, ax, if_true, if_false, Nat.reduceMul, Nat.reduceLeDiff, g1, h2, h3, hat, hil, encI, vAV, c1, k0, List.map_nil, List.length_nil, n0, List.length_map]; exact rfl))
          | (refine WpItems.gsplit (b := ?_) ?_ (fun hc => ?_) (fun hc => ?_); rotate_left; (· simp only [go_sem, reduceIte, Nat.reduceEqDiff, Nat.reduceAdd, bx, ax, if_true, if_false, Nat.reduceMul, Nat.reduceLeDiff, g1, h2, h3, hat, hil, encI, vAV, c1, k0, List.map_nil, List.length_nil, n0, List.length_map]; exact rfl))
          | refine Wp.seqRegS ?_
          | refine Wp.regS ?_
          | (refine Wp.cond_true ?_ ?_; (· simp only [go_sem, reduceIte, Nat.reduceEqDiff, Nat.reduceAdd, bx, ax, if_true, if_false, Nat.reduceMul, Nat.reduceLeDiff, g1, h2, h3, hat, hil, encI, vAV, c1, k0, List.map_nil, List.length_nil, n0, List.length_map]))
          | (refine Wp.cond_false ?_ ?_; (· simp only [go_sem, reduceIte, Nat.reduceEqDiff, Nat.reduceAdd, bx, ax, if_true, if_false, Nat.reduceMul, Nat.reduceLeDiff, g1, h2, h3, hat, hil, encI, vAV, c1, k0, List.map_nil, List.length_nil, n0, List.length_map]))
          | (refine Wp.cond_dec (p := ?_) ?_ (fun hc => ?_) (fun hc => ?_); rotate_left; (· simp only [go_sem, reduceIte, Nat.reduceEqDiff, Nat.reduceAdd, bx, ax, if_true, if_false, Nat.reduceMul, Nat.reduceLeDiff, g1, h2, h3, hat, hil, encI, vAV, c1, k0, List.map_nil, List.length_nil, n0, List.length_map]; exact rfl))
          | (refine Wp.cond_ndec (p := ?_) ?_ (fun hc => ?_) (fun hc => ?_); rotate_left; (· simp only [go_sem, reduceIte, Nat.reduceEqDiff, Nat.reduceAdd, bx, ax, if_true, if_false, Nat.reduceMul, Nat.reduceLeDiff, g1, h2, h3, hat, hil, encI, vAV, c1, k0, List.map_nil, List.length_nil, n0, List.length_map]; exact rfl))
          | (refine Wp.cond_split (b := ?_) ?_ (fun hc => ?_) (fun hc => ?_); rotate_left; (· simp only [go_sem, reduceIte, Nat.reduceEqDiff, Nat.reduceAdd, bx, ax, if_true, if_false, Nat.reduceMul, Nat.reduceLeDiff, g1, h2, h3, hat, hil, encI, vAV, c1, k0, List.map_nil, List.length_nil, n0, List.length_map]; exact rfl))
          | refine Wp.skip ?_
          | refine Wp.label ?_
          | refine Wp.block ?_
          | refine Wp.exit ?_
          | refine Wp.seq ?_)
        refine Wp.ret ⟨trivial, _, rfl, ?_⟩
        simp only [go_sem, reduceIte, Nat.reduceEqDiff, Nat.reduceAdd, bx]
        exact hb
      | cons v vl =>
        have n0 : decide (((vl.length + 1 : Nat) : Int) = 0) = false := decide_eq_false (by omega)
        have n1 : (0 : Int) < ((vl.length + 1 : Nat) : Int) := by omega
        have i0 : (0 : Int) ≤ 0 := Int.le_refl _
        have t0 : Int.toNat 0 = 0 := rfl
        cases hc : chB (v :: vl) with
        | false =>
          rw [hc] at hck
          have hb := bad (by rw [def0, hc]; simp)
          repeat' (first
            | (refine WpItems.nil ⟨?_, ?_⟩; (· first | trivial | simp [pairsQ, pairsOk, apart, ent0]))
            | (apply WpItems.evU; (· simp only [go_sem, reduceIte, Nat.reduceEqDiff, Nat.reduceAdd, bx, ax, if_true, if_false, Nat.reduceMul, Nat.reduceLeDiff, g1, h2, h3, hat, hil, encI, vAV, c1, k0, List.length_map, List.length_cons, n0, List.length_map]; exact rfl); (· simp only [go_sem, reduceIte, Nat.reduceEqDiff, Nat.reduceAdd, bx, ax, if_true, if_false, Nat.reduceMul, Nat.reduceLeDiff, g1, h2, h3, hat, hil, encI, vAV, c1, k0, List.length_map, List.length_cons, n0, List.length_map]; exact rfl))
            | (apply WpItems.part 1; (· simp only [go_sem, reduceIte, Nat.reduceEqDiff, Nat.reduceAdd, bx, ax, if_true, if_false, Nat.reduceMul, Nat.reduceLeDiff, g1, h2, h3, hat, hil, encI, vAV, c1, k0, List.length_map, List.length_cons, n0, List.length_map]; exact rfl); (try simp only [List.drop_succ_cons, List.drop_zero, List.drop_nil]))
            | (refine WpItems.pcall ?_ ?_ (hck) ?_; (· simp only [go_sem, reduceIte, Nat.reduceEqDiff, Nat.reduceAdd, bx]); (· simp only [go_sem, reduceIte, Nat.reduceEqDiff, Nat.reduceAdd, bx, List.map, ax, if_true, if_false, Nat.reduceMul, Nat.reduceLeDiff, g1, h2, h3, hat, hil, encI, vAV, c1, k0, List.length_map, List.length_cons, n0, List.length_map]; first | exact VSubs.refl _ | (repeat (first | exact VSubs.nil | refine VSubs.cons (by first | exact VSub.refl _ | assumption | exact VSub.cap | exact VSub.any _) ?_))))
            | (refine WpItems.gsplit_dec (p := ?_) ?_ (fun hc => ?_) (fun hc => ?_); rotate_left; (· simp only [go_sem, reduceIte, Nat.reduceEqDiff, Nat.reduceAdd, bx, ax, if_true, if_false, Nat.reduceMul, Nat.reduceLeDiff, g1, h2, h3, hat, hil, encI, vAV, c1, k0, List.length_map, List.length_cons, n0, List.length_map]; exact rfl))
            | (refine WpItems.gsplit_ndec (p := ?_) ?_ (fun hc => ?_) (fun hc => ?_); rotate_left; (· simp only [go_sem, reduceIte, Nat.reduceEqDiff, Nat.reduceAdd, bx, ax, if_true, if_false, Nat.reduceMul, Nat.reduceLeDiff, g1, h2, h3, hat, hil, encI, vAV, c1, k0, List.length_map, List.length_cons, n0, List.length_map]; exact rfl))
            | (refine WpItems.gsplit (b := ?_) ?_ (fun hc => ?_) (fun hc => ?_); rotate_left; (· simp only [go_sem, reduceIte, Nat.reduceEqDiff, Nat.reduceAdd, bx, ax, if_true, if_false, Nat.reduceMul, Nat.reduceLeDiff, g1, h2, h3, hat, hil, encI, vAV, c1, k0, List.length_map, List.length_cons, n0, List.length_map]; exact rfl))
            | refine Wp.seqRegS ?_
            | refine Wp.regS ?_
            | (refine Wp.cond_true ?_ ?_; (· simp only [go_sem, reduceIte, Nat.reduceEqDiff, Nat.reduceAdd, bx, ax, if_true, if_false, Nat.reduceMul, Nat.reduceLeDiff, g1, h2, h3, hat, hil, encI, vAV, c1, k0, List.length_map, List.length_cons, n0, List.length_map]))
            | (refine Wp.cond_false ?_ ?_; (· simp only [go_sem, reduceIte, Nat.reduceEqDiff, Nat.reduceAdd, bx, ax, if_true, if_false, Nat.reduceMul, Nat.reduceLeDiff, g1, h2, h3, hat, hil, encI, vAV, c1, k0, List.length_map, List.length_cons, n0, List.length_map]))
            | (refine Wp.cond_dec (p := ?_) ?_ (fun hc => ?_) (fun hc => ?_); rotate_left; (· simp only [go_sem, reduceIte, Nat.reduceEqDiff, Nat.reduceAdd, bx, ax, if_true, if_false, Nat.reduceMul, Nat.reduceLeDiff, g1, h2, h3, hat, hil, encI, vAV, c1, k0, List.length_map, List.length_cons, n0, List.length_map]; exact rfl))
            | (refine Wp.cond_ndec (p := ?_) ?_ (fun hc => ?_) (fun hc => ?_); rotate_left; (· simp only [go_sem, reduceIte, Nat.reduceEqDiff, Nat.reduceAdd, bx, ax, if_true, if_false, Nat.reduceMul, Nat.reduceLeDiff, g1, h2, h3, hat, hil, encI, vAV, c1, k0, List.length_map, List.length_cons, n0, List.length_map]; exact rfl))
            | (refine Wp.cond_split (b := ?_) ?_ (fun hc => ?_) (fun hc => ?_); rotate_left; (· simp only [go_sem, reduceIte, Nat.reduceEqDiff, Nat.reduceAdd, bx, ax, if_true, if_false, Nat.reduceMul, Nat.reduceLeDiff, g1, h2, h3, hat, hil, encI, vAV, c1, k0, List.length_map, List.length_cons, n0, List.length_map]; exact rfl))
            | refine Wp.skip ?_
            | refine Wp.label ?_
            | refine Wp.block ?_
            | refine Wp.exit ?_
            | refine Wp.seq ?_)
          refine Wp.ret ⟨trivial, _, rfl, ?_⟩
          simp only [go_sem, reduceIte, Nat.reduceEqDiff, Nat.reduceAdd, bx]
          exact hb
        | true =>
          rw [hc] at hck
          by_cases q5 : last < v.t
          · have d5 := decide_eq_true q5
            have hb := bad (by rw [def0, List.getD_cons_zero, decide_eq_false (show ¬ v.t ≤ last by omega)]; simp)
            repeat' (first
              | (refine WpItems.nil ⟨?_, ?_⟩; (· first | trivial | simp [pairsQ, pairsOk, apart, ent0]))
              | (apply WpItems.evU; (· simp only [go_sem, reduceIte, Nat.reduceEqDiff, Nat.reduceAdd, bx, ax, if_true, if_false, Nat.reduceMul, Nat.reduceLeDiff, g1, h2, h3, hat, hil, encI, vAV, c1, k0, List.length_map, List.length_cons, n0, n1, i0, t0, List.map_cons, List.getD_cons_zero, encV, d5, List.length_map]; exact rfl); (· simp only [go_sem, reduceIte, Nat.reduceEqDiff, Nat.reduceAdd, bx, ax, if_true, if_false, Nat.reduceMul, Nat.reduceLeDiff, g1, h2, h3, hat, hil, encI, vAV, c1, k0, List.length_map, List.length_cons, n0, n1, i0, t0, List.map_cons, List.getD_cons_zero, encV, d5, List.length_map]; exact rfl))
              | (apply WpItems.part 1; (· simp only [go_sem, reduceIte, Nat.reduceEqDiff, Nat.reduceAdd, bx, ax, if_true, if_false, Nat.reduceMul, Nat.reduceLeDiff, g1, h2, h3, hat, hil, encI, vAV, c1, k0, List.length_map, List.length_cons, n0, n1, i0, t0, List.map_cons, List.getD_cons_zero, encV, d5, List.length_map]; exact rfl); (try simp only [List.drop_succ_cons, List.drop_zero, List.drop_nil]))
              | (refine WpItems.pcall ?_ ?_ (hck) ?_; (· simp only [go_sem, reduceIte, Nat.reduceEqDiff, Nat.reduceAdd, bx]); (· simp only [go_sem, reduceIte, Nat.reduceEqDiff, Nat.reduceAdd, bx, List.map, ax, if_true, if_false, Nat.reduceMul, Nat.reduceLeDiff, g1, h2, h3, hat, hil, encI, vAV, c1, k0, List.length_map, List.length_cons, n0, n1, i0, t0, List.map_cons, List.getD_cons_zero, encV, d5, List.length_map]; first | exact VSubs.refl _ | (repeat (first | exact VSubs.nil | refine VSubs.cons (by first | exact VSub.refl _ | assumption | exact VSub.cap | exact VSub.any _) ?_))))
              | (refine WpItems.gsplit_dec (p := ?_) ?_ (fun hc => ?_) (fun hc => ?_); rotate_left; (· simp only [go_sem, reduceIte, Nat.reduceEqDiff, Nat.reduceAdd, bx, ax, if_true, if_false, Nat.reduceMul, Nat.reduceLeDiff, g1, h2, h3, hat, hil, encI, vAV, c1, k0, List.length_map, List.length_cons, n0, n1, i0, t0, List.map_cons, List.getD_cons_zero, encV, d5, List.length_map]; exact rfl))
              | (refine WpItems.gsplit_ndec (p := ?_) ?_ (fun hc => ?_) (fun hc => ?_); rotate_left; (· simp only [go_sem, reduceIte, Nat.reduceEqDiff, Nat.reduceAdd, bx, ax, if_true, if_false, Nat.reduceMul, Nat.reduceLeDiff, g1, h2, h3, hat, hil, encI, vAV, c1, k0, List.length_map, List.length_cons, n0, n1, i0, t0, List.map_cons, List.getD_cons_zero, encV, d5, List.length_map]; exact rfl))
              | (refine WpItems.gsplit (b := ?_) ?_ (fun hc => ?_) (fun hc => ?_); rotate_left; (· simp only [go_sem, reduceIte, Nat.reduceEqDiff, Nat.reduceAdd, bx, ax, if_true, if_false, Nat.reduceMul, Nat.reduceLeDiff, g1, h2, h3, hat, hil, encI, vAV, c1, k0, List.length_map, List.length_cons, n0, n1, i0, t0, List.map_cons, List.getD_cons_zero, encV, d5, List.length_map]; exact rfl))
              | refine Wp.seqRegS ?_
              | refine Wp.regS ?_
              | (refine Wp.cond_true ?_ ?_; (· simp only [go_sem, reduceIte, Nat.reduceEqDiff, Nat.reduceAdd, bx, ax, if_true, if_false, Nat.reduceMul, Nat.reduceLeDiff, g1, h2, h3, hat, hil, encI, vAV, c1, k0, List.length_map, List.length_cons, n0, n1, i0, t0, List.map_cons, List.getD_cons_zero, encV, d5, List.length_map]))
              | (refine Wp.cond_false ?_ ?_; (· simp only [go_sem, reduceIte, Nat.reduceEqDiff, Nat.reduceAdd, bx, ax, if_true, if_false, Nat.reduceMul, Nat.reduceLeDiff, g1, h2, h3, hat, hil, encI, vAV, c1, k0, List.length_map, List.length_cons, n0, n1, i0, t0, List.map_cons, List.getD_cons_zero, encV, d5, List.length_map]))
              | (refine Wp.cond_dec (p := ?_) ?_ (fun hc => ?_) (fun hc => ?_); rotate_left; (· simp only [go_sem, reduceIte, Nat.reduceEqDiff, Nat.reduceAdd, bx, ax, if_true, if_false, Nat.reduceMul, Nat.reduceLeDiff, g1, h2, h3, hat, hil, encI, vAV, c1, k0, List.length_map, List.length_cons, n0, n1, i0, t0, List.map_cons, List.getD_cons_zero, encV, d5, List.length_map]; exact rfl))
              | (refine Wp.cond_ndec (p := ?_) ?_ (fun hc => ?_) (fun hc => ?_); rotate_left; (· simp only [go_sem, reduceIte, Nat.reduceEqDiff, Nat.reduceAdd, bx, ax, if_true, if_false, Nat.reduceMul, Nat.reduceLeDiff, g1, h2, h3, hat, hil, encI, vAV, c1, k0, List.length_map, List.length_cons, n0, n1, i0, t0, List.map_cons, List.getD_cons_zero, encV, d5, List.length_map]; exact rfl))
              | (refine Wp.cond_split (b := ?_) ?_ (fun hc => ?_) (fun hc => ?_); rotate_left; (· simp only [go_sem, reduceIte, Nat.reduceEqDiff, Nat.reduceAdd, bx, ax, if_true, if_false, Nat.reduceMul, Nat.reduceLeDiff, g1, h2, h3, hat, hil, encI, vAV, c1, k0, List.length_map, List.length_cons, n0, n1, i0, t0, List.map_cons, List.getD_cons_zero, encV, d5, List.length_map]; exact rfl))
              | refine Wp.skip ?_
              | refine Wp.label ?_
              | refine Wp.block ?_
              | refine Wp.exit ?_
              | refine Wp.seq ?_)
            refine Wp.ret ⟨trivial, _, rfl, ?_⟩
            simp only [go_sem, reduceIte, Nat.reduceEqDiff, Nat.reduceAdd, bx]
            exact hb
          · have d5 := decide_eq_false q5
            have hy := stp (by rw [def0, c1', hc, List.getD_cons_zero, decide_eq_true (show v.t ≤ last by omega)]; simp [jz])
            repeat' (first
              | (refine WpItems.nil ⟨?_, ?_⟩; (· first | trivial | simp [pairsQ, pairsOk, apart, ent0]))
              | (apply WpItems.evU; (· simp only [go_sem, reduceIte, Nat.reduceEqDiff, Nat.reduceAdd, bx, ax, if_true, if_false, Nat.reduceMul, Nat.reduceLeDiff, g1, h2, h3, hat, hil, encI, vAV, c1, k0, List.length_map, List.length_cons, n0, n1, i0, t0, List.map_cons, List.getD_cons_zero, encV, d5, e1, List.length_map]; exact rfl); (· simp only [go_sem, reduceIte, Nat.reduceEqDiff, Nat.reduceAdd, bx, ax, if_true, if_false, Nat.reduceMul, Nat.reduceLeDiff, g1, h2, h3, hat, hil, encI, vAV, c1, k0, List.length_map, List.length_cons, n0, n1, i0, t0, List.map_cons, List.getD_cons_zero, encV, d5, e1, List.length_map]; exact rfl))
              | (apply WpItems.part 1; (· simp only [go_sem, reduceIte, Nat.reduceEqDiff, Nat.reduceAdd, bx, ax, if_true, if_false, Nat.reduceMul, Nat.reduceLeDiff, g1, h2, h3, hat, hil, encI, vAV, c1, k0, List.length_map, List.length_cons, n0, n1, i0, t0, List.map_cons, List.getD_cons_zero, encV, d5, e1, List.length_map]; exact rfl); (try simp only [List.drop_succ_cons, List.drop_zero, List.drop_nil]))
              | (refine WpItems.pcall ?_ ?_ (hck) ?_; (· simp only [go_sem, reduceIte, Nat.reduceEqDiff, Nat.reduceAdd, bx]); (· simp only [go_sem, reduceIte, Nat.reduceEqDiff, Nat.reduceAdd, bx, List.map, ax, if_true, if_false, Nat.reduceMul, Nat.reduceLeDiff, g1, h2, h3, hat, hil, encI, vAV, c1, k0, List.length_map, List.length_cons, n0, n1, i0, t0, List.map_cons, List.getD_cons_zero, encV, d5, e1, List.length_map]; first | exact VSubs.refl _ | (repeat (first | exact VSubs.nil | refine VSubs.cons (by first | exact VSub.refl _ | assumption | exact VSub.cap | exact VSub.any _) ?_))))
              | (refine WpItems.gsplit_dec (p := ?_) ?_ (fun hc => ?_) (fun hc => ?_); rotate_left; (· simp only [go_sem, reduceIte, Nat.reduceEqDiff, Nat.reduceAdd, bx, ax, if_true, if_false, Nat.reduceMul, Nat.reduceLeDiff, g1, h2, h3, hat, hil, encI, vAV, c1, k0, List.length_map, List.length_cons, n0, n1, i0, t0, List.map_cons, List.getD_cons_zero, encV, d5, e1, List.length_map]; exact rfl))
              | (refine WpItems.gsplit_ndec (p := ?_) ?_ (fun hc => ?_) (fun hc => ?_); rotate_left; (· simp only [go_sem, reduceIte, Nat.reduceEqDiff, Nat.reduceAdd, bx, ax, if_true, if_false, Nat.reduceMul, Nat.reduceLeDiff, g1, h2, h3, hat, hil, encI, vAV, c1, k0, List.length_map, List.length_cons, n0, n1, i0, t0, List.map_cons, List.getD_cons_zero, encV, d5, e1, List.length_map]; exact rfl))
              | (refine WpItems.gsplit (b := ?_) ?_ (fun hc => ?_) (fun hc => ?_); rotate_left; (· simp only [go_sem, reduceIte, Nat.reduceEqDiff, Nat.reduceAdd, bx, ax, if_true, if_false, Nat.reduceMul, Nat.reduceLeDiff, g1, h2, h3, hat, hil, encI, vAV, c1, k0, List.length_map, List.length_cons, n0, n1, i0, t0, List.map_cons, List.getD_cons_zero, encV, d5, e1, List.length_map]; exact rfl))
              | refine Wp.seqRegS ?_
              | refine Wp.regS ?_
              | (refine Wp.cond_true ?_ ?_; (· simp only [go_sem, reduceIte, Nat.reduceEqDiff, Nat.reduceAdd, bx, ax, if_true, if_false, Nat.reduceMul, Nat.reduceLeDiff, g1, h2, h3, hat, hil, encI, vAV, c1, k0, List.length_map, List.length_cons, n0, n1, i0, t0, List.map_cons, List.getD_cons_zero, encV, d5, e1, List.length_map]))
              | (refine Wp.cond_false ?_ ?_; (· simp only [go_sem, reduceIte, Nat.reduceEqDiff, Nat.reduceAdd, bx, ax, if_true, if_false, Nat.reduceMul, Nat.reduceLeDiff, g1, h2, h3, hat, hil, encI, vAV, c1, k0, List.length_map, List.length_cons, n0, n1, i0, t0, List.map_cons, List.getD_cons_zero, encV, d5, e1, List.length_map]))
              | (refine Wp.cond_dec (p := ?_) ?_ (fun hc => ?_) (fun hc => ?_); rotate_left; (· simp only [go_sem, reduceIte, Nat.reduceEqDiff, Nat.reduceAdd, bx, ax, if_true, if_false, Nat.reduceMul, Nat.reduceLeDiff, g1, h2, h3, hat, hil, encI, vAV, c1, k0, List.length_map, List.length_cons, n0, n1, i0, t0, List.map_cons, List.getD_cons_zero, encV, d5, e1, List.length_map]; exact rfl))
              | (refine Wp.cond_ndec (p := ?_) ?_ (fun hc => ?_) (fun hc => ?_); rotate_left; (· simp only [go_sem, reduceIte, Nat.reduceEqDiff, Nat.reduceAdd, bx, ax, if_true, if_false, Nat.reduceMul, Nat.reduceLeDiff, g1, h2, h3, hat, hil, encI, vAV, c1, k0, List.length_map, List.length_cons, n0, n1, i0, t0, List.map_cons, List.getD_cons_zero, encV, d5, e1, List.length_map]; exact rfl))
              | (refine Wp.cond_split (b := ?_) ?_ (fun hc => ?_) (fun hc => ?_); rotate_left; (· simp only [go_sem, reduceIte, Nat.reduceEqDiff, Nat.reduceAdd, bx, ax, if_true, if_false, Nat.reduceMul, Nat.reduceLeDiff, g1, h2, h3, hat, hil, encI, vAV, c1, k0, List.length_map, List.length_cons, n0, n1, i0, t0, List.map_cons, List.getD_cons_zero, encV, d5, e1, List.length_map]; exact rfl))
              | refine Wp.skip ?_
              | refine Wp.label ?_
              | refine Wp.block ?_
              | refine Wp.exit ?_
              | refine Wp.seq ?_)
            refine ⟨j + 1, ⟨by omega, hy⟩, by omega, ?_⟩
            refine StLe.tm (by simp only [AllSub, go_sem, reduceIte, Nat.reduceEqDiff, Nat.reduceAdd, bx]; and_intros <;> first | exact trivial | exact VSub.refl _ | exact VSub.any _ | (refine VSub.int ?_; omega))
    · have k0 : decide ((0 : Int) < (j : Int)) = true := decide_eq_true (by omega)
      have k1 : IntKind.i64.wrap ((j : Int) - 1) = ((j - 1 : Nat) : Int) := by rw [IntWalk.i64_in _ (by omega)]; omega
      have k2 : (0 : Int) ≤ ((j - 1 : Nat) : Int) := by omega
      have k3 : ((j - 1 : Nat) : Int) < (l.length : Int) := by omega
      obtain ⟨p, hp, ha, hpl, hpa⟩ := ahd jz
      clear hp
      have hbel := below_p p.1 q (by unfold Ls; omega) (by unfold Ls; omega)
      cases q2 : Op.bytesLess p.1 q with
      | false =>
        rw [q2] at hbel
        have hb := bad (by rw [def0, ha, q2]; simp [jz])
        repeat' (first
          | (refine WpItems.nil ⟨?_, ?_⟩; (· first | trivial | simp [pairsQ, pairsOk, apart, ent0]))
          | (apply WpItems.evU; (· simp only [go_sem, reduceIte, Nat.reduceEqDiff, Nat.reduceAdd, bx, ax, if_true, if_false, Nat.reduceMul, Nat.reduceLeDiff, g1, h2, h3, hat, hil, encI, vAV, c1, k0, k1, k2, k3, hpa, List.length_map]; exact rfl); (· simp only [go_sem, reduceIte, Nat.reduceEqDiff, Nat.reduceAdd, bx, ax, if_true, if_false, Nat.reduceMul, Nat.reduceLeDiff, g1, h2, h3, hat, hil, encI, vAV, c1, k0, k1, k2, k3, hpa, List.length_map]; exact rfl))
          | (apply WpItems.part 1; (· simp only [go_sem, reduceIte, Nat.reduceEqDiff, Nat.reduceAdd, bx, ax, if_true, if_false, Nat.reduceMul, Nat.reduceLeDiff, g1, h2, h3, hat, hil, encI, vAV, c1, k0, k1, k2, k3, hpa, List.length_map]; exact rfl); (try simp only [List.drop_succ_cons, List.drop_zero, List.drop_nil]))
          | (refine WpItems.pcall ?_ ?_ (hbel) ?_; (· simp only [go_sem, reduceIte, Nat.reduceEqDiff, Nat.reduceAdd, bx]); (· simp only [go_sem, reduceIte, Nat.reduceEqDiff, Nat.reduceAdd, bx, List.map, ax, if_true, if_false, Nat.reduceMul, Nat.reduceLeDiff, g1, h2, h3, hat, hil, encI, vAV, c1, k0, k1, k2, k3, hpa, List.length_map]; first | exact VSubs.refl _ | (repeat (first | exact VSubs.nil | refine VSubs.cons (by first | exact VSub.refl _ | assumption | exact VSub.cap | exact VSub.any _) ?_))))
          | (refine WpItems.gsplit_dec (p := ?_) ?_ (fun hc => ?_) (fun hc => ?_); rotate_left; (· simp only [go_sem, reduceIte, Nat.reduceEqDiff, Nat.reduceAdd, bx, ax, if_true, if_false, Nat.reduceMul, Nat.reduceLeDiff, g1, h2, h3, hat, hil, encI, vAV, c1, k0, k1, k2, k3, hpa, List.length_map]; exact rfl))
          | (refine WpItems.gsplit_ndec (p := ?_) ?_ (fun hc => ?_) (fun hc => ?_); rotate_left; (· simp only [go_sem, reduceIte, Nat.reduceEqDiff, Nat.reduceAdd, bx, ax, if_true, if_false, Nat.reduceMul, Nat.reduceLeDiff, g1, h2, h3, hat, hil, encI, vAV, c1, k0, k1, k2, k3, hpa, List.length_map]; exact rfl))
          | (refine WpItems.gsplit (b := ?_) ?_ (fun hc => ?_) (fun hc => ?_); rotate_left; (· simp only [go_sem, reduceIte, Nat.reduceEqDiff, Nat.reduceAdd, bx, ax, if_true, if_false, Nat.reduceMul, Nat.reduceLeDiff, g1, h2, h3, hat, hil, encI, vAV, c1, k0, k1, k2, k3, hpa, List.length_map]; exact rfl))
          | refine Wp.seqRegS ?_
          | refine Wp.regS ?_
          | (refine Wp.cond_true ?_ ?_; (· simp only [go_sem, reduceIte, Nat.reduceEqDiff, Nat.reduceAdd, bx, ax, if_true, if_false, Nat.reduceMul, Nat.reduceLeDiff, g1, h2, h3, hat, hil, encI, vAV, c1, k0, k1, k2, k3, hpa, List.length_map]))
          | (refine Wp.cond_false ?_ ?_; (· simp only [go_sem, reduceIte, Nat.reduceEqDiff, Nat.reduceAdd, bx, ax, if_true, if_false, Nat.reduceMul, Nat.reduceLeDiff, g1, h2, h3, hat, hil, encI, vAV, c1, k0, k1, k2, k3, hpa, List.length_map]))
          | (refine Wp.cond_dec (p := ?_) ?_ (fun hc => ?_) (fun hc => ?_); rotate_left; (· simp only [go_sem, reduceIte, Nat.reduceEqDiff, Nat.reduceAdd, bx, ax, if_true, if_false, Nat.reduceMul, Nat.reduceLeDiff, g1, h2, h3, hat, hil, encI, vAV, c1, k0, k1, k2, k3, hpa, List.length_map]; exact rfl))
          | (refine Wp.cond_ndec (p := ?_) ?_ (fun hc => ?_) (fun hc => ?_); rotate_left; (· simp only [go_sem, reduceIte, Nat.reduceEqDiff, Nat.reduceAdd, bx, ax, if_true, if_false, Nat.reduceMul, Nat.reduceLeDiff, g1, h2, h3, hat, hil, encI, vAV, c1, k0, k1, k2, k3, hpa, List.length_map]; exact rfl))
          | (refine Wp.cond_split (b := ?_) ?_ (fun hc => ?_) (fun hc => ?_); rotate_left; (· simp only [go_sem, reduceIte, Nat.reduceEqDiff, Nat.reduceAdd, bx, ax, if_true, if_false, Nat.reduceMul, Nat.reduceLeDiff, g1, h2, h3, hat, hil, encI, vAV, c1, k0, k1, k2, k3, hpa, List.length_map]; exact rfl))
          | refine Wp.skip ?_
          | refine Wp.label ?_
          | refine Wp.block ?_
          | refine Wp.exit ?_
          | refine Wp.seq ?_)
        refine Wp.ret ⟨trivial, _, rfl, ?_⟩
        simp only [go_sem, reduceIte, Nat.reduceEqDiff, Nat.reduceAdd, bx]
        exact hb
      | true =>
        rw [q2] at hbel
        cases vs with
        | nil =>
          have hb := bad (by rw [def0]; simp)
          have n0 : decide (((0 : Nat) : Int) = 0) = true := rfl
          repeat' (first
            | (refine WpItems.nil ⟨?_, ?_⟩; (· first | trivial | simp [pairsQ, pairsOk, apart, ent0]))
            | (apply WpItems.evU; (· simp only [go_sem, reduceIte, Nat.reduceEqDiff, Nat.reduceAdd, bx, ax, if_true, if_false, Nat.reduceMul, Nat.reduceLeDiff, g1, h2, h3, hat, hil, encI, vAV, c1, k0, k1, k2, k3, hpa, List.map_nil, List.length_nil, n0, List.length_map]; exact rfl); (· simp only [go_sem, reduceIte, Nat.reduceEqDiff, Nat.reduceAdd, bx, ax, if_true, if_false, Nat.reduceMul, Nat.reduceLeDiff, g1, h2, h3, hat, hil, encI, vAV, c1, k0, k1, k2, k3, hpa, List.map_nil, List.length_nil, n0, List.length_map]; exact rfl))
            | (apply WpItems.part 1; (· simp only [go_sem, reduceIte, Nat.reduceEqDiff, Nat.reduceAdd, bx, ax, if_true, if_false, Nat.reduceMul, Nat.reduceLeDiff, g1, h2, h3, hat, hil, encI, vAV, c1, k0, k1, k2, k3, hpa, List.map_nil, List.length_nil, n0, List.length_map]; exact rfl); (try simp only [List.drop_succ_cons, List.drop_zero, List.drop_nil]))
            | (refine WpItems.pcall ?_ ?_ (hbel) ?_; (· simp only [go_sem, reduceIte, Nat.reduceEqDiff, Nat.reduceAdd, bx]); (· simp only [go_sem, reduceIte, Nat.reduceEqDiff, Nat.reduceAdd, bx, List.map, ax, if_true, if_false, Nat.reduceMul, Nat.reduceLeDiff, g1, h2, h3, hat, hil, encI, vAV, c1, k0, k1, k2, k3, hpa, List.map_nil, List.length_nil, n0, List.length_map]; first | exact VSubs.refl _ | (repeat (first | exact VSubs.nil | refine VSubs.cons (by first | exact VSub.refl _ | assumption | exact VSub.cap | exact VSub.any _) ?_))))
            | (refine WpItems.gsplit_dec (p := ?_) ?_ (fun hc => ?_) (fun hc => ?_); rotate_left; (· simp only [go_sem, reduceIte, Nat.reduceEqDiff, Nat.reduceAdd, bx, ax, if_true, if_false, Nat.reduceMul, Nat.reduceLeDiff, g1, h2, h3, hat, hil, encI, vAV, c1, k0, k1, k2, k3, hpa, List.map_nil, List.length_nil, n0, List.length_map]; exact rfl))
            | (refine WpItems.gsplit_ndec (p := ?_) ?_ (fun hc => ?_) (fun hc => ?_); rotate_left; (· simp only [go_sem, reduceIte, Nat.reduceEqDiff, Nat.reduceAdd, bx, ax, if_true, if_false, Nat.reduceMul, Nat.reduceLeDiff, g1, h2, h3, hat, hil, encI, vAV, c1, k0, k1, k2, k3, hpa, List.map_nil, List.length_nil, n0, List.length_map]; exact rfl))
            | (refine WpItems.gsplit (b := ?_) ?_ (fun hc => ?_) (fun hc => ?_); rotate_left; (· simp only [go_sem, reduceIte, Nat.reduceEqDiff, Nat.reduceAdd, bx, ax, if_true, if_false, Nat.reduceMul, Nat.reduceLeDiff, g1, h2, h3, hat, hil, encI, vAV, c1, k0, k1, k2, k3, hpa, List.map_nil, List.length_nil, n0, List.length_map]; exact rfl))
            | refine Wp.seqRegS ?_
            | refine Wp.regS ?_
            | (refine Wp.cond_true ?_ ?_; (· simp only [go_sem, reduceIte, Nat.reduceEqDiff, Nat.reduceAdd, bx, ax, if_true, if_false, Nat.reduceMul, Nat.reduceLeDiff, g1, h2, h3, hat, hil, encI, vAV, c1, k0, k1, k2, k3, hpa, List.map_nil, List.length_nil, n0, List.length_map]))
            | (refine Wp.cond_false ?_ ?_; (· simp only [go_sem, reduceIte, Nat.reduceEqDiff, Nat.reduceAdd, bx, ax, if_true, if_false, Nat.reduceMul, Nat.reduceLeDiff, g1, h2, h3, hat, hil, encI, vAV, c1, k0, k1, k2, k3, hpa, List.map_nil, List.length_nil, n0, List.length_map]))
            | (refine Wp.cond_dec (p := ?_) ?_ (fun hc => ?_) (fun hc => ?_); rotate_left; (· simp only [go_sem, reduceIte, Nat.reduceEqDiff, Nat.reduceAdd, bx, ax, if_true, if_false, Nat.reduceMul, Nat.reduceLeDiff, g1, h2, h3, hat, hil, encI, vAV, c1, k0, k1, k2, k3, hpa, List.map_nil, List.length_nil, n0, List.length_map]; exact rfl))
            | (refine Wp.cond_ndec (p := ?_) ?_ (fun hc => ?_) (fun hc => ?_); rotate_left; (· simp only [go_sem, reduceIte, Nat.reduceEqDiff, Nat.reduceAdd, bx, ax, if_true, if_false, Nat.reduceMul, Nat.reduceLeDiff, g1, h2, h3, hat, hil, encI, vAV, c1, k0, k1, k2, k3, hpa, List.map_nil, List.length_nil, n0, List.length_map]; exact rfl))
            | (refine Wp.cond_split (b := ?_) ?_ (fun hc => ?_) (fun hc => ?_); rotate_left; (· simp only [go_sem, reduceIte, Nat.reduceEqDiff, Nat.reduceAdd, bx, ax, if_true, if_false, Nat.reduceMul, Nat.reduceLeDiff, g1, h2, h3, hat, hil, encI, vAV, c1, k0, k1, k2, k3, hpa, List.map_nil, List.length_nil, n0, List.length_map]; exact rfl))
            | refine Wp.skip ?_
            | refine Wp.label ?_
            | refine Wp.block ?_
            | refine Wp.exit ?_
            | refine Wp.seq ?_)
          refine Wp.ret ⟨trivial, _, rfl, ?_⟩
          simp only [go_sem, reduceIte, Nat.reduceEqDiff, Nat.reduceAdd, bx]
          exact hb
        | cons v vl =>
          have n0 : decide (((vl.length + 1 : Nat) : Int) = 0) = false := decide_eq_false (by omega)
          have n1 : (0 : Int) < ((vl.length + 1 : Nat) : Int) := by omega
          have i0 : (0 : Int) ≤ 0 := Int.le_refl _
          have t0 : Int.toNat 0 = 0 := rfl
          cases hc : chB (v :: vl) with
          | false =>
            rw [hc] at hck
            have hb := bad (by rw [def0, hc]; simp)
            repeat' (first
              | (refine WpItems.nil ⟨?_, ?_⟩; (· first | trivial | simp [pairsQ, pairsOk, apart, ent0]))
              | (apply WpItems.evU; (· simp only [go_sem, reduceIte, Nat.reduceEqDiff, Nat.reduceAdd, bx, ax, if_true, if_false, Nat.reduceMul, Nat.reduceLeDiff, g1, h2, h3, hat, hil, encI, vAV, c1, k0, k1, k2, k3, hpa, List.length_map, List.length_cons, n0, List.length_map]; exact rfl); (· simp only [go_sem, reduceIte, Nat.reduceEqDiff, Nat.reduceAdd, bx, ax, if_true, if_false, Nat.reduceMul, Nat.reduceLeDiff, g1, h2, h3, hat, hil, encI, vAV, c1, k0, k1, k2, k3, hpa, List.length_map, List.length_cons, n0, List.length_map]; exact rfl))
              | (apply WpItems.part 1; (· simp only [go_sem, reduceIte, Nat.reduceEqDiff, Nat.reduceAdd, bx, ax, if_true, if_false, Nat.reduceMul, Nat.reduceLeDiff, g1, h2, h3, hat, hil, encI, vAV, c1, k0, k1, k2, k3, hpa, List.length_map, List.length_cons, n0, List.length_map]; exact rfl); (try simp only [List.drop_succ_cons, List.drop_zero, List.drop_nil]))
              | (refine WpItems.pcall ?_ ?_ (hbel) ?_; (· simp only [go_sem, reduceIte, Nat.reduceEqDiff, Nat.reduceAdd, bx]); (· simp only [go_sem, reduceIte, Nat.reduceEqDiff, Nat.reduceAdd, bx, List.map, ax, if_true, if_false, Nat.reduceMul, Nat.reduceLeDiff, g1, h2, h3, hat, hil, encI, vAV, c1, k0, k1, k2, k3, hpa, List.length_map, List.length_cons, n0, List.length_map]; first | exact VSubs.refl _ | (repeat (first | exact VSubs.nil | refine VSubs.cons (by first | exact VSub.refl _ | assumption | exact VSub.cap | exact VSub.any _) ?_))))
              | (refine WpItems.pcall ?_ ?_ (hck) ?_; (· simp only [go_sem, reduceIte, Nat.reduceEqDiff, Nat.reduceAdd, bx]); (· simp only [go_sem, reduceIte, Nat.reduceEqDiff, Nat.reduceAdd, bx, List.map, ax, if_true, if_false, Nat.reduceMul, Nat.reduceLeDiff, g1, h2, h3, hat, hil, encI, vAV, c1, k0, k1, k2, k3, hpa, List.length_map, List.length_cons, n0, List.length_map]; first | exact VSubs.refl _ | (repeat (first | exact VSubs.nil | refine VSubs.cons (by first | exact VSub.refl _ | assumption | exact VSub.cap | exact VSub.any _) ?_))))
              | (refine WpItems.gsplit_dec (p := ?_) ?_ (fun hc => ?_) (fun hc => ?_); rotate_left; (· simp only [go_sem, reduceIte, Nat.reduceEqDiff, Nat.reduceAdd, bx, ax, if_true, if_false, Nat.reduceMul, Nat.reduceLeDiff, g1, h2, h3, hat, hil, encI, vAV, c1, k0, k1, k2, k3, hpa, List.length_map, List.length_cons, n0, List.length_map]; exact rfl))
              | (refine WpItems.gsplit_ndec (p := ?_) ?_ (fun hc => ?_) (fun hc => ?_); rotate_left; (· simp only [go_sem, reduceIte, Nat.reduceEqDiff, Nat.reduceAdd, bx, ax, if_true, if_false, Nat.reduceMul, Nat.reduceLeDiff, g1, h2, h3, hat, hil, encI, vAV, c1, k0, k1, k2, k3, hpa, List.length_map, List.length_cons, n0, List.length_map]; exact rfl))
              | (refine WpItems.gsplit (b := ?_) ?_ (fun hc => ?_) (fun hc => ?_); rotate_left; (· simp only [go_sem, reduceIte, Nat.reduceEqDiff, Nat.reduceAdd, bx, ax, if_true, if_false, Nat.reduceMul, Nat.reduceLeDiff, g1, h2, h3, hat, hil, encI, vAV, c1, k0, k1, k2, k3, hpa, List.length_map, List.length_cons, n0, List.length_map]; exact rfl))
              | refine Wp.seqRegS ?_
              | refine Wp.regS ?_
              | (refine Wp.cond_true ?_ ?_; (· simp only [go_sem, reduceIte, Nat.reduceEqDiff, Nat.reduceAdd, bx, ax, if_true, if_false, Nat.reduceMul, Nat.reduceLeDiff, g1, h2, h3, hat, hil, encI, vAV, c1, k0, k1, k2, k3, hpa, List.length_map, List.length_cons, n0, List.length_map]))
              | (refine Wp.cond_false ?_ ?_; (· simp only [go_sem, reduceIte, Nat.reduceEqDiff, Nat.reduceAdd, bx, ax, if_true, if_false, Nat.reduceMul, Nat.reduceLeDiff, g1, h2, h3, hat, hil, encI, vAV, c1, k0, k1, k2, k3, hpa, List.length_map, List.length_cons, n0, List.length_map]))
              | (refine Wp.cond_dec (p := ?_) ?_ (fun hc => ?_) (fun hc => ?_); rotate_left; (· simp only [go_sem, reduceIte, Nat.reduceEqDiff, Nat.reduceAdd, bx, ax, if_true, if_false, Nat.reduceMul, Nat.reduceLeDiff, g1, h2, h3, hat, hil, encI, vAV, c1, k0, k1, k2, k3, hpa, List.length_map, List.length_cons, n0, List.length_map]; exact rfl))
              | (refine Wp.cond_ndec (p := ?_) ?_ (fun hc => ?_) (fun hc => ?_); rotate_left; (· simp only [go_sem, reduceIte, Nat.reduceEqDiff, Nat.reduceAdd, bx, ax, if_true, if_false, Nat.reduceMul, Nat.reduceLeDiff, g1, h2, h3, hat, hil, encI, vAV, c1, k0, k1, k2, k3, hpa, List.length_map, List.length_cons, n0, List.length_map]; exact rfl))
              | (refine Wp.cond_split (b := ?_) ?_ (fun hc => ?_) (fun hc => ?_); rotate_left; (· simp only [go_sem, reduceIte, Nat.reduceEqDiff, Nat.reduceAdd, bx, ax, if_true, if_false, Nat.reduceMul, Nat.reduceLeDiff, g1, h2, h3, hat, hil, encI, vAV, c1, k0, k1, k2, k3, hpa, List.length_map, List.length_cons, n0, List.length_map]; exact rfl))
              | refine Wp.skip ?_
              | refine Wp.label ?_
              | refine Wp.block ?_
              | refine Wp.exit ?_
              | refine Wp.seq ?_)
            refine Wp.ret ⟨trivial, _, rfl, ?_⟩
            simp only [go_sem, reduceIte, Nat.reduceEqDiff, Nat.reduceAdd, bx]
            exact hb
          | true =>
            rw [hc] at hck
            by_cases q5 : last < v.t
            · have d5 := decide_eq_true q5
              have hb := bad (by rw [def0, List.getD_cons_zero, decide_eq_false (show ¬ v.t ≤ last by omega)]; simp)
              repeat' (first
                | (refine WpItems.nil ⟨?_, ?_⟩; (· first | trivial | simp [pairsQ, pairsOk, apart, ent0]))
                | (apply WpItems.evU; (· simp only [go_sem, reduceIte, Nat.reduceEqDiff, Nat.reduceAdd, bx, ax, if_true, if_false, Nat.reduceMul, Nat.reduceLeDiff, g1, h2, h3, hat, hil, encI, vAV, c1, k0, k1, k2, k3, hpa, List.length_map, List.length_cons, n0, n1, i0, t0, List.map_cons, List.getD_cons_zero, encV, d5, List.length_map]; exact rfl); (· simp only [go_sem, reduceIte, Nat.reduceEqDiff, Nat.reduceAdd, bx, ax, if_true, if_false, Nat.reduceMul, Nat.reduceLeDiff, g1, h2, h3, hat, hil, encI, vAV, c1, k0, k1, k2, k3, hpa, List.length_map, List.length_cons, n0, n1, i0, t0, List.map_cons, List.getD_cons_zero, encV, d5, List.length_map]; exact rfl))
                | (apply WpItems.part 1; (· simp only [go_sem, reduceIte, Nat.reduceEqDiff, Nat.reduceAdd, bx, ax, if_true, if_false, Nat.reduceMul, Nat.reduceLeDiff, g1, h2, h3, hat, hil, encI, vAV, c1, k0, k1, k2, k3, hpa, List.length_map, List.length_cons, n0, n1, i0, t0, List.map_cons, List.getD_cons_zero, encV, d5, List.length_map]; exact rfl); (try simp only [List.drop_succ_cons, List.drop_zero, List.drop_nil]))
                | (refine WpItems.pcall ?_ ?_ (hbel) ?_; (· simp only [go_sem, reduceIte, Nat.reduceEqDiff, Nat.reduceAdd, bx]); (· simp only [go_sem, reduceIte, Nat.reduceEqDiff, Nat.reduceAdd, bx, List.map, ax, if_true, if_false, Nat.reduceMul, Nat.reduceLeDiff, g1, h2, h3, hat, hil, encI, vAV, c1, k0, k1, k2, k3, hpa, List.length_map, List.length_cons, n0, n1, i0, t0, List.map_cons, List.getD_cons_zero, encV, d5, List.length_map]; first | exact VSubs.refl _ | (repeat (first | exact VSubs.nil | refine VSubs.cons (by first | exact VSub.refl _ | assumption | exact VSub.cap | exact VSub.any _) ?_))))
                | (refine WpItems.pcall ?_ ?_ (hck) ?_; (· simp only [go_sem, reduceIte, Nat.reduceEqDiff, Nat.reduceAdd, bx]); (· simp only [go_sem, reduceIte, Nat.reduceEqDiff, Nat.reduceAdd, bx, List.map, ax, if_true, if_false, Nat.reduceMul, Nat.reduceLeDiff, g1, h2, h3, hat, hil, encI, vAV, c1, k0, k1, k2, k3, hpa, List.length_map, List.length_cons, n0, n1, i0, t0, List.map_cons, List.getD_cons_zero, encV, d5, List.length_map]; first | exact VSubs.refl _ | (repeat (first | exact VSubs.nil | refine VSubs.cons (by first | exact VSub.refl _ | assumption | exact VSub.cap | exact VSub.any _) ?_))))
                | (refine WpItems.gsplit_dec (p := ?_) ?_ (fun hc => ?_) (fun hc => ?_); rotate_left; (· simp only [go_sem, reduceIte, Nat.reduceEqDiff, Nat.reduceAdd, bx, ax, if_true, if_false, Nat.reduceMul, Nat.reduceLeDiff, g1, h2, h3, hat, hil, encI, vAV, c1, k0, k1, k2, k3, hpa, List.length_map, List.length_cons, n0, n1, i0, t0, List.map_cons, List.getD_cons_zero, encV, d5, List.length_map]; exact rfl))
                | (refine WpItems.gsplit_ndec (p := ?_) ?_ (fun hc => ?_) (fun hc => ?_); rotate_left; (· simp only [go_sem, reduceIte, Nat.reduceEqDiff, Nat.reduceAdd, bx, ax, if_true, if_false, Nat.reduceMul, Nat.reduceLeDiff, g1, h2, h3, hat, hil, encI, vAV, c1, k0, k1, k2, k3, hpa, List.length_map, List.length_cons, n0, n1, i0, t0, List.map_cons, List.getD_cons_zero, encV, d5, List.length_map]; exact rfl))
                | (refine WpItems.gsplit (b := ?_) ?_ (fun hc => ?_) (fun hc => ?_); rotate_left; (· simp only [go_sem, reduceIte, Nat.reduceEqDiff, Nat.reduceAdd, bx, ax, if_true, if_false, Nat.reduceMul, Nat.reduceLeDiff, g1, h2, h3, hat, hil, encI, vAV, c1, k0, k1, k2, k3, hpa, List.length_map, List.length_cons, n0, n1, i0, t0, List.map_cons, List.getD_cons_zero, encV, d5, List.length_map]; exact rfl))
                | refine Wp.seqRegS ?_
                | refine Wp.regS ?_
                | (refine Wp.cond_true ?_ ?_; (· simp only [go_sem, reduceIte, Nat.reduceEqDiff, Nat.reduceAdd, bx, ax, if_true, if_false, Nat.reduceMul, Nat.reduceLeDiff, g1, h2, h3, hat, hil, encI, vAV, c1, k0, k1, k2, k3, hpa, List.length_map, List.length_cons, n0, n1, i0, t0, List.map_cons, List.getD_cons_zero, encV, d5, List.length_map]))
                | (refine Wp.cond_false ?_ ?_; (· simp only [go_sem, reduceIte, Nat.reduceEqDiff, Nat.reduceAdd, bx, ax, if_true, if_false, Nat.reduceMul, Nat.reduceLeDiff, g1, h2, h3, hat, hil, encI, vAV, c1, k0, k1, k2, k3, hpa, List.length_map, List.length_cons, n0, n1, i0, t0, List.map_cons, List.getD_cons_zero, encV, d5, List.length_map]))
                | (refine Wp.cond_dec (p := ?_) ?_ (fun hc => ?_) (fun hc => ?_); rotate_left; (· simp only [go_sem, reduceIte, Nat.reduceEqDiff, Nat.reduceAdd, bx, ax, if_true, if_false, Nat.reduceMul, Nat.reduceLeDiff, g1, h2, h3, hat, hil, encI, vAV, c1, k0, k1, k2, k3, hpa, List.length_map, List.length_cons, n0, n1, i0, t0, List.map_cons, List.getD_cons_zero, encV, d5, List.length_map]; exact rfl))
                | (refine Wp.cond_ndec (p := ?_) ?_ (fun hc => ?_) (fun hc => ?_); rotate_left; (· simp only [go_sem, reduceIte, Nat.reduceEqDiff, Nat.reduceAdd, bx, ax, if_true, if_false, Nat.reduceMul, Nat.reduceLeDiff, g1, h2, h3, hat, hil, encI, vAV, c1, k0, k1, k2, k3, hpa, List.length_map, List.length_cons, n0, n1, i0, t0, List.map_cons, List.getD_cons_zero, encV, d5, List.length_map]; exact rfl))
                | (refine Wp.cond_split (b := ?_) ?_ (fun hc => ?_) (fun hc => ?_); rotate_left; (· simp only [go_sem, reduceIte, Nat.reduceEqDiff, Nat.reduceAdd, bx, ax, if_true, if_false, Nat.reduceMul, Nat.reduceLeDiff, g1, h2, h3, hat, hil, encI, vAV, c1, k0, k1, k2, k3, hpa, List.length_map, List.length_cons, n0, n1, i0, t0, List.map_cons, List.getD_cons_zero, encV, d5, List.length_map]; exact rfl))
                | refine Wp.skip ?_
                | refine Wp.label ?_
                | refine Wp.block ?_
                | refine Wp.exit ?_
                | refine Wp.seq ?_)
              refine Wp.ret ⟨trivial, _, rfl, ?_⟩
              simp only [go_sem, reduceIte, Nat.reduceEqDiff, Nat.reduceAdd, bx]
              exact hb
            · have d5 := decide_eq_false q5
              have hy := stp (by rw [def0, c1', hc, List.getD_cons_zero, decide_eq_true (show v.t ≤ last by omega)]; simp [ha, q2])
              repeat' (first
                | (refine WpItems.nil ⟨?_, ?_⟩; (· first | trivial | simp [pairsQ, pairsOk, apart, ent0]))
                | (apply WpItems.evU; (· simp only [go_sem, reduceIte, Nat.reduceEqDiff, Nat.reduceAdd, bx, ax, if_true, if_false, Nat.reduceMul, Nat.reduceLeDiff, g1, h2, h3, hat, hil, encI, vAV, c1, k0, k1, k2, k3, hpa, List.length_map, List.length_cons, n0, n1, i0, t0, List.map_cons, List.getD_cons_zero, encV, d5, e1, List.length_map]; exact rfl); (· simp only [go_sem, reduceIte, Nat.reduceEqDiff, Nat.reduceAdd, bx, ax, if_true, if_false, Nat.reduceMul, Nat.reduceLeDiff, g1, h2, h3, hat, hil, encI, vAV, c1, k0, k1, k2, k3, hpa, List.length_map, List.length_cons, n0, n1, i0, t0, List.map_cons, List.getD_cons_zero, encV, d5, e1, List.length_map]; exact rfl))
                | (apply WpItems.part 1; (· simp only [go_sem, reduceIte, Nat.reduceEqDiff, Nat.reduceAdd, bx, ax, if_true, if_false, Nat.reduceMul, Nat.reduceLeDiff, g1, h2, h3, hat, hil, encI, vAV, c1, k0, k1, k2, k3, hpa, List.length_map, List.length_cons, n0, n1, i0, t0, List.map_cons, List.getD_cons_zero, encV, d5, e1, List.length_map]; exact rfl); (try simp only [List.drop_succ_cons, List.drop_zero, List.drop_nil]))
                | (refine WpItems.pcall ?_ ?_ (hbel) ?_; (· simp only [go_sem, reduceIte, Nat.reduceEqDiff, Nat.reduceAdd, bx]); (· simp only [go_sem, reduceIte, Nat.reduceEqDiff, Nat.reduceAdd, bx, List.map, ax, if_true, if_false, Nat.reduceMul, Nat.reduceLeDiff, g1, h2, h3, hat, hil, encI, vAV, c1, k0, k1, k2, k3, hpa, List.length_map, List.length_cons, n0, n1, i0, t0, List.map_cons, List.getD_cons_zero, encV, d5, e1, List.length_map]; first | exact VSubs.refl _ | (repeat (first | exact VSubs.nil | refine VSubs.cons (by first | exact VSub.refl _ | assumption | exact VSub.cap | exact VSub.any _) ?_))))
                | (refine WpItems.pcall ?_ ?_ (hck) ?_; (· simp only [go_sem, reduceIte, Nat.reduceEqDiff, Nat.reduceAdd, bx]); (· simp only [go_sem, reduceIte, Nat.reduceEqDiff, Nat.reduceAdd, bx, List.map, ax, if_true, if_false, Nat.reduceMul, Nat.reduceLeDiff, g1, h2, h3, hat, hil, encI, vAV, c1, k0, k1, k2, k3, hpa, List.length_map, List.length_cons, n0, n1, i0, t0, List.map_cons, List.getD_cons_zero, encV, d5, e1, List.length_map]; first | exact VSubs.refl _ | (repeat (first | exact VSubs.nil | refine VSubs.cons (by first | exact VSub.refl _ | assumption | exact VSub.cap | exact VSub.any _) ?_))))
                | (refine WpItems.gsplit_dec (p := ?_) ?_ (fun hc => ?_) (fun hc => ?_); rotate_left; (· simp only [go_sem, reduceIte, Nat.reduceEqDiff, Nat.reduceAdd, bx, ax, if_true, if_false, Nat.reduceMul, Nat.reduceLeDiff, g1, h2, h3, hat, hil, encI, vAV, c1, k0, k1, k2, k3, hpa, List.length_map, List.length_cons, n0, n1, i0, t0, List.map_cons, List.getD_cons_zero, encV, d5, e1, List.length_map]; exact rfl))
                | (refine WpItems.gsplit_ndec (p := ?_) ?_ (fun hc => ?_) (fun hc => ?_); rotate_left; (· simp only [go_sem, reduceIte, Nat.reduceEqDiff, Nat.reduceAdd, bx, ax, if_true, if_false, Nat.reduceMul, Nat.reduceLeDiff, g1, h2, h3, hat, hil, encI, vAV, c1, k0, k1, k2, k3, hpa, List.length_map, List.length_cons, n0, n1, i0, t0, List.map_cons, List.getD_cons_zero, encV, d5, e1, List.length_map]; exact rfl))
                | (refine WpItems.gsplit (b := ?_) ?_ (fun hc => ?_) (fun hc => ?_); rotate_left; (· simp only [go_sem, reduceIte, Nat.reduceEqDiff, Nat.reduceAdd, bx, ax, if_true, if_false, Nat.reduceMul, Nat.reduceLeDiff, g1, h2, h3, hat, hil, encI, vAV, c1, k0, k1, k2, k3, hpa, List.length_map, List.length_cons, n0, n1, i0, t0, List.map_cons, List.getD_cons_zero, encV, d5, e1, List.length_map]; exact rfl))
                | refine Wp.seqRegS ?_
                | refine Wp.regS ?_
                | (refine Wp.cond_true ?_ ?_; (· simp only [go_sem, reduceIte, Nat.reduceEqDiff, Nat.reduceAdd, bx, ax, if_true, if_false, Nat.reduceMul, Nat.reduceLeDiff, g1, h2, h3, hat, hil, encI, vAV, c1, k0, k1, k2, k3, hpa, List.length_map, List.length_cons, n0, n1, i0, t0, List.map_cons, List.getD_cons_zero, encV, d5, e1, List.length_map]))
                | (refine Wp.cond_false ?_ ?_; (· simp only [go_sem, reduceIte, Nat.reduceEqDiff, Nat.reduceAdd, bx, ax, if_true, if_false, Nat.reduceMul, Nat.reduceLeDiff, g1, h2, h3, hat, hil, encI, vAV, c1, k0, k1, k2, k3, hpa, List.length_map, List.length_cons, n0, n1, i0, t0, List.map_cons, List.getD_cons_zero, encV, d5, e1, List.length_map]))
                | (refine Wp.cond_dec (p := ?_) ?_ (fun hc => ?_) (fun hc => ?_); rotate_left; (· simp only [go_sem, reduceIte, Nat.reduceEqDiff, Nat.reduceAdd, bx, ax, if_true, if_false, Nat.reduceMul, Nat.reduceLeDiff, g1, h2, h3, hat, hil, encI, vAV, c1, k0, k1, k2, k3, hpa, List.length_map, List.length_cons, n0, n1, i0, t0, List.map_cons, List.getD_cons_zero, encV, d5, e1, List.length_map]; exact rfl))
                | (refine Wp.cond_ndec (p := ?_) ?_ (fun hc => ?_) (fun hc => ?_); rotate_left; (· simp only [go_sem, reduceIte, Nat.reduceEqDiff, Nat.reduceAdd, bx, ax, if_true, if_false, Nat.reduceMul, Nat.reduceLeDiff, g1, h2, h3, hat, hil, encI, vAV, c1, k0, k1, k2, k3, hpa, List.length_map, List.length_cons, n0, n1, i0, t0, List.map_cons, List.getD_cons_zero, encV, d5, e1, List.length_map]; exact rfl))
                | (refine Wp.cond_split (b := ?_) ?_ (fun hc => ?_) (fun hc => ?_); rotate_left; (· simp only [go_sem, reduceIte, Nat.reduceEqDiff, Nat.reduceAdd, bx, ax, if_true, if_false, Nat.reduceMul, Nat.reduceLeDiff, g1, h2, h3, hat, hil, encI, vAV, c1, k0, k1, k2, k3, hpa, List.length_map, List.length_cons, n0, n1, i0, t0, List.map_cons, List.getD_cons_zero, encV, d5, e1, List.length_map]; exact rfl))
                | refine Wp.skip ?_
                | refine Wp.label ?_
                | refine Wp.block ?_
                | refine Wp.exit ?_
                | refine Wp.seq ?_)
              refine ⟨j + 1, ⟨by omega, hy⟩, by omega, ?_⟩
              refine StLe.tm (by simp only [AllSub, go_sem, reduceIte, Nat.reduceEqDiff, Nat.reduceAdd, bx]; and_intros <;> first | exact trivial | exact VSub.refl _ | exact VSub.any _ | (refine VSub.int ?_; omega))
  · have hje : j = l.length := by omega
    subst hje
    have g1 : decide (((l.length : Nat) : Int) < ((l.length : Nat) : Int)) = false := decide_eq_false (by omega)
    have hyes : ldB l last mark = true := by
      have : (List.range l.length).all (ldAt l last) = true := all_yes hs
      simp [ldB, this, p1, p2, p3, p4]
    repeat (first
      | ((first | apply Wp.seqItemsR | apply Wp.itemsR); (· simp only [go_sem, reduceIte, Nat.reduceEqDiff, Nat.reduceAdd, bx, ax, if_true, if_false, Nat.reduceMul, Nat.reduceLeDiff, g1, hil]; exact rfl))
      | (refine WpItems.nil ⟨?_, ?_⟩; (· first | trivial | simp [pairsQ, pairsOk, apart, ent0]))
      | (apply Wp.cond_lit; (· simp only [go_sem, reduceIte, Nat.reduceEqDiff, Nat.reduceAdd, bx, ax, if_true, if_false, Nat.reduceMul, Nat.reduceLeDiff, g1, hil]; exact rfl); (· rfl))
      | refine Wp.skip ?_
      | refine Wp.label ?_
      | refine Wp.block ?_
      | refine Wp.exit ?_
      | refine Wp.seq ?_)
    refine Wp.ret ⟨trivial, _, rfl, ?_⟩
    simp only [go_sem, reduceIte, Nat.reduceEqDiff, Nat.reduceAdd, bx]
    rw [if_pos hyes]; exact VSub.refl _
end Go.Proofs.Ytpehfflehebmbaa.Space
end
section
set_option linter.unusedVariables false
set_option linter.unusedSimpArgs false
namespace Go.Av
section
variable {P : Program} {N : Nat}
theorem touch_swapI {A G G' B : List Fr} {n n' m m' : Nat} {T : List Nat} (ok : Ok (A ++ G ++ B) n T m) (ok' : Ok G' n' (ks G') m') (hn : n ≤ n') (hm : m ≤ m') (hw : ∀ j, n ≤ j ∨ (lay G j).isSome = true ∨ lay G' j = none) :
    ∃ ids, Touch ⟨lay (A ++ G ++ B), n, T, m⟩ ⟨lay G, n, ks G, m⟩ ⟨lay G', n', ks G', m'⟩ ⟨lay (A ++ G' ++ B), n', ks G' ++ T.filter (fun t => !(ks G).contains t), m'⟩ ⟨[], ids, ks G ++ ks G'⟩ ∧ ∀ id ∈ ids, (lay G id).isSome = true ∨ (n ≤ id ∧ id < n') := by
  have bG : ∀ j, n ≤ j → lay G j = none := fun j hj => lay_none.2 fun F hF => ok.bd F (by simp [hF]) j hj
  obtain ⟨ids, hi⟩ := ids_of bG
  refine ⟨ids ++ (List.range (n' - n)).map (n + ·), ?_, ?_⟩
  · have d1 := List.pairwise_append.1 (List.pairwise_append.1 ok.dj).1
    have tc := touch_gen (h := ⟨lay (A ++ G ++ B), n, T, m⟩) (h1 := ⟨lay G, n, ks G, m⟩) (h1' := ⟨lay G', n', ks G', m'⟩) (ids := ids) ⟨fun j o hj => ?_, fun t ht => ok.tk t ?_⟩ rfl rfl (fun id h => (hi id).1 h) hn hm
    · have e : (⟨lay (A ++ G' ++ B), n', ks G' ++ T.filter (fun t => !(ks G).contains t), m'⟩ : H) = H.patch ⟨lay (A ++ G ++ B), n, T, m⟩ ⟨lay G, n, ks G, m⟩ ⟨lay G', n', ks G', m'⟩ :=
        H.ext (fun j => (lay_patch ok ok' hn hw j).symm) rfl rfl rfl
      rw [e]; exact tc
    · show lay (A ++ G ++ B) j = some o
      have hj' : lay G j = some o := hj
      rw [lay_append, lay_append]
      have : lay A j = none := by
        cases hA : lay A j with
        | none => rfl
        | some o' =>
          obtain ⟨F, a, b⟩ := lay_some hA
          obtain ⟨F', a', b'⟩ := lay_some hj'
          rcases d1.2.2 F a F' a' j with e | e
          · rw [e] at b; cases b
          · rw [e] at b'; cases b'
      rw [this, hj']; rfl
    · have ht' : t ∈ ks G := ht
      rw [ks_append, ks_append]; simp [ht']
  · intro id hid
    rcases List.mem_append.1 hid with h | h
    · exact .inl ((hi id).2 h)
    · obtain ⟨k, hk, rfl⟩ := List.mem_map.1 h
      have := List.mem_range.1 hk
      exact .inr (by omega)
theorem WpItems.gkeepI {dst : Option Nat} {g : Option (Nat × Bool)} {f : FuncId} {l : List Opd} {its : List AItem} {t : Tm} {log : List Ent} {K : Tm → H → List Ent → Prop} {vals : List AV} {r : AV} {F : Fr} (A B : List Fr) {n m : Nat} {T : List Nat}
    (hg : guardOf t g = some true) (hs : VSubs (l.map (ev t)) vals) (hc : GCalls P f vals [F] fun r' l' => r' = r ∧ l' = [F]) (hk : F.k = []) (ok : Ok (A ++ F :: B) n T m)
    (rest : ∀ n' m' ids, n ≤ n' → m ≤ m' → (∀ id ∈ ids, (F.o id).isSome = true ∨ (n ≤ id ∧ id < n')) → Ok (A ++ F :: B) n' T m' → WpItems P N its (putT t dst r) ⟨lay (A ++ F :: B), n', T, m'⟩ (⟨[], ids, []⟩ :: log) K) :
    WpItems P N (⟨dst, g, .call f l⟩ :: its) t ⟨lay (A ++ F :: B), n, T, m⟩ log K := by
  have e : A ++ F :: B = A ++ [F] ++ B := by simp
  rw [e] at ok ⊢
  have okG : Ok [F] n (ks [F]) m := by
    have d1 := List.pairwise_append.1 (List.pairwise_append.1 ok.dj).1
    have t1 := List.pairwise_append.1 (List.pairwise_append.1 ok.td).1
    exact ⟨fun F hF => ok.bd F (by simp [List.mem_singleton.1 hF]), d1.2.1, fun t ht => ht, t1.2.1, fun t ht => ok.tb t (ok.tk t (by rw [ks_append, ks_append]; simp [ht]))⟩
  obtain ⟨r', G', n', m', h1, h2, h3, h4, h5, h6, rfl, rfl⟩ := hc n m okG
  obtain ⟨ids, tc, hi⟩ := touch_swapI ok h4 h2 h3 h5
  have k0 : ks [F] = [] := by simp [ks, hk]
  have f0 : T.filter (fun _ : Nat => true) = T := by simp
  have ok2 := ok.swap h4 h2 h3 h5 h6
  simp only [k0, List.nil_append, List.contains_nil, Bool.not_false, f0] at ok2 tc h1 ⊢
  have hi' : ∀ id ∈ ids, (F.o id).isSome = true ∨ (n ≤ id ∧ id < n') := fun id h => by
    have := hi id h
    rwa [lay_cons, show lay ([] : List Fr) id = none from rfl, Option.or_none] at this
  refine WpItems.acall hg hs h1 tc ?_
  rw [← e] at ok2 ⊢
  exact rest n' m' ids h2 h3 hi' ok2
theorem WpItems.gcallI {dst : Option Nat} {g : Option (Nat × Bool)} {f : FuncId} {l : List Opd} {its : List AItem} {t : Tm} {log : List Ent} {K : Tm → H → List Ent → Prop} {vals : List AV} {Q : AV → List Fr → Prop} (A G B : List Fr) {n m : Nat} {T : List Nat}
    (hg : guardOf t g = some true) (hs : VSubs (l.map (ev t)) vals) (hc : GCalls P f vals G Q) (ok : Ok (A ++ G ++ B) n T m)
    (rest : ∀ r G' n' T' m' ids, Q r G' → On (A ++ G ++ B) n m (A ++ G' ++ B) n' T' m' → (∀ id ∈ ids, (lay G id).isSome = true ∨ (n ≤ id ∧ id < n')) → WpItems P N its (putT t dst r) ⟨lay (A ++ G' ++ B), n', T', m'⟩ (⟨[], ids, ks G ++ ks G'⟩ :: log) K) :
    WpItems P N (⟨dst, g, .call f l⟩ :: its) t ⟨lay (A ++ G ++ B), n, T, m⟩ log K := by
  have okG : Ok G n (ks G) m := by
    have d1 := List.pairwise_append.1 (List.pairwise_append.1 ok.dj).1
    have t1 := List.pairwise_append.1 (List.pairwise_append.1 ok.td).1
    exact ⟨fun F hF => ok.bd F (by simp [hF]), d1.2.1, fun t ht => ht, t1.2.1, fun t ht => ok.tb t (ok.tk t (by rw [ks_append, ks_append]; simp [ht]))⟩
  obtain ⟨r, G', n', m', h1, h2, h3, h4, h5, h6, h7⟩ := hc n m okG
  obtain ⟨ids, tc, hi⟩ := touch_swapI ok h4 h2 h3 h5
  exact WpItems.acall hg hs h1 tc (rest r G' n' _ m' ids h7 ⟨h2, h3, ok.swap h4 h2 h3 h5 h6, .mid h5, .mid h6⟩ hi)
theorem WpItems.gkeep0 {dst : Option Nat} {g : Option (Nat × Bool)} {f : FuncId} {l : List Opd} {its : List AItem} {t : Tm} {log : List Ent} {K : Tm → H → List Ent → Prop} {vals : List AV} {r : AV} {F : Fr} {n m : Nat} {T : List Nat}
    (hg : guardOf t g = some true) (hs : VSubs (l.map (ev t)) vals) (hc : GCalls P f vals [F] fun r' l' => r' = r ∧ l' = [F]) (hk : F.k = []) (ok : Ok [F] n T m)
    (rest : ∀ n' m' ids, On [F] n m [F] n' T m' → (∀ id ∈ ids, (F.o id).isSome = true ∨ (n ≤ id ∧ id < n')) → WpItems P N its (putT t dst r) ⟨lay [F], n', T, m'⟩ (⟨[], ids, []⟩ :: log) K) :
    WpItems P N (⟨dst, g, .call f l⟩ :: its) t ⟨lay [F], n, T, m⟩ log K :=
  WpItems.gkeepI [] [] hg hs hc hk ok fun n' m' ids a b c d => rest n' m' ids ⟨a, b, d, .refl, .refl⟩ c
end
end Go.Av
end
section
set_option linter.unusedSimpArgs false
set_option linter.unusedVariables false
set_option maxRecDepth 10000
namespace Go.Proofs.Ytpehfflehebmbaa.Space
open Go Go.Av Go.Proofs Go.Proofs.Ytpehfflehebmbaa.C Go.Proofs.Ytpehfflehebmbaa.Batch
structure Fit (S : Spc) (k : Nat) : Prop where
  ri : RiseL S.L
  fu : Full S.L
  ln : S.L.length ≤ k
  vs : ∀ p ∈ S.L, p.2.length ≤ k
  ls : ∀ p ∈ S.L, Ls p.1
theorem Fit.mono {S : Spc} {k j : Nat} (h : Fit S k) (hk : k ≤ j) : Fit S j := ⟨h.ri, h.fu, Nat.le_trans h.ln hk, fun p hp => Nat.le_trans (h.vs p hp) hk, h.ls⟩
theorem mget_len {L : List It} {k : Nat} (h : ∀ p ∈ L, p.2.length ≤ k) (q : Bs) : (mget L q).length ≤ k := by
  induction L with
  | nil => simp [mget]
  | cons p L ih =>
    rw [mget]
    split
    · exact h p (by simp)
    · exact ih (fun x hx => h x (by simp [hx]))
theorem Fit.room {S : Spc} {k j : Nat} (h : Fit S k) (hk : k + j ≤ 500000) : Room S j := ⟨by have := h.ln; omega, fun q => by have := mget_len h.vs q; omega⟩
theorem Fit.zero : Fit ⟨[], 0, 0⟩ 0 := ⟨by simp [RiseL, Rise, keysOf], fun p hp => by simp at hp, Nat.le_refl _, fun p hp => by simp at hp, fun p hp => by simp at hp⟩
theorem Fit.lay {S : Spc} {k : Nat} (h : Fit S k) : layL [] S.L = S.L := layL_self h.ri h.fu
theorem Fit.times {S : Spc} {k : Nat} (h : Fit S k) (a b : Int) : Fit { S with last := a, mark := b } k := ⟨h.ri, h.fu, h.ln, h.vs, h.ls⟩
theorem Fit.step {S : Spc} {k : Nat} (h : Fit S k) (t : Int) (c : Ch) (hc : Ls c.k) : Fit (stepS t S c) (k + 1) := by
  refine ⟨setL_rise h.ri _ _, setL_full h.fu _ _, ?_, fun p hp => ?_, setL_ls h.ls hc _⟩
  · have := setL_len S.L c.k (addB (mget S.L c.k) ⟨t, c.v, c.d⟩).1
    have := h.ln
    simp only [stepS, setS]; omega
  · simp only [stepS, setS] at hp
    rcases setL_mem hp with rfl | hp
    · have h1 := add_len (mget S.L c.k) ⟨t, c.v, c.d⟩
      have h2 := mget_len h.vs c.k
      simp only; omega
    · have := h.vs p hp; omega
theorem Fit.dos : ∀ (l : List Ch) {S : Spc} {k : Nat} (h : Fit S k) (t : Int) (hc : ∀ c ∈ l, Ls c.k), Fit (doS t S l) (k + l.length)
  | [], S, k, h, t, hc => h
  | c :: l, S, k, h, t, hc => by
    have := Fit.dos l (h.step t c (hc c (by simp))) t (fun x hx => hc x (by simp [hx]))
    exact this.mono (by simp only [List.length_cons]; omega)
theorem Fit.apply {S : Spc} {k : Nat} (h : Fit S k) (t : Int) (l : List Ch) (hc : ∀ c ∈ l, Ls c.k) : Fit (applyB S t l).1 (k + l.length) := by
  unfold applyB
  split
  · exact h.mono (by omega)
  · split
    · exact h.mono (by omega)
    · have := Fit.dos l h t hc
      exact ⟨this.ri, this.fu, this.ln, this.vs, this.ls⟩
theorem ld_ls {l : List It} {last mark : Int} (h : ldB l last mark = true) : ∀ p ∈ l, Ls p.1 := fun p hp => by
  obtain ⟨i, hi, rfl⟩ := List.mem_iff_getElem.1 hp
  have := ld_key (ld_all h hi)
  rw [getD_el hi] at this
  unfold Ls; omega
theorem Fit.load {l : List It} {last mark : Int} {k : Nat} (h : ldB l last mark = true) (hl : l.length ≤ k) (hv : ∀ p ∈ l, p.2.length ≤ k) : Fit ⟨l, last, mark⟩ k := ⟨(ld_rise h).1, (ld_rise h).2, hl, hv, ld_ls h⟩
end Go.Proofs.Ytpehfflehebmbaa.Space
end
section
set_option linter.unusedSimpArgs false
set_option linter.unusedVariables false
set_option maxRecDepth 10000
namespace Go.Proofs.Ytpehfflehebmbaa.Space
open Go Go.Av Go.Proofs Go.Proofs.Ytpehfflehebmbaa.C Go.Proofs.Ytpehfflehebmbaa.Batch
end Go.Proofs.Ytpehfflehebmbaa.Space
end
section
set_option linter.unusedSimpArgs false
set_option linter.unusedVariables false
set_option maxRecDepth 100000
namespace Go.Proofs.Ytpehfflehebmbaa.Space
open Go Go.Av Go.Proofs Go.Proofs.Ytpehfflehebmbaa.C Go.Proofs.Ytpehfflehebmbaa.Batch
theorem laid : laidOutB Try.prog = true := by kernel_rfl
theorem full : ∀ t e, t < Try.prog.types.size → Try.prog.underlying t = some (.slice e) → 0 < Try.prog.cellsOf e := slices_full_of Try.prog (by kernel_rfl)
theorem own : ownKnob Try.prog.godebug = none := by kernel_rfl
theorem all_of {α : Type} {t : TypeId} {k : Nat} {enc : α → AV} {Q : α → Prop} (h1 : ∀ cs, Fits Try.prog k t cs → ∃ x, wrapE Try.prog t cs = enc x ∧ Q x) : ∀ {ys : List AV}, (∀ y ∈ ys, ∃ cs, Fits Try.prog k t cs ∧ y = wrapE Try.prog t cs) → ∃ l : List α, ys = l.map enc ∧ ∀ x ∈ l, Q x
  | [], _ => ⟨[], rfl, by simp⟩
  | y :: ys, h => by
    obtain ⟨l, rfl, hl⟩ := all_of h1 (ys := ys) (fun z hz => h z (by simp [hz]))
    obtain ⟨cs, g1, g2⟩ := h y (by simp)
    obtain ⟨x, e, q⟩ := h1 cs g1
    refine ⟨x :: l, by simp [g2, e], fun z hz => ?_⟩
    rcases List.mem_cons.1 hz with rfl | hz
    · exact q
    · exact hl z hz
theorem row_len {n b : Nat} (hb : 8 ≤ b) (h : n * b ≤ reachBytes) : n ≤ 35184372088832 := by
  have : n * 8 ≤ n * b := Nat.mul_le_mul_left n hb
  have e : reachBytes = 140737488351232 := rfl
  omega
theorem ver_fits {k : Nat} {cs : List AV} (h : Fits Try.prog (k + 2) 108 cs) : ∃ p : Ver, wrapE Try.prog 108 cs = encV p ∧ True := by
  have hw : ∀ cs, wrapE Try.prog 108 cs = .agg cs := fun cs => by
    unfold wrapE; rw [if_pos (by kernel_rfl)]
  rw [hw]
  unfold Fits at h
  rw [Try.underlying108] at h
  obtain ⟨xss, rfl, h⟩ := h
  cases h with | cons h0 h => cases h with | cons h1 h => cases h with | cons h2 h =>
  cases h
  unfold Fits at h0 h1 h2
  simp only at h0 h1 h2
  rw [Try.underlying3] at h0
  rw [Try.underlying9] at h1
  rw [Try.underlying4] at h2
  obtain ⟨n, rfl, hn⟩ := h0
  obtain ⟨v, rfl, hv⟩ := h1
  obtain ⟨d, rfl⟩ := h2
  exact ⟨⟨n, v, d⟩, rfl, trivial⟩
def ItOk (p : It) : Prop := p.1.length ≤ reachBytes ∧ p.2.length ≤ 4398046510976
theorem item_fits {k : Nat} {cs : List AV} (h : Fits Try.prog (k + 4) 50 cs) : ∃ p : It, wrapE Try.prog 50 cs = encI p ∧ ItOk p := by
  have hw : ∀ cs, wrapE Try.prog 50 cs = .agg cs := fun cs => by
    unfold wrapE; rw [if_pos (by kernel_rfl)]
  rw [hw]
  unfold Fits at h
  rw [Try.underlying50] at h
  obtain ⟨xss, rfl, h⟩ := h
  cases h with | cons h0 h => cases h with | cons h1 h =>
  cases h
  unfold Fits at h0 h1
  simp only at h0 h1
  rw [Try.underlying9] at h0
  rw [Try.underlying48] at h1
  obtain ⟨q, rfl, hq⟩ := h0
  obtain ⟨xs, rfl, hlx, hx⟩ := h1
  obtain ⟨l, rfl, -⟩ := all_of (fun cs h => ver_fits h) hx
  have c1 : Try.prog.cellsOf 108 = 3 := by kernel_rfl
  have c2 : Try.prog.bytesOf 108 = 32 := by kernel_rfl
  rw [List.length_map, c2] at hlx
  refine ⟨(q, l), ?_, hq, by have e : reachBytes = 140737488351232 := rfl; simp only; omega⟩
  simp [encI, vAV, c1]
theorem open_items {a : AV} (h : ArgFits Try.prog 5 45 a) : ∃ l : List It, a = .sl 2 (l.map encI) .any ∧ l.length ≤ 35184372088832 ∧ ∀ p ∈ l, ItOk p := by
  obtain ⟨cs, h, rfl⟩ := h
  unfold Fits at h
  rw [Try.underlying45] at h
  obtain ⟨xs, rfl, hlx, hx⟩ := h
  obtain ⟨l, rfl, hl⟩ := all_of (fun cs h => item_fits h) hx
  have c1 : Try.prog.cellsOf 50 = 2 := by kernel_rfl
  have c2 : Try.prog.bytesOf 50 = 40 := by kernel_rfl
  rw [List.length_map, c2] at hlx
  refine ⟨l, ?_, row_len (by decide) hlx, hl⟩
  unfold wrapE; rw [if_neg (by rw [show isAggT Try.prog 45 = false by kernel_rfl]; simp), c1]; rfl
def ChOk (c : Ch) : Prop := c.k.length ≤ reachBytes ∧ c.v.length ≤ reachBytes
theorem change_fits {k : Nat} {cs : List AV} (h : Fits Try.prog (k + 2) 103 cs) : ∃ p : Ch, wrapE Try.prog 103 cs = encCh p ∧ ChOk p := by
  have hw : ∀ cs, wrapE Try.prog 103 cs = .agg cs := fun cs => by
    unfold wrapE; rw [if_pos (by kernel_rfl)]
  rw [hw]
  unfold Fits at h
  rw [Try.underlying103] at h
  obtain ⟨xss, rfl, h⟩ := h
  cases h with | cons h0 h => cases h with | cons h1 h => cases h with | cons h2 h =>
  cases h
  unfold Fits at h0 h1 h2
  simp only at h0 h1 h2
  rw [Try.underlying9] at h0 h1
  rw [Try.underlying4] at h2
  obtain ⟨n, rfl, hn⟩ := h0
  obtain ⟨v, rfl, hv⟩ := h1
  obtain ⟨d, rfl⟩ := h2
  exact ⟨⟨n, v, d⟩, rfl, hn, hv⟩
theorem changes_fits {k : Nat} {cs : List AV} (h : Fits Try.prog (k + 3) 27 cs) : ∃ l : List Ch, wrapE Try.prog 27 cs = .sl 3 (chs l) .any ∧ cs = [.sl 3 (chs l) .any] ∧ l.length ≤ 35184372088832 ∧ ∀ c ∈ l, ChOk c := by
  unfold Fits at h
  rw [Try.underlying27] at h
  obtain ⟨xs, rfl, hlx, hx⟩ := h
  obtain ⟨l, rfl, hl⟩ := all_of (fun cs h => change_fits h) hx
  have c1 : Try.prog.cellsOf 103 = 3 := by kernel_rfl
  have c2 : Try.prog.bytesOf 103 = 40 := by kernel_rfl
  rw [List.length_map, c2] at hlx
  refine ⟨l, ?_, by rw [c1]; rfl, row_len (by decide) hlx, hl⟩
  unfold wrapE; rw [if_neg (by rw [show isAggT Try.prog 27 = false by kernel_rfl]; simp), c1]; rfl
theorem open_changes {a : AV} (h : ArgFits Try.prog 5 27 a) : ∃ l : List Ch, a = .sl 3 (chs l) .any ∧ l.length ≤ 35184372088832 ∧ ∀ c ∈ l, ChOk c := by
  obtain ⟨cs, h, rfl⟩ := h
  obtain ⟨l, e, -, h1, h2⟩ := changes_fits h
  exact ⟨l, e, h1, h2⟩
structure Act where
  k : Int
  t : Int
  l : List Ch
instance : Inhabited Act := ⟨⟨0, 0, []⟩⟩
end Go.Proofs.Ytpehfflehebmbaa.Space
end
section
set_option linter.unusedSimpArgs false
set_option linter.unusedVariables false
set_option maxRecDepth 10000
namespace Go.Proofs.Ytpehfflehebmbaa.Space
open Go Go.Av Go.Proofs Go.Proofs.Ytpehfflehebmbaa.C Go.Proofs.Ytpehfflehebmbaa.Batch
structure NoSp (x : AV) (F : Fr) : Prop where
  fin : F.Fin
  k : F.k = []
  is : x = .sc (.pointer none) ∨ ∃ s, x = .ptr s 0
  made : Looks Try.prog 52 [x] F (.bool false)
variable {x : AV} {F : Fr}
end Go.Proofs.Ytpehfflehebmbaa.Space
end
section
set_option linter.unusedSimpArgs false
set_option linter.unusedVariables false
set_option maxRecDepth 10000
namespace Go.Proofs.Ytpehfflehebmbaa.Reads
open Go Go.Av Go.Proofs Go.Proofs.Ytpehfflehebmbaa.C Go.Proofs.Ytpehfflehebmbaa.Batch
def Keeps (f : FuncId) (args : List AV) (F : Fr) (b : Bool) : Prop := GCalls Try.prog f args [F] fun r L => r = .bool b ∧ L = [F]
theorem indexStr_g {F : Fr} (hk : F.k = []) (l : List Bs) (hl : l.length ≤ 4611686018427387904) (p : Bs → Bool) {g : FuncId} {fn : Func} (hf : Try.prog.funcs[g]? = some fn) (hb : fn.body.isSome = true) (hn : fn.name ≠ "runtime.NumGoroutine") (caps : List AV)
    (hp : ∀ c ∈ l, Keeps g (.str c :: caps) F (p c)) :
    GCalls Try.prog 135 [.sl 1 (strs l) .any, .clo (.func g) [] caps] [F] fun r L => r = .int .i64 (ix p l) ∧ L = [F] := by
  refine f135.gcalls (by simp) fun n m ok => ?_
  unfold c135
  refine Wp.seqReg (by simp only [go_sem, reduceIte, Nat.reduceEqDiff, Nat.reduceAdd, bx]; exact rfl) (by trivial) ?_
  refine Wp.seq ?_
  refine Wp.seqReg (by simp only [go_sem, reduceIte, Nat.reduceEqDiff, Nat.reduceAdd, bx, strs_length]; exact rfl) (by trivial) ?_
  refine Wp.block ?_
  refine Wp.loopG (β := Nat) [0, 1, 7] (by simp only [go_sem, reduceIte, Nat.reduceEqDiff, List.map]; exact rfl) (fun j => [(8, .int .i64 (j : Nat))]) (fun j L => j ≤ l.length ∧ (∀ i (hi : i < l.length), i < j → p l[i] = false) ∧ L = [F]) (fun j => l.length - j) 0 ⟨Nat.zero_le _, fun i hi h => absurd h (by omega), rfl⟩ ok (by simp only [AllSub, go_sem, reduceIte, Nat.reduceEqDiff]; exact ⟨VSub.refl _, trivial⟩) ?_
  rintro j L n1 T1 m1 on ⟨hj, hs, rfl⟩
  refine Wp.seqReg (by simp only [go_sem, reduceIte, Nat.reduceEqDiff, Nat.reduceAdd, bx]; exact rfl) (by trivial) ?_
  refine Wp.seq ?_
  refine Wp.cond_split (b := decide ((j : Int) < (l.length : Int))) (by simp only [go_sem, reduceIte, Nat.reduceEqDiff, Nat.reduceAdd, bx]) (fun hc => ?_) (fun hc => ?_)
  · have h1 : (0 : Int) ≤ (j : Int) := by omega
    have h2 : (j : Int) < (l.length : Int) := by simpa using hc
    have h3 : j < l.length := by omega
    have hq := hp _ (List.getElem_mem h3)
    rw [← getD_el (d := []) h3] at hq
    refine Wp.skip ?_
    refine Wp.seq ?_
    refine Wp.block ?_
    refine Wp.seqReg (by simp only [go_sem, reduceIte, Nat.reduceEqDiff, Nat.reduceAdd, bx]; exact rfl) (by trivial) ?_
    refine Wp.seqItems (by simp only [go_sem, reduceIte, Nat.reduceEqDiff, Nat.reduceAdd, bx, strs_length, h1, h2, and_self, if_true, Int.toNat_natCast, strs_getD _ _ _ h3]; exact rfl) ?_
    refine WpItems.gcallv [] [F] [] (by simp only [go_sem]) (by simp only [go_sem, reduceIte, Nat.reduceEqDiff]; exact rfl) hf hb hn (by simp only [go_sem, reduceIte, Nat.reduceEqDiff, List.map]; exact VSubs.refl _) hq on.ok fun r G' n2 m2 ids hqq hn2 hm2 ok2 wi ki => ?_
    obtain ⟨rfl, rfl⟩ := hqq
    simp only [List.nil_append, List.append_nil] at ok2 wi ki ⊢
    have on2 : On [F] n1 m1 [F] n2 _ m2 := ⟨hn2, hm2, ok2, wi, ki⟩
    refine WpItems.eval (by simp only [go_sem, reduceIte, Nat.reduceEqDiff, Nat.reduceAdd, bx]; exact rfl) ?_
    refine WpItems.nil ⟨by trivial, ?_⟩
    rw [getD_el h3]
    refine Wp.cond_split (b := p l[j]) (by simp only [go_sem, reduceIte, Nat.reduceEqDiff, Nat.reduceAdd, bx]) (fun hd => ?_) (fun hd => ?_)
    · refine Wp.seqReg (by simp only [go_sem, reduceIte, Nat.reduceEqDiff, Nat.reduceAdd, bx]; exact rfl) (by trivial) ?_
      refine Wp.ret ⟨trivial, _, rfl, _, _, ((on.step on2).ends (VSub.refl _) ⟨?_, rfl⟩)⟩
      rw [ix_found h3 hd hs]; rfl
    · refine Wp.skip ?_
      refine Wp.reg1 (by simp only [go_sem, reduceIte, Nat.reduceEqDiff, Nat.reduceAdd, bx]; simp (disch := omega) only [IntWalk.i64_in]; exact rfl) (by trivial) ?_
      refine ⟨j + 1, [F], n2, _, m2, on2, ⟨by omega, fun i hi h => ?_, rfl⟩, by omega, ?_⟩
      · by_cases he : i = j
        · subst he; exact hd
        · exact hs i hi (by omega)
      · refine StLe.tm (by simp only [AllSub, go_sem, reduceIte, Nat.reduceEqDiff, Nat.reduceAdd, bx]; and_intros <;> first | exact trivial | exact VSub.refl _ | exact VSub.any _ | (refine VSub.int ?_; omega))
  · have : ¬ (j : Int) < (l.length : Int) := by simpa using hc
    refine Wp.exit ?_
    refine Wp.seqReg (by simp only [go_sem, reduceIte, Nat.reduceEqDiff, Nat.reduceAdd, bx]; exact rfl) (by trivial) ?_
    refine Wp.ret ⟨trivial, _, rfl, _, _, (on.ends (VSub.refl _) ⟨?_, rfl⟩)⟩
    rw [ix_none fun i hi => hs i hi (by omega)]; rfl
theorem indexSp_g {F : Fr} (hk : F.k = []) (l : List Sp) (hl : l.length ≤ 4611686018427387904) (p : Sp → Bool) {g : FuncId} {fn : Func} (hf : Try.prog.funcs[g]? = some fn) (hb : fn.body.isSome = true) (hn : fn.name ≠ "runtime.NumGoroutine") (caps : List AV)
    (hp : ∀ c ∈ l, Keeps g (encSp c :: caps) F (p c)) :
    GCalls Try.prog 136 [.sl 2 (sps l) .any, .clo (.func g) [] caps] [F] fun r L => r = .int .i64 (ix p l) ∧ L = [F] := by
  refine f136.gcalls (by simp) fun n m ok => ?_
  unfold c136
  refine Wp.seqReg (by simp only [go_sem, reduceIte, Nat.reduceEqDiff, Nat.reduceAdd, bx]; exact rfl) (by trivial) ?_
  refine Wp.seq ?_
  refine Wp.seqReg (by simp only [go_sem, reduceIte, Nat.reduceEqDiff, Nat.reduceAdd, bx, sps_length]; exact rfl) (by trivial) ?_
  refine Wp.block ?_
  refine Wp.loopG (β := Nat) [0, 1, 7] (by simp only [go_sem, reduceIte, Nat.reduceEqDiff, List.map]; exact rfl) (fun j => [(8, .int .i64 (j : Nat))]) (fun j L => j ≤ l.length ∧ (∀ i (hi : i < l.length), i < j → p l[i] = false) ∧ L = [F]) (fun j => l.length - j) 0 ⟨Nat.zero_le _, fun i hi h => absurd h (by omega), rfl⟩ ok (by simp only [AllSub, go_sem, reduceIte, Nat.reduceEqDiff]; exact ⟨VSub.refl _, trivial⟩) ?_
  rintro j L n1 T1 m1 on ⟨hj, hs, rfl⟩
  refine Wp.seqReg (by simp only [go_sem, reduceIte, Nat.reduceEqDiff, Nat.reduceAdd, bx]; exact rfl) (by trivial) ?_
  refine Wp.seq ?_
  refine Wp.cond_split (b := decide ((j : Int) < (l.length : Int))) (by simp only [go_sem, reduceIte, Nat.reduceEqDiff, Nat.reduceAdd, bx]) (fun hc => ?_) (fun hc => ?_)
  · have h1 : (0 : Int) ≤ (j : Int) := by omega
    have h2 : (j : Int) < (l.length : Int) := by simpa using hc
    have h3 : j < l.length := by omega
    have hq := hp _ (List.getElem_mem h3)
    rw [← getD_el (d := default) h3] at hq
    refine Wp.skip ?_
    refine Wp.seq ?_
    refine Wp.block ?_
    refine Wp.seqReg (by simp only [go_sem, reduceIte, Nat.reduceEqDiff, Nat.reduceAdd, bx]; exact rfl) (by trivial) ?_
    refine Wp.seqItems (by simp only [go_sem, reduceIte, Nat.reduceEqDiff, Nat.reduceAdd, bx, sps_length, h1, h2, and_self, if_true, Int.toNat_natCast, sps_getD _ _ _ h3, encSp]; exact rfl) ?_
    refine WpItems.gcallv [] [F] [] (by simp only [go_sem]) (by simp only [go_sem, reduceIte, Nat.reduceEqDiff]; exact rfl) hf hb hn (by simp only [go_sem, reduceIte, Nat.reduceEqDiff, List.map]; exact VSubs.refl _) hq on.ok fun r G' n2 m2 ids hqq hn2 hm2 ok2 wi ki => ?_
    obtain ⟨rfl, rfl⟩ := hqq
    simp only [List.nil_append, List.append_nil] at ok2 wi ki ⊢
    have on2 : On [F] n1 m1 [F] n2 _ m2 := ⟨hn2, hm2, ok2, wi, ki⟩
    refine WpItems.eval (by simp only [go_sem, reduceIte, Nat.reduceEqDiff, Nat.reduceAdd, bx]; exact rfl) ?_
    refine WpItems.nil ⟨by trivial, ?_⟩
    rw [getD_el h3]
    refine Wp.cond_split (b := p l[j]) (by simp only [go_sem, reduceIte, Nat.reduceEqDiff, Nat.reduceAdd, bx]) (fun hd => ?_) (fun hd => ?_)
    · refine Wp.seqReg (by simp only [go_sem, reduceIte, Nat.reduceEqDiff, Nat.reduceAdd, bx]; exact rfl) (by trivial) ?_
      refine Wp.ret ⟨trivial, _, rfl, _, _, ((on.step on2).ends (VSub.refl _) ⟨?_, rfl⟩)⟩
      rw [ix_found h3 hd hs]; rfl
    · refine Wp.skip ?_
      refine Wp.reg1 (by simp only [go_sem, reduceIte, Nat.reduceEqDiff, Nat.reduceAdd, bx]; simp (disch := omega) only [IntWalk.i64_in]; exact rfl) (by trivial) ?_
      refine ⟨j + 1, [F], n2, _, m2, on2, ⟨by omega, fun i hi h => ?_, rfl⟩, by omega, ?_⟩
      · by_cases he : i = j
        · subst he; exact hd
        · exact hs i hi (by omega)
      · refine StLe.tm (by simp only [AllSub, go_sem, reduceIte, Nat.reduceEqDiff, Nat.reduceAdd, bx]; and_intros <;> first | exact trivial | exact VSub.refl _ | exact VSub.any _ | (refine VSub.int ?_; omega))
  · have : ¬ (j : Int) < (l.length : Int) := by simpa using hc
    refine Wp.exit ?_
    refine Wp.seqReg (by simp only [go_sem, reduceIte, Nat.reduceEqDiff, Nat.reduceAdd, bx]; exact rfl) (by trivial) ?_
    refine Wp.ret ⟨trivial, _, rfl, _, _, (on.ends (VSub.refl _) ⟨?_, rfl⟩)⟩
    rw [ix_none fun i hi => hs i hi (by omega)]; rfl
theorem containsStr_g {F : Fr} (hk : F.k = []) (l : List Bs) (hl : l.length ≤ 4611686018427387904) (p : Bs → Bool) {g : FuncId} {fn : Func} (hf : Try.prog.funcs[g]? = some fn) (hb : fn.body.isSome = true) (hn : fn.name ≠ "runtime.NumGoroutine") (caps : List AV)
    (hp : ∀ c ∈ l, Keeps g (.str c :: caps) F (p c)) :
    Keeps 97 [.sl 1 (strs l) .any, .clo (.func g) [] caps] F (l.any p) := by
  refine f97.gcalls (by simp) fun n m ok => ?_
  unfold c97
  repeat (first
    | ((first | apply Wp.seqItemsR | apply Wp.itemsR); (· simp only [go_sem, reduceIte, Nat.reduceEqDiff, Nat.reduceAdd, bx, ax, if_true, if_false, Nat.reduceMul, Nat.reduceLeDiff, ix_nonneg]; exact rfl))
    | (refine WpItems.nil ⟨?_, ?_⟩; (· first | trivial | simp [pairsQ, pairsOk, apart, ent0]))
    | (apply Wp.cond_lit; (· simp only [go_sem, reduceIte, Nat.reduceEqDiff, Nat.reduceAdd, bx, ax, if_true, if_false, Nat.reduceMul, Nat.reduceLeDiff, ix_nonneg]; exact rfl); (· rfl))
    | refine Wp.skip ?_
    | refine Wp.label ?_
    | refine Wp.block ?_
    | refine Wp.exit ?_
    | refine Wp.seq ?_)
  refine WpItems.gkeep0 (by simp only [go_sem, reduceIte, Nat.reduceEqDiff, Nat.reduceAdd, bx]) (by simp only [go_sem, reduceIte, Nat.reduceEqDiff, Nat.reduceAdd, bx, List.map]; first | exact VSubs.refl _ | (repeat (first | exact VSubs.nil | refine VSubs.cons (by first | exact VSub.refl _ | assumption | exact VSub.cap | exact VSub.any _) ?_))) (indexStr_g hk l hl p hf hb hn caps hp) (hk) (ok) fun n1 m1 ids on hids => ?_
  refine WpItems.evR (by simp only [go_sem, reduceIte, Nat.reduceEqDiff, Nat.reduceAdd, bx, ix_nonneg]; exact rfl) ?_
  repeat (first
    | ((first | apply Wp.seqItemsR | apply Wp.itemsR); (· simp only [go_sem, reduceIte, Nat.reduceEqDiff, Nat.reduceAdd, bx, ax, if_true, if_false, Nat.reduceMul, Nat.reduceLeDiff, ix_nonneg]; exact rfl))
    | (refine WpItems.nil ⟨?_, ?_⟩; (· first | trivial | simp [pairsQ, pairsOk, apart, ent0]))
    | (apply Wp.cond_lit; (· simp only [go_sem, reduceIte, Nat.reduceEqDiff, Nat.reduceAdd, bx, ax, if_true, if_false, Nat.reduceMul, Nat.reduceLeDiff, ix_nonneg]; exact rfl); (· rfl))
    | refine Wp.skip ?_
    | refine Wp.label ?_
    | refine Wp.block ?_
    | refine Wp.exit ?_
    | refine Wp.seq ?_)
  exact Wp.ret ⟨trivial, _, rfl, _, _, on.ends (VSub.refl _) ⟨rfl, rfl⟩⟩
theorem containsSp_g {F : Fr} (hk : F.k = []) (l : List Sp) (hl : l.length ≤ 4611686018427387904) (p : Sp → Bool) {g : FuncId} {fn : Func} (hf : Try.prog.funcs[g]? = some fn) (hb : fn.body.isSome = true) (hn : fn.name ≠ "runtime.NumGoroutine") (caps : List AV)
    (hp : ∀ c ∈ l, Keeps g (encSp c :: caps) F (p c)) :
    Keeps 99 [.sl 2 (sps l) .any, .clo (.func g) [] caps] F (l.any p) := by
  refine f99.gcalls (by simp) fun n m ok => ?_
  unfold c99
  repeat (first
    | ((first | apply Wp.seqItemsR | apply Wp.itemsR); (· simp only [go_sem, reduceIte, Nat.reduceEqDiff, Nat.reduceAdd, bx, ax, if_true, if_false, Nat.reduceMul, Nat.reduceLeDiff, ix_nonneg]; exact rfl))
    | (refine WpItems.nil ⟨?_, ?_⟩; (· first | trivial | simp [pairsQ, pairsOk, apart, ent0]))
    | (apply Wp.cond_lit; (· simp only [go_sem, reduceIte, Nat.reduceEqDiff, Nat.reduceAdd, bx, ax, if_true, if_false, Nat.reduceMul, Nat.reduceLeDiff, ix_nonneg]; exact rfl); (· rfl))
    | refine Wp.skip ?_
    | refine Wp.label ?_
    | refine Wp.block ?_
    | refine Wp.exit ?_
    | refine Wp.seq ?_)
  refine WpItems.gkeep0 (by simp only [go_sem, reduceIte, Nat.reduceEqDiff, Nat.reduceAdd, bx]) (by simp only [go_sem, reduceIte, Nat.reduceEqDiff, Nat.reduceAdd, bx, List.map]; first | exact VSubs.refl _ | (repeat (first | exact VSubs.nil | refine VSubs.cons (by first | exact VSub.refl _ | assumption | exact VSub.cap | exact VSub.any _) ?_))) (indexSp_g hk l hl p hf hb hn caps hp) (hk) (ok) fun n1 m1 ids on hids => ?_
  refine WpItems.evR (by simp only [go_sem, reduceIte, Nat.reduceEqDiff, Nat.reduceAdd, bx, ix_nonneg]; exact rfl) ?_
  repeat (first
    | ((first | apply Wp.seqItemsR | apply Wp.itemsR); (· simp only [go_sem, reduceIte, Nat.reduceEqDiff, Nat.reduceAdd, bx, ax, if_true, if_false, Nat.reduceMul, Nat.reduceLeDiff, ix_nonneg]; exact rfl))
    | (refine WpItems.nil ⟨?_, ?_⟩; (· first | trivial | simp [pairsQ, pairsOk, apart, ent0]))
    | (apply Wp.cond_lit; (· simp only [go_sem, reduceIte, Nat.reduceEqDiff, Nat.reduceAdd, bx, ax, if_true, if_false, Nat.reduceMul, Nat.reduceLeDiff, ix_nonneg]; exact rfl); (· rfl))
    | refine Wp.skip ?_
    | refine Wp.label ?_
    | refine Wp.block ?_
    | refine Wp.exit ?_
    | refine Wp.seq ?_)
  exact Wp.ret ⟨trivial, _, rfl, _, _, on.ends (VSub.refl _) ⟨rfl, rfl⟩⟩
def SinceC (x : AV) (F : Fr) (t : Int) (w : Bs → Bs → Bool) : Prop := ∀ a b, Keeps 22 [x, .str a, .str b, .int .i64 t] F (w a b)
theorem stale1_g {x : AV} {F : Fr} {t : Int} {w : Bs → Bs → Bool} (hk : F.k = []) (hw : SinceC x F t w) (q : Bs) (hq : q.length ≤ 4611686018427387904) : Keeps 98 [.str q, .ref [x], .ref [.int .i64 t]] F (w q (q ++ [0])) := by
  refine f98.gcalls (by simp) fun n m ok => ?_
  unfold c98
  have hadd : q.length + 1 < 9223372036854775808 := by omega
  have hw2 := hw q (q ++ [0])
  repeat (first
    | ((first | apply Wp.seqItemsR | apply Wp.itemsR); (· simp only [go_sem, reduceIte, Nat.reduceEqDiff, Nat.reduceAdd, bx, ax, if_true, if_false, Nat.reduceMul, Nat.reduceLeDiff, List.length_cons, List.length_nil, Nat.zero_add, hadd]; exact rfl))
    | (refine WpItems.nil ⟨?_, ?_⟩; (· first | trivial | simp [pairsQ, pairsOk, apart, ent0]))
    | (apply Wp.cond_lit; (· simp only [go_sem, reduceIte, Nat.reduceEqDiff, Nat.reduceAdd, bx, ax, if_true, if_false, Nat.reduceMul, Nat.reduceLeDiff, List.length_cons, List.length_nil, Nat.zero_add, hadd]; exact rfl); (· rfl))
    | refine Wp.skip ?_
    | refine Wp.label ?_
    | refine Wp.block ?_
    | refine Wp.exit ?_
    | refine Wp.seq ?_)
  refine WpItems.gkeep0 (by simp only [go_sem, reduceIte, Nat.reduceEqDiff, Nat.reduceAdd, bx]) (by simp only [go_sem, reduceIte, Nat.reduceEqDiff, Nat.reduceAdd, bx, List.map]; first | exact VSubs.refl _ | (repeat (first | exact VSubs.nil | refine VSubs.cons (by first | exact VSub.refl _ | assumption | exact VSub.cap | exact VSub.any _) ?_))) (hw2) (hk) (ok) fun n1 m1 ids on hids => ?_
  refine WpItems.evR (by simp only [go_sem, reduceIte, Nat.reduceEqDiff, Nat.reduceAdd, bx]; exact rfl) ?_
  repeat (first
    | ((first | apply Wp.seqItemsR | apply Wp.itemsR); (· simp only [go_sem, reduceIte, Nat.reduceEqDiff, Nat.reduceAdd, bx, ax, if_true, if_false, Nat.reduceMul, Nat.reduceLeDiff, hadd]; exact rfl))
    | (refine WpItems.nil ⟨?_, ?_⟩; (· first | trivial | simp [pairsQ, pairsOk, apart, ent0]))
    | (apply Wp.cond_lit; (· simp only [go_sem, reduceIte, Nat.reduceEqDiff, Nat.reduceAdd, bx, ax, if_true, if_false, Nat.reduceMul, Nat.reduceLeDiff, hadd]; exact rfl); (· rfl))
    | refine Wp.skip ?_
    | refine Wp.label ?_
    | refine Wp.block ?_
    | refine Wp.exit ?_
    | refine Wp.seq ?_)
  exact Wp.ret ⟨trivial, _, rfl, _, _, on.ends (VSub.refl _) ⟨rfl, rfl⟩⟩
theorem stale2_g {x : AV} {F : Fr} {t : Int} {w : Bs → Bs → Bool} (hk : F.k = []) (hw : SinceC x F t w) (s : Sp) : Keeps 100 [encSp s, .ref [x], .ref [.int .i64 t]] F (w s.f s.t) := by
  refine f100.gsameF (by simp) fun n m ok => ?_
  unfold c100
  have hw2 := hw s.f s.t
  have ok2 := ok.more (.cells [.str s.f, .str s.t])
  have gb : ∀ L, lay (ob n (.cells [.str s.f, .str s.t]) :: L) n = some (.cells [.str s.f, .str s.t]) := fun L => lay_ob_at _ _ _
  repeat (first
    | ((first | apply Wp.seqItemsR | apply Wp.itemsR); (· simp only [go_sem, reduceIte, Nat.reduceEqDiff, Nat.reduceAdd, bx, ax, if_true, if_false, Nat.reduceMul, Nat.reduceLeDiff, encSp]; exact rfl))
    | (refine WpItems.nil ⟨?_, ?_⟩; (· first | trivial | simp [pairsQ, pairsOk, apart, ent0]))
    | (apply Wp.cond_lit; (· simp only [go_sem, reduceIte, Nat.reduceEqDiff, Nat.reduceAdd, bx, ax, if_true, if_false, Nat.reduceMul, Nat.reduceLeDiff, encSp]; exact rfl); (· rfl))
    | refine Wp.skip ?_
    | refine Wp.label ?_
    | refine Wp.block ?_
    | refine Wp.exit ?_
    | refine Wp.seq ?_)
  rw [upd_new]
  repeat (first
    | ((first | apply Wp.seqItemsR | apply Wp.itemsR); (· simp only [go_sem, reduceIte, Nat.reduceEqDiff, Nat.reduceAdd, bx, ax, if_true, if_false, Nat.reduceMul, Nat.reduceLeDiff, gb]; exact rfl))
    | (refine WpItems.nil ⟨?_, ?_⟩; (· first | trivial | simp [pairsQ, pairsOk, apart, ent0]))
    | (apply Wp.cond_lit; (· simp only [go_sem, reduceIte, Nat.reduceEqDiff, Nat.reduceAdd, bx, ax, if_true, if_false, Nat.reduceMul, Nat.reduceLeDiff, gb]; exact rfl); (· rfl))
    | refine Wp.skip ?_
    | refine Wp.label ?_
    | refine Wp.block ?_
    | refine Wp.exit ?_
    | refine Wp.seq ?_)
  refine WpItems.gkeepI ([_]) ([]) (by simp only [go_sem, reduceIte, Nat.reduceEqDiff, Nat.reduceAdd, bx]) (by simp only [go_sem, reduceIte, Nat.reduceEqDiff, Nat.reduceAdd, bx, List.map]; first | exact VSubs.refl _ | (repeat (first | exact VSubs.nil | refine VSubs.cons (by first | exact VSub.refl _ | assumption | exact VSub.cap | exact VSub.any _) ?_))) (hw2) (hk) (ok2) fun n1 m1 ids hn1 hm1 hids ok3 => ?_
  simp only [List.cons_append, List.nil_append] at ok3 ⊢
  refine WpItems.evR (by simp only [go_sem, reduceIte, Nat.reduceEqDiff, Nat.reduceAdd, bx]; exact rfl) ?_
  repeat (first
    | ((first | apply Wp.seqItemsR | apply Wp.itemsR); (· simp only [go_sem, reduceIte, Nat.reduceEqDiff, Nat.reduceAdd, bx, ax, if_true, if_false, Nat.reduceMul, Nat.reduceLeDiff, gb]; exact rfl))
    | (refine WpItems.nil ⟨?_, ?_⟩; (· first | trivial | simp [pairsQ, pairsOk, apart, ent0]))
    | (apply Wp.cond_lit; (· simp only [go_sem, reduceIte, Nat.reduceEqDiff, Nat.reduceAdd, bx, ax, if_true, if_false, Nat.reduceMul, Nat.reduceLeDiff, gb]; exact rfl); (· rfl))
    | refine Wp.skip ?_
    | refine Wp.label ?_
    | refine Wp.block ?_
    | refine Wp.exit ?_
    | refine Wp.seq ?_)
  exact Wp.ret ⟨trivial, _, rfl, VSub.refl _, fun j hj => lay_ob_ne _ _ (by omega), fun t ht => by simp [ks, hk] at ht⟩
end Go.Proofs.Ytpehfflehebmbaa.Reads
end
section
set_option linter.unusedSimpArgs false
set_option linter.unusedVariables false
set_option maxRecDepth 10000
namespace Go.Proofs.Ytpehfflehebmbaa.Reads
open Go Go.Av Go.Proofs Go.Proofs.Ytpehfflehebmbaa.C Go.Proofs.Ytpehfflehebmbaa.Batch
def staleB (k : List Bs) (l : List Sp) (w : Bs → Bs → Bool) : Bool := checkB k l && ((k.any fun q => w q (q ++ [0])) || l.any fun s => w s.f s.t)
set_option maxHeartbeats 2000000 in
theorem stale_g {x : AV} {F : Fr} {t : Int} {w : Bs → Bs → Bool} (hx : x = .sc (.pointer none) ∨ ∃ s, x = .ptr s 0 ∧ (F.o s).isSome = true) (hk : F.k = []) (hw : SinceC x F t w) (k : List Bs) (l : List Sp) (lk : ∀ q ∈ k, q.length ≤ 4611686018427387904) :
    Keeps 50 [encR k l, x, .int .i64 t] F (staleB k l w) := by
  refine f50.gsameF (by simp) fun n m ok => ?_
  unfold c50
  have hck := check_p k l
  unfold encR at hck
  have e1 : decide (n ≤ n) = true := decide_eq_true (by omega)
  have e2 : decide (n ≤ n + 1) = true := decide_eq_true (by omega)
  have e3 : decide (n ≤ n + 1 + 1) = true := decide_eq_true (by omega)
  have f1 : (n = n + 1 + 1) = False := eq_false (by omega)
  have f2 : (n = n + 1) = False := eq_false (by omega)
  have f3 : (n + 1 = n + 1 + 1) = False := eq_false (by omega)
  have ok1 : Ok [F] (n + 1 + 1 + 1) (ks [F]) m := ok.grow (by omega) (Nat.le_refl _)
  have ole : ∀ a b c : Av.Obj, OLe (H.drop ⟨upd (upd (upd (lay [F]) n (some a)) (n + 1) (some b)) (n + 1 + 1) (some c), n + 1 + 1 + 1, ks [F], m⟩ fun j => decide (n ≤ j)).objs (lay [F]) := fun a b c j o hj => by
    have hjn : j < n := by
      rcases Nat.lt_or_ge j n with h | h
      · exact h
      · rw [ok.lay_bd h] at hj; cases hj
    refine ⟨o, ?_, OSub.refl _⟩
    simp only [H.drop, upd]
    rw [if_neg (by simp; omega), if_neg (by omega), if_neg (by omega), if_neg (by omega)]; exact hj
  have c1 := fun (hc : checkB k l = true) => containsStr_g hk k (by have := (check_ok hc).1; omega) (fun q => w q (q ++ [0])) Try.func98 rfl (of_decide_eq_true (by kernel_rfl)) [.ref [x], .ref [.int .i64 t]] (fun c hc2 => stale1_g hk hw c (lk c hc2))
  have c2 := fun (hc : checkB k l = true) => containsSp_g hk l (by have := (check_ok hc).2.1; omega) (fun s => w s.f s.t) Try.func100 rfl (of_decide_eq_true (by kernel_rfl)) [.ref [x], .ref [.int .i64 t]] (fun c _ => stale2_g hk hw c)
  have d4 : decide ((4 : Int) = 0) = false := rfl
  have d0 : decide ((0 : Int) = 0) = true := rfl
  rcases hx with e | ⟨s, e, hs⟩
  · clear hw
    subst e
    refine Wp.seqReg (by simp only [go_sem, reduceIte, Nat.reduceEqDiff, Nat.reduceAdd, bx, encR]; exact rfl) (by trivial) ?_
    refine Wp.frz (fun j => decide (n ≤ j)) [(3, .ref [.sl 1 (strs k) .any, .sl 2 (sps l) .any]), (4, .ref [.sc (.pointer none)]), (5, .ref [.int .i64 t])] ⟨lay [F], n + 1 + 1 + 1, ks [F], m⟩ ?_ (ole _ _ _) (fun t ht => ht) (Nat.le_refl _) (Nat.le_refl _) ?_
    · simp only [AllSub, go_sem, reduceIte, Nat.reduceEqDiff, unT, bx, e1, e2, e3, f1, f2, f3, if_false, if_true, List.drop_zero]
      and_intros <;> first | exact VSub.refl _ | trivial
    cases hc : checkB k l with
    | false =>
      rw [hc] at hck
      simp only [Bool.false_eq_true, if_false] at hck
      repeat (first
        | ((first | apply Wp.seqItemsR | apply Wp.itemsR | ((first
            | (refine WpItems.pcall ?_ ?_ (hck) ?_; (· simp only [go_sem, reduceIte, Nat.reduceEqDiff, Nat.reduceAdd, bx]); (· simp only [go_sem, reduceIte, Nat.reduceEqDiff, Nat.reduceAdd, bx, List.map]; first | exact VSubs.refl _ | (repeat (first | exact VSubs.nil | refine VSubs.cons (by first | exact VSub.refl _ | assumption | exact VSub.cap | exact VSub.any _) ?_))))); apply WpItems.evR)); (· simp only [go_sem, reduceIte, Nat.reduceEqDiff, Nat.reduceAdd, bx, ax, if_true, if_false, Nat.reduceMul, Nat.reduceLeDiff, d4]; exact rfl))
        | (refine WpItems.nil ⟨?_, ?_⟩; (· first | trivial | simp [pairsQ, pairsOk, apart, ent0]))
        | (apply Wp.cond_lit; (· simp only [go_sem, reduceIte, Nat.reduceEqDiff, Nat.reduceAdd, bx, ax, if_true, if_false, Nat.reduceMul, Nat.reduceLeDiff, d4]; exact rfl); (· rfl))
        | refine Wp.skip ?_
        | refine Wp.label ?_
        | refine Wp.block ?_
        | refine Wp.exit ?_
        | refine Wp.seq ?_)
      refine Wp.ret ⟨trivial, _, rfl, ?_, fun j hj => rfl, fun t ht => ht⟩
      rw [staleB, hc]; exact VSub.refl _
    | true =>
      rw [hc] at hck
      simp only [if_true] at hck
      have k1 := c1 hc
      have k2 := c2 hc
      repeat (first
        | ((first | apply Wp.seqItemsR | apply Wp.itemsR | ((first
            | (refine WpItems.pcall ?_ ?_ (hck) ?_; (· simp only [go_sem, reduceIte, Nat.reduceEqDiff, Nat.reduceAdd, bx]); (· simp only [go_sem, reduceIte, Nat.reduceEqDiff, Nat.reduceAdd, bx, List.map]; first | exact VSubs.refl _ | (repeat (first | exact VSubs.nil | refine VSubs.cons (by first | exact VSub.refl _ | assumption | exact VSub.cap | exact VSub.any _) ?_))))); apply WpItems.evR)); (· simp only [go_sem, reduceIte, Nat.reduceEqDiff, Nat.reduceAdd, bx, ax, if_true, if_false, Nat.reduceMul, Nat.reduceLeDiff, d0]; exact rfl))
        | (refine WpItems.nil ⟨?_, ?_⟩; (· first | trivial | simp [pairsQ, pairsOk, apart, ent0]))
        | (apply Wp.cond_lit; (· simp only [go_sem, reduceIte, Nat.reduceEqDiff, Nat.reduceAdd, bx, ax, if_true, if_false, Nat.reduceMul, Nat.reduceLeDiff, d0]; exact rfl); (· rfl))
        | refine Wp.skip ?_
        | refine Wp.label ?_
        | refine Wp.block ?_
        | refine Wp.exit ?_
        | refine Wp.seq ?_)
      cases hb1 : (k.any fun q => w q (q ++ [0])) with
      | true =>
        rw [hb1] at k1
        refine WpItems.gkeep0 (by simp only [go_sem, reduceIte, Nat.reduceEqDiff, Nat.reduceAdd, bx]) (by simp only [go_sem, reduceIte, Nat.reduceEqDiff, Nat.reduceAdd, bx, List.map]; first | exact VSubs.refl _ | (repeat (first | exact VSubs.nil | refine VSubs.cons (by first | exact VSub.refl _ | assumption | exact VSub.cap | exact VSub.any _) ?_))) (k1) (hk) (ok1) fun n1 m1 ids1 on1 hids1 => ?_
        refine WpItems.evR (by simp only [go_sem, reduceIte, Nat.reduceEqDiff, Nat.reduceAdd, bx]; exact rfl) ?_
        repeat (first
          | ((first | apply Wp.seqItemsR | apply Wp.itemsR); (· simp only [go_sem, reduceIte, Nat.reduceEqDiff, Nat.reduceAdd, bx, ax, if_true, if_false, Nat.reduceMul, Nat.reduceLeDiff, d0]; exact rfl))
          | (refine WpItems.nil ⟨?_, ?_⟩; (· first | trivial | simp [pairsQ, pairsOk, apart, ent0]))
          | (apply Wp.cond_lit; (· simp only [go_sem, reduceIte, Nat.reduceEqDiff, Nat.reduceAdd, bx, ax, if_true, if_false, Nat.reduceMul, Nat.reduceLeDiff, d0]; exact rfl); (· rfl))
          | refine Wp.skip ?_
          | refine Wp.label ?_
          | refine Wp.block ?_
          | refine Wp.exit ?_
          | refine Wp.seq ?_)
        refine Wp.ret ⟨trivial, _, rfl, ?_, fun j hj => rfl, fun t ht => by simp [ks, hk] at ht⟩
        rw [staleB, hc, hb1]; exact VSub.refl _
      | false =>
        rw [hb1] at k1
        refine WpItems.gkeep0 (by simp only [go_sem, reduceIte, Nat.reduceEqDiff, Nat.reduceAdd, bx]) (by simp only [go_sem, reduceIte, Nat.reduceEqDiff, Nat.reduceAdd, bx, List.map]; first | exact VSubs.refl _ | (repeat (first | exact VSubs.nil | refine VSubs.cons (by first | exact VSub.refl _ | assumption | exact VSub.cap | exact VSub.any _) ?_))) (k1) (hk) (ok1) fun n1 m1 ids1 on1 hids1 => ?_
        refine WpItems.evR (by simp only [go_sem, reduceIte, Nat.reduceEqDiff, Nat.reduceAdd, bx]; exact rfl) ?_
        repeat (first
          | ((first | apply Wp.seqItemsR | apply Wp.itemsR); (· simp only [go_sem, reduceIte, Nat.reduceEqDiff, Nat.reduceAdd, bx, ax, if_true, if_false, Nat.reduceMul, Nat.reduceLeDiff, d0]; exact rfl))
          | (refine WpItems.nil ⟨?_, ?_⟩; (· first | trivial | simp [pairsQ, pairsOk, apart, ent0]))
          | (apply Wp.cond_lit; (· simp only [go_sem, reduceIte, Nat.reduceEqDiff, Nat.reduceAdd, bx, ax, if_true, if_false, Nat.reduceMul, Nat.reduceLeDiff, d0]; exact rfl); (· rfl))
          | refine Wp.skip ?_
          | refine Wp.label ?_
          | refine Wp.block ?_
          | refine Wp.exit ?_
          | refine Wp.seq ?_)
        refine WpItems.gkeep0 (by simp only [go_sem, reduceIte, Nat.reduceEqDiff, Nat.reduceAdd, bx]) (by simp only [go_sem, reduceIte, Nat.reduceEqDiff, Nat.reduceAdd, bx, List.map]; first | exact VSubs.refl _ | (repeat (first | exact VSubs.nil | refine VSubs.cons (by first | exact VSub.refl _ | assumption | exact VSub.cap | exact VSub.any _) ?_))) (k2) (hk) (on1.ok) fun n2 m2 ids2 on2 hids2 => ?_
        refine WpItems.evR (by simp only [go_sem, reduceIte, Nat.reduceEqDiff, Nat.reduceAdd, bx]; exact rfl) ?_
        repeat (first
          | ((first | apply Wp.seqItemsR | apply Wp.itemsR); (· simp only [go_sem, reduceIte, Nat.reduceEqDiff, Nat.reduceAdd, bx, ax, if_true, if_false, Nat.reduceMul, Nat.reduceLeDiff, d0]; exact rfl))
          | (refine WpItems.nil ⟨?_, ?_⟩; (· first | trivial | simp [pairsQ, pairsOk, apart, ent0]))
          | (apply Wp.cond_lit; (· simp only [go_sem, reduceIte, Nat.reduceEqDiff, Nat.reduceAdd, bx, ax, if_true, if_false, Nat.reduceMul, Nat.reduceLeDiff, d0]; exact rfl); (· rfl))
          | refine Wp.skip ?_
          | refine Wp.label ?_
          | refine Wp.block ?_
          | refine Wp.exit ?_
          | refine Wp.seq ?_)
        refine Wp.ret ⟨trivial, _, rfl, ?_, fun j hj => rfl, fun t ht => by simp [ks, hk] at ht⟩
        rw [staleB, hc, hb1]; exact VSub.refl _
  · clear hw
    subst e
    refine Wp.seqReg (by simp only [go_sem, reduceIte, Nat.reduceEqDiff, Nat.reduceAdd, bx, encR]; exact rfl) (by trivial) ?_
    refine Wp.frz (fun j => decide (n ≤ j)) [(3, .ref [.sl 1 (strs k) .any, .sl 2 (sps l) .any]), (4, .ref [.ptr s 0]), (5, .ref [.int .i64 t])] ⟨lay [F], n + 1 + 1 + 1, ks [F], m⟩ ?_ (ole _ _ _) (fun t ht => ht) (Nat.le_refl _) (Nat.le_refl _) ?_
    · simp only [AllSub, go_sem, reduceIte, Nat.reduceEqDiff, unT, bx, e1, e2, e3, f1, f2, f3, if_false, if_true, List.drop_zero]
      and_intros <;> first | exact VSub.refl _ | trivial
    cases hc : checkB k l with
    | false =>
      rw [hc] at hck
      simp only [Bool.false_eq_true, if_false] at hck
      repeat (first
        | ((first | apply Wp.seqItemsR | apply Wp.itemsR | ((first
            | (refine WpItems.pcall ?_ ?_ (hck) ?_; (· simp only [go_sem, reduceIte, Nat.reduceEqDiff, Nat.reduceAdd, bx]); (· simp only [go_sem, reduceIte, Nat.reduceEqDiff, Nat.reduceAdd, bx, List.map]; first | exact VSubs.refl _ | (repeat (first | exact VSubs.nil | refine VSubs.cons (by first | exact VSub.refl _ | assumption | exact VSub.cap | exact VSub.any _) ?_))))); apply WpItems.evR)); (· simp only [go_sem, reduceIte, Nat.reduceEqDiff, Nat.reduceAdd, bx, ax, if_true, if_false, Nat.reduceMul, Nat.reduceLeDiff, d4]; exact rfl))
        | (refine WpItems.nil ⟨?_, ?_⟩; (· first | trivial | simp [pairsQ, pairsOk, apart, ent0]))
        | (apply Wp.cond_lit; (· simp only [go_sem, reduceIte, Nat.reduceEqDiff, Nat.reduceAdd, bx, ax, if_true, if_false, Nat.reduceMul, Nat.reduceLeDiff, d4]; exact rfl); (· rfl))
        | refine Wp.skip ?_
        | refine Wp.label ?_
        | refine Wp.block ?_
        | refine Wp.exit ?_
        | refine Wp.seq ?_)
      refine Wp.ret ⟨trivial, _, rfl, ?_, fun j hj => rfl, fun t ht => ht⟩
      rw [staleB, hc]; exact VSub.refl _
    | true =>
      rw [hc] at hck
      simp only [if_true] at hck
      have k1 := c1 hc
      have k2 := c2 hc
      repeat (first
        | ((first | apply Wp.seqItemsR | apply Wp.itemsR | ((first
            | (refine WpItems.pcall ?_ ?_ (hck) ?_; (· simp only [go_sem, reduceIte, Nat.reduceEqDiff, Nat.reduceAdd, bx]); (· simp only [go_sem, reduceIte, Nat.reduceEqDiff, Nat.reduceAdd, bx, List.map]; first | exact VSubs.refl _ | (repeat (first | exact VSubs.nil | refine VSubs.cons (by first | exact VSub.refl _ | assumption | exact VSub.cap | exact VSub.any _) ?_))))); apply WpItems.evR)); (· simp only [go_sem, reduceIte, Nat.reduceEqDiff, Nat.reduceAdd, bx, ax, if_true, if_false, Nat.reduceMul, Nat.reduceLeDiff, d0]; exact rfl))
        | (refine WpItems.nil ⟨?_, ?_⟩; (· first | trivial | simp [pairsQ, pairsOk, apart, ent0]))
        | (apply Wp.cond_lit; (· simp only [go_sem, reduceIte, Nat.reduceEqDiff, Nat.reduceAdd, bx, ax, if_true, if_false, Nat.reduceMul, Nat.reduceLeDiff, d0]; exact rfl); (· rfl))
        | refine Wp.skip ?_
        | refine Wp.label ?_
        | refine Wp.block ?_
        | refine Wp.exit ?_
        | refine Wp.seq ?_)
      cases hb1 : (k.any fun q => w q (q ++ [0])) with
      | true =>
        rw [hb1] at k1
        refine WpItems.gkeep0 (by simp only [go_sem, reduceIte, Nat.reduceEqDiff, Nat.reduceAdd, bx]) (by simp only [go_sem, reduceIte, Nat.reduceEqDiff, Nat.reduceAdd, bx, List.map]; first | exact VSubs.refl _ | (repeat (first | exact VSubs.nil | refine VSubs.cons (by first | exact VSub.refl _ | assumption | exact VSub.cap | exact VSub.any _) ?_))) (k1) (hk) (ok1) fun n1 m1 ids1 on1 hids1 => ?_
        refine WpItems.evR (by simp only [go_sem, reduceIte, Nat.reduceEqDiff, Nat.reduceAdd, bx]; exact rfl) ?_
        repeat (first
          | ((first | apply Wp.seqItemsR | apply Wp.itemsR); (· simp only [go_sem, reduceIte, Nat.reduceEqDiff, Nat.reduceAdd, bx, ax, if_true, if_false, Nat.reduceMul, Nat.reduceLeDiff, d0]; exact rfl))
          | (refine WpItems.nil ⟨?_, ?_⟩; (· first | trivial | simp [pairsQ, pairsOk, apart, ent0]))
          | (apply Wp.cond_lit; (· simp only [go_sem, reduceIte, Nat.reduceEqDiff, Nat.reduceAdd, bx, ax, if_true, if_false, Nat.reduceMul, Nat.reduceLeDiff, d0]; exact rfl); (· rfl))
          | refine Wp.skip ?_
          | refine Wp.label ?_
          | refine Wp.block ?_
          | refine Wp.exit ?_
          | refine Wp.seq ?_)
        refine Wp.ret ⟨trivial, _, rfl, ?_, fun j hj => rfl, fun t ht => by simp [ks, hk] at ht⟩
        rw [staleB, hc, hb1]; exact VSub.refl _
      | false =>
        rw [hb1] at k1
        refine WpItems.gkeep0 (by simp only [go_sem, reduceIte, Nat.reduceEqDiff, Nat.reduceAdd, bx]) (by simp only [go_sem, reduceIte, Nat.reduceEqDiff, Nat.reduceAdd, bx, List.map]; first | exact VSubs.refl _ | (repeat (first | exact VSubs.nil | refine VSubs.cons (by first | exact VSub.refl _ | assumption | exact VSub.cap | exact VSub.any _) ?_))) (k1) (hk) (ok1) fun n1 m1 ids1 on1 hids1 => ?_
        refine WpItems.evR (by simp only [go_sem, reduceIte, Nat.reduceEqDiff, Nat.reduceAdd, bx]; exact rfl) ?_
        repeat (first
          | ((first | apply Wp.seqItemsR | apply Wp.itemsR); (· simp only [go_sem, reduceIte, Nat.reduceEqDiff, Nat.reduceAdd, bx, ax, if_true, if_false, Nat.reduceMul, Nat.reduceLeDiff, d0]; exact rfl))
          | (refine WpItems.nil ⟨?_, ?_⟩; (· first | trivial | simp [pairsQ, pairsOk, apart, ent0]))
          | (apply Wp.cond_lit; (· simp only [go_sem, reduceIte, Nat.reduceEqDiff, Nat.reduceAdd, bx, ax, if_true, if_false, Nat.reduceMul, Nat.reduceLeDiff, d0]; exact rfl); (· rfl))
          | refine Wp.skip ?_
          | refine Wp.label ?_
          | refine Wp.block ?_
          | refine Wp.exit ?_
          | refine Wp.seq ?_)
        refine WpItems.gkeep0 (by simp only [go_sem, reduceIte, Nat.reduceEqDiff, Nat.reduceAdd, bx]) (by simp only [go_sem, reduceIte, Nat.reduceEqDiff, Nat.reduceAdd, bx, List.map]; first | exact VSubs.refl _ | (repeat (first | exact VSubs.nil | refine VSubs.cons (by first | exact VSub.refl _ | assumption | exact VSub.cap | exact VSub.any _) ?_))) (k2) (hk) (on1.ok) fun n2 m2 ids2 on2 hids2 => ?_
        refine WpItems.evR (by simp only [go_sem, reduceIte, Nat.reduceEqDiff, Nat.reduceAdd, bx]; exact rfl) ?_
        repeat (first
          | ((first | apply Wp.seqItemsR | apply Wp.itemsR); (· simp only [go_sem, reduceIte, Nat.reduceEqDiff, Nat.reduceAdd, bx, ax, if_true, if_false, Nat.reduceMul, Nat.reduceLeDiff, d0]; exact rfl))
          | (refine WpItems.nil ⟨?_, ?_⟩; (· first | trivial | simp [pairsQ, pairsOk, apart, ent0]))
          | (apply Wp.cond_lit; (· simp only [go_sem, reduceIte, Nat.reduceEqDiff, Nat.reduceAdd, bx, ax, if_true, if_false, Nat.reduceMul, Nat.reduceLeDiff, d0]; exact rfl); (· rfl))
          | refine Wp.skip ?_
          | refine Wp.label ?_
          | refine Wp.block ?_
          | refine Wp.exit ?_
          | refine Wp.seq ?_)
        refine Wp.ret ⟨trivial, _, rfl, ?_, fun j hj => rfl, fun t ht => by simp [ks, hk] at ht⟩
        rw [staleB, hc, hb1]; exact VSub.refl _
theorem less_zero : ∀ (x q : Bs), (!Op.bytesLess x q && Op.bytesLess x (q ++ [0])) = decide (x = q)
  | [], [] => by simp [Op.bytesLess]
  | a :: x, [] => by cases x <;> simp [Op.bytesLess]
  | [], b :: q => by simp [Op.bytesLess]
  | a :: x, b :: q => by
    have ih := less_zero x q
    simp only [List.cons_append, Op.bytesLess]
    by_cases h1 : a < b
    · have : a ≠ b := fun e => by rw [e] at h1; exact absurd h1 (by simp)
      simp [h1, this]
    · by_cases h2 : a = b
      · subst h2
        simp only [h1, decide_false, Bool.false_or, beq_self_eq_true, Bool.true_and]
        rw [ih]; simp
      · have : (a == b) = false := by simp [h2]
        simp [h1, h2, this]
theorem in_zero (x q : Bs) : Space.inB x q (q ++ [0]) = decide (x = q) := by
  have : (q ++ [0] : Bs) ≠ [] := by simp
  rw [← less_zero, Space.inB, Space.selP, decide_eq_false this, Bool.false_or]
theorem win_in (s : Sp) (x : Bs) : Space.inB x s.f s.t = winB s x := rfl
open Space (Spc It RiseL sinceS) in
theorem stale_law {S : Spc} (hr : RiseL S.L) (k : List Bs) (l : List Sp) (t : Int) : staleB k l (fun a b => sinceS S a b t) = S.L.any fun p => coversB k l p.1 && sinceS S p.1 (p.1 ++ [0]) t := by
  cases hc : checkB k l with
  | false => simp [staleB, coversB, hc]
  | true =>
    rw [staleB, hc, Bool.true_and]
    refine Bool.eq_iff_iff.2 ?_
    simp only [Bool.or_eq_true, List.any_eq_true, Bool.and_eq_true, covers_eq hc, decide_eq_true_eq, Space.sinceS_eq hr, in_zero, win_in]
    constructor
    · rintro (⟨q, hq, p, hp, e, hs⟩ | ⟨s, hs, p, hp, hw, hv⟩)
      · exact ⟨p, hp, .inl (by rw [e]; exact hq), p, hp, rfl, hs⟩
      · exact ⟨p, hp, .inr (List.any_eq_true.2 ⟨s, hs, hw⟩), p, hp, rfl, hv⟩
    · rintro ⟨p, hp, h1, p2, hp2, e, hv⟩
      rcases h1 with h1 | h1
      · exact .inl ⟨p.1, h1, p2, hp2, e, hv⟩
      · obtain ⟨s, hs, hw⟩ := List.any_eq_true.1 h1
        exact .inr ⟨s, hs, p2, hp2, by rw [e]; exact hw, hv⟩
end Go.Proofs.Ytpehfflehebmbaa.Reads
end
section
set_option linter.unusedSimpArgs false
set_option linter.unusedVariables false
set_option maxRecDepth 10000
namespace Go.Proofs.Ytpehfflehebmbaa.Space
open Go Go.Av Go.Proofs Go.Proofs.Ytpehfflehebmbaa.C Go.Proofs.Ytpehfflehebmbaa.Batch
structure Rt (S : Spc) : Prop where
  it : ∀ p ∈ S.L, p.1.length ≤ 128 ∧ chB p.2 = true ∧ (p.2.getD 0 default).t ≤ S.last
  mn : 0 ≤ S.mark
  ml : S.mark ≤ S.last
  mx : S.last ≤ 1152921504606846976
theorem Rt.zero : Rt ⟨[], 0, 0⟩ := ⟨fun p hp => by simp at hp, by simp, by simp, by simp⟩
theorem chB_nil : chB [] = true := rfl
theorem chB_iff {l : List Ver} : chB l = true ↔ ∀ i, i < l.length → vOk l i = true := by
  rw [chB, List.all_eq_true]
  exact ⟨fun h i hi => h i (List.mem_range.2 hi), fun h i hi => h i (List.mem_range.1 hi)⟩
theorem chB_cons {x : Ver} {v : List Ver} : chB (x :: v) = true ↔ okV x = true ∧ chB v = true ∧ (v ≠ [] → (v.getD 0 default).t < x.t) := by
  rw [chB_iff, chB_iff]
  constructor
  · intro h
    refine ⟨?_, fun i hi => ?_, fun hv => ?_⟩
    · have := h 0 (by simp)
      rwa [vOk_zero rfl, List.getD_cons_zero] at this
    · have := h (i + 1) (by simp; omega)
      rw [vOk_pos (by omega)] at this
      simp only [List.getD_cons_succ, Nat.add_sub_cancel, Bool.and_eq_true, decide_eq_true_eq] at this
      cases i with
      | zero => rw [vOk_zero rfl]; exact this.1
      | succ i =>
        rw [vOk_pos (by omega)]
        simp only [List.getD_cons_succ, Nat.add_sub_cancel, Bool.and_eq_true, decide_eq_true_eq] at this ⊢
        exact this
    · have := h 1 (by have := List.length_pos_iff.2 hv; simp; omega)
      rw [vOk_pos (by omega)] at this
      simp only [List.getD_cons_succ, Nat.sub_self, List.getD_cons_zero, Bool.and_eq_true, decide_eq_true_eq] at this
      exact this.2
  · rintro ⟨h1, h2, h3⟩ i hi
    cases i with
    | zero => rw [vOk_zero rfl, List.getD_cons_zero]; exact h1
    | succ i =>
      have hi2 : i < v.length := by simpa using hi
      have := h2 i hi2
      rw [vOk_pos (by omega)]
      simp only [List.getD_cons_succ, Nat.add_sub_cancel, Bool.and_eq_true, decide_eq_true_eq]
      cases i with
      | zero =>
        rw [vOk_zero rfl] at this
        exact ⟨this, by rw [List.getD_cons_zero]; exact h3 (fun e => by rw [e] at hi2; simp at hi2)⟩
      | succ i =>
        rw [vOk_pos (by omega)] at this
        simp only [Nat.add_sub_cancel, Bool.and_eq_true, decide_eq_true_eq] at this
        rw [List.getD_cons_succ]; exact this
theorem add_right {v : List Ver} {x : Ver} (hv : chB v = true) (hx : okV x = true) (ht : v ≠ [] → (v.getD 0 default).t < x.t) : addB v x = (x :: v, 0) := by
  rw [addB, if_neg (by simp [hv]), if_neg (by simp [hx]), if_neg]
  rintro ⟨h1, h2⟩
  have := ht (List.length_pos_iff.1 h1)
  omega
theorem okV_of {c : Ch} {t : Int} (h1 : 1 ≤ t) (h2 : t ≤ 1152921504606846976) (h3 : ((c.v.length : Nat) : Int) ≤ 200) (h4 : (!c.d || decide (c.v = [])) = true) : okV ⟨t, c.v, c.d⟩ = true := by
  simp only [okV, decide_eq_true h1, decide_eq_true h2, decide_eq_true h3, Bool.true_and]
  exact h4
theorem mget_right {L : List It} (h : ∀ p ∈ L, chB p.2 = true) (q : Bs) : chB (mget L q) = true := by
  induction L with
  | nil => exact chB_nil
  | cons p L ih =>
    rw [mget]
    split
    · exact h p (by simp)
    · exact ih (fun x hx => h x (by simp [hx]))
theorem mget_prop {L : List It} {P : It → Prop} (h : ∀ p ∈ L, P p) (q : Bs) (hn : mget L q ≠ []) : ∃ p, P p ∧ p.2 = mget L q ∧ p.1 = q := by
  induction L with
  | nil => simp [mget] at hn
  | cons p L ih =>
    rw [mget] at hn ⊢
    split
    · rename_i e; exact ⟨p, h p (by simp), rfl, e⟩
    · rename_i e
      rw [if_neg e] at hn
      exact ih (fun x hx => h x (by simp [hx])) hn
theorem Rt.head {S : Spc} (h : Rt S) (q : Bs) (hn : mget S.L q ≠ []) : ((mget S.L q).getD 0 default).t ≤ S.last := by
  obtain ⟨p, h1, h2, -⟩ := mget_prop h.it q hn
  rw [← h2]; exact h1.2.2
theorem fit_ok {l : List Ch} (h : fitB l = true) {j : Nat} (hj : j < l.length) : (((l.getD j default).v.length : Nat) : Int) ≤ 200 ∧ (!(l.getD j default).d || decide ((l.getD j default).v = [])) = true := by
  have := fit_at h hj
  simp only [fitAt, Bool.and_eq_true, decide_eq_true_eq] at this
  exact ⟨this.1.2, this.2⟩
theorem upR_right {S : Spc} (h : Rt S) {t : Int} (h1 : S.last < t) (h2 : t ≤ 1152921504606846976) {l : List Ch} (hf : fitB l = true) : ∀ j, j ≤ l.length → ∀ p ∈ (l.take j).foldl (upR t S) S.L, p.1.length ≤ 128 ∧ chB p.2 = true ∧ (p.2.getD 0 default).t ≤ t
  | 0, _ => by
    simp only [List.take_zero, List.foldl_nil]
    intro p hp
    obtain ⟨a, b, c⟩ := h.it p hp
    exact ⟨a, b, by omega⟩
  | j + 1, hj => by
    have ih := upR_right h h1 h2 hf j (by omega)
    rw [take_snoc default (show j < l.length by omega), List.foldl_append]
    intro p hp
    simp only [List.foldl_cons, List.foldl_nil, upR] at hp
    rcases setL_mem hp with rfl | hp
    · have hk := fit_len hf (show j < l.length by omega)
      obtain ⟨a, b⟩ := fit_ok hf (show j < l.length by omega)
      have hm := mget_right (fun p hp => (h.it p hp).2.1) (l.getD j default).k
      have hx := okV_of (t := t) (by have := h.mn; have := h.ml; omega) h2 a b
      have ha := add_right hm hx (fun hn => by have := h.head _ hn; simp only; omega)
      rw [ha]
      refine ⟨by simpa using hk, chB_cons.2 ⟨hx, hm, fun hn => ?_⟩, by simp⟩
      have := h.head _ hn
      simp only; omega
    · exact ih p hp
theorem Rt.apply {S : Spc} {k : Nat} (h : Rt S) (hF : Fit S k) (t : Int) (l : List Ch) : Rt (applyB S t l).1 := by
  unfold applyB
  split
  · exact h
  · split
    · exact h
    · rename_i h1 h2
      have hf : fitB l = true := by simpa using h2
      have e := (do_eq t S hF.ri l hf l.length (Nat.le_refl _)).2.2
      have hu := upR_right h (t := t) (by omega) (by omega) hf l.length (Nat.le_refl _)
      rw [List.take_length] at e hu
      rw [e]
      exact ⟨fun p hp => hu p hp, h.mn, by have := h.ml; simp only; omega, by simp only; omega⟩
theorem Rt.load {S : Spc} {k : Nat} (h : Rt S) (hF : Fit S k) : ldB S.L S.last S.mark = true := by
  have hall : (List.range S.L.length).all (ldAt S.L S.last) = true := by
    refine List.all_eq_true.2 fun i hi => ?_
    have hi := List.mem_range.1 hi
    have hm : S.L.getD i default ∈ S.L := by rw [getD_el hi]; exact List.getElem_mem hi
    obtain ⟨a, b, c⟩ := h.it _ hm
    have hn := hF.fu _ hm
    have hl : (decide (i = 0) || Op.bytesLess (aheadAt S.L i) (S.L.getD i default).1) = true := by
      by_cases e : i = 0
      · simp [e]
      · rw [Bool.or_eq_true]; right
        rw [aheadAt, if_neg e]
        have := Rise.at (k := keysOf S.L) hF.ri (i := i - 1) (j := i) (by omega) (by simpa [keysOf] using hi)
        have e1 : (keysOf S.L).getD i [] = (S.L.getD i default).1 := by rw [getD_el (by simpa [keysOf] using hi), getD_el hi]; simp [keysOf]
        have e2 : (keysOf S.L).getD (i - 1) [] = (S.L.getD (i - 1) default).1 := by rw [getD_el (by simp [keysOf]; omega), getD_el (by omega)]; simp [keysOf]
        rwa [e1, e2] at this
    rw [ldAt, mayB, hl, b, decide_eq_true (show (((S.L.getD i default).1.length : Nat) : Int) ≤ 128 by omega), decide_eq_true (List.length_pos_iff.2 hn), decide_eq_true c]; rfl
  have h1 := h.mn
  have h2 := h.ml
  have h3 := h.mx
  rw [ldB, hall, decide_eq_false (show ¬ S.last < 0 by omega), decide_eq_false (show ¬ 1152921504606846976 < S.last by omega), decide_eq_false (show ¬ S.mark < 0 by omega), decide_eq_false (show ¬ S.last < S.mark by omega)]; rfl
end Go.Proofs.Ytpehfflehebmbaa.Space
end
section
set_option linter.unusedSimpArgs false
set_option linter.unusedVariables false
set_option maxRecDepth 10000
namespace Go.Proofs.Ytpehfflehebmbaa.Reads
open Go Go.Av Go.Proofs Go.Proofs.Ytpehfflehebmbaa.C Go.Proofs.Ytpehfflehebmbaa.Batch
open Space (Spc It RiseL sinceS mget upR Rt chB plc Fit)
def covQ (k : List Bs) (l : List Sp) (q : Bs) : Bool := decide (q ∈ k) || spanned l q
theorem stale_q {S : Spc} (hr : RiseL S.L) {k : List Bs} {l : List Sp} (hc : checkB k l = true) (t : Int) : staleB k l (fun a b => sinceS S a b t) = true ↔ ∃ q, covQ k l q = true ∧ Space.sinceB (mget S.L q) t = true := by
  rw [stale_law hr]
  simp only [List.any_eq_true, Bool.and_eq_true, covers_eq hc, Space.sinceS_eq hr, in_zero, decide_eq_true_eq]
  constructor
  · rintro ⟨p, hp, h1, p2, hp2, e, h2⟩
    exact ⟨p.1, h1, by rw [← e, Space.mget_mem hr hp2]; exact h2⟩
  · rintro ⟨q, h1, h2⟩
    have hn : mget S.L q ≠ [] := fun e => by rw [e] at h2; simp [Space.sinceB, plc] at h2
    obtain ⟨p, hp, e1, e2⟩ := Space.mget_prop (P := fun p => p ∈ S.L) (fun p hp => hp) q hn
    exact ⟨p, hp, by rw [e2]; exact h1, p, hp, rfl, by rw [e1]; exact h2⟩
theorem rt_of {items : List It} {last : Int} (h : Space.ldB items last 0 = true) : Rt ⟨items, last, 0⟩ := by
  have hb := h
  simp only [Space.ldB, Bool.and_eq_true, Bool.not_eq_true', decide_eq_false_iff_not] at hb
  refine ⟨fun p hp => ?_, Int.le_refl _, by have := hb.1.1.1.1; simp only; omega, by have := hb.1.1.1.2; simp only; omega⟩
  obtain ⟨i, hi, rfl⟩ := List.mem_iff_getElem.1 hp
  have h2 := Space.ld_all h hi
  simp only [Space.ldAt, Space.mayB, Bool.and_eq_true, decide_eq_true_eq] at h2
  have e := Av.getD_el (d := default) hi
  rw [e] at h2
  exact ⟨by have := h2.1.1.1.1; omega, h2.1.2, h2.2⟩
theorem up_get {S : Spc} (hri : RiseL S.L) (hR : Rt S) {T : Int} (h1 : S.last < T) (h2 : T ≤ 1152921504606846976) {l : List Ch} (hf : Space.fitB l = true) : ∀ j, j ≤ l.length → ∀ q, (q ∈ (l.take j).map (·.k) → ∃ x : Space.Ver, x.t = T ∧ mget ((l.take j).foldl (upR T S) S.L) q = x :: mget S.L q ∧ chB (x :: mget S.L q) = true) ∧ (q ∉ (l.take j).map (·.k) → mget ((l.take j).foldl (upR T S) S.L) q = mget S.L q)
  | 0, _, q => ⟨fun h => by simp at h, fun _ => rfl⟩
  | j + 1, hj, q => by
    obtain ⟨i1, i2⟩ := up_get hri hR h1 h2 hf j (by omega) q
    have hr := (Space.do_eq T S hri l hf j (by omega)).1
    obtain ⟨a, b⟩ := Space.fit_ok hf (show j < l.length by omega)
    have hm := Space.mget_right (fun p hp => (hR.it p hp).2.1) (l.getD j default).k
    have hx := Space.okV_of (t := T) (by have := hR.mn; have := hR.ml; omega) h2 a b
    have hhd : mget S.L (l.getD j default).k ≠ [] → ((mget S.L (l.getD j default).k).getD 0 default).t < T := fun hn => by have := hR.head _ hn; omega
    have ha := Space.add_right hm hx hhd
    have hch := Space.chB_cons.2 ⟨hx, hm, hhd⟩
    rw [Av.take_snoc default (show j < l.length by omega), List.foldl_append, List.map_append]
    simp only [List.foldl_cons, List.foldl_nil, List.map_cons, List.map_nil]
    rw [upR, Space.setL_get hr, ha]
    by_cases e : (l.getD j default).k = q
    · rw [if_pos e, ← e]
      exact ⟨fun _ => ⟨_, rfl, rfl, hch⟩, fun h => absurd (List.mem_append.2 (.inr (List.mem_singleton.2 rfl))) h⟩
    · rw [if_neg e]
      refine ⟨fun h => i1 ?_, fun h => i2 fun h' => h (List.mem_append.2 (.inl h'))⟩
      rcases List.mem_append.1 h with h | h
      · exact h
      · exact absurd (List.mem_singleton.1 h).symm e
theorem stale_apply {S : Spc} (hri : RiseL S.L) (hR : Rt S) {T t : Int} (h1 : S.last < T) (h2 : T ≤ 1152921504606846976) (ht : t ≤ S.last) {cs : List Ch} (hf : Space.fitB cs = true) {k : List Bs} {l : List Sp} (hc : checkB k l = true) :
    staleB k l (fun a b => sinceS (Space.applyB S T cs).1 a b t) = (staleB k l (fun a b => sinceS S a b t) || hitB k l cs) := by
  have hdo := Space.do_eq T S hri cs hf cs.length (Nat.le_refl _)
  have hup := up_get hri hR h1 h2 hf cs.length (Nat.le_refl _)
  rw [List.take_length] at hdo hup
  have hap : (Space.applyB S T cs).1 = ⟨cs.foldl (upR T S) S.L, T, S.mark⟩ := by
    rw [Space.applyB, if_neg (by omega), if_neg (by rw [hf]; exact Bool.false_ne_true.symm), hdo.2.2]
  rw [hap]
  have hr2 : RiseL (⟨cs.foldl (upR T S) S.L, T, S.mark⟩ : Spc).L := hdo.1
  have hhit : hitB k l cs = true ↔ ∃ q, covQ k l q = true ∧ q ∈ cs.map (·.k) := by
    rw [hitB, hc, Bool.true_and, List.any_eq_true]
    have hth : ∀ q, (there k q || spanned l q) = covQ k l q := fun q => by
      rw [covQ, there_iff (ks_of (check_ok hc).2.2.2).1]
    constructor
    · rintro ⟨c, hcm, h⟩
      exact ⟨c.k, by rw [← hth]; exact h, List.mem_map.2 ⟨c, hcm, rfl⟩⟩
    · rintro ⟨q, h, hq⟩
      obtain ⟨c, hcm, rfl⟩ := List.mem_map.1 hq
      exact ⟨c, hcm, by rw [hth]; exact h⟩
  refine Bool.eq_iff_iff.2 ?_
  rw [Bool.or_eq_true, stale_q hr2 hc, stale_q hri hc, hhit]
  constructor
  · rintro ⟨q, hq, hs⟩
    by_cases hm : q ∈ cs.map (·.k)
    · exact .inr ⟨q, hq, hm⟩
    · simp only at hs
      rw [(hup q).2 hm] at hs
      exact .inl ⟨q, hq, hs⟩
  · rintro (⟨q, hq, hs⟩ | ⟨q, hq, hm⟩)
    · by_cases hm : q ∈ cs.map (·.k)
      · obtain ⟨x, hx, e, hch⟩ := (hup q).1 hm
        refine ⟨q, hq, ?_⟩
        simp only
        rw [e, Space.sinceB, hch, Bool.true_and, decide_eq_true_eq, Space.plc_pos]
        exact ⟨by simp, by rw [List.getD_cons_zero]; omega⟩
      · refine ⟨q, hq, ?_⟩
        simp only
        rw [(hup q).2 hm]; exact hs
    · obtain ⟨x, hx, e, hch⟩ := (hup q).1 hm
      refine ⟨q, hq, ?_⟩
      simp only
      rw [e, Space.sinceB, hch, Bool.true_and, decide_eq_true_eq, Space.plc_pos]
      exact ⟨by simp, by rw [List.getD_cons_zero]; omega⟩
end Go.Proofs.Ytpehfflehebmbaa.Reads
end
section
set_option linter.unusedSimpArgs false
set_option linter.unusedVariables false
set_option maxRecDepth 10000
namespace Go.Proofs.Ytpehfflehebmbaa.Reads
open Go Go.Av Go.Proofs Go.Proofs.Ytpehfflehebmbaa.C Go.Proofs.Ytpehfflehebmbaa.Batch
theorem none_of {F : Fr} {A : List Fr} {j : Nat} (h : lay A j = none) (hF : F ∈ A) : F.o j = none := lay_none.1 h F hF
set_option maxHeartbeats 4000000 in
theorem met_p (k : List Bs) (l : List Sp) (hk0 : ∀ s ∈ k, s.length ≤ 140737488351232) (items : List Space.It) (hil : items.length ≤ 35184372088832) (hiv : ∀ p ∈ items, p.2.length ≤ 4398046510976) (last t : Int) (cs : List Ch) (hcl : cs.length ≤ 35184372088832) :
    PCalls Try.prog 12 [encR k l, .sl 2 (items.map Space.encI) .any, .int .i64 last, .int .i64 t, .sl 3 (chs cs) .any] (.bool true) := by
  refine f12.pcalls0 (by simp) (by simp [allPure, isPure, capPure, encR_pure, chs_pure, Space.its_pure]) rfl ?_
  unfold c12
  have hL := lives_p
  have hfw := few_p k l
  have hck := check_p k l
  unfold encR at hfw hck
  have hin : (items.map Space.encI).length = items.length := by simp
  have d00 : decide ((0 : Int) = 0) = true := rfl
  have d40 : decide ((4 : Int) = 0) = false := rfl
  have d20 : decide ((2 : Int) = 0) = false := rfl
  cases hf : fewB k l with
  | false =>
    rw [hf] at hfw
    repeat (first
      | ((first | apply Wp.seqItemsR | apply Wp.itemsR | ((first
          | (refine WpItems.pcall ?_ ?_ (hfw) ?_; (· simp only [go_sem, reduceIte, Nat.reduceEqDiff, Nat.reduceAdd, bx]); (· simp only [go_sem, reduceIte, Nat.reduceEqDiff, Nat.reduceAdd, bx, List.map]; first | exact VSubs.refl _ | (repeat (first | exact VSubs.nil | refine VSubs.cons (by first | exact VSub.refl _ | assumption | exact VSub.cap | exact VSub.any _) ?_))))
          | (refine WpItems.pcall ?_ ?_ (hL) ?_; (· simp only [go_sem, reduceIte, Nat.reduceEqDiff, Nat.reduceAdd, bx]); (· simp only [go_sem, reduceIte, Nat.reduceEqDiff, Nat.reduceAdd, bx, List.map]; first | exact VSubs.refl _ | (repeat (first | exact VSubs.nil | refine VSubs.cons (by first | exact VSub.refl _ | assumption | exact VSub.cap | exact VSub.any _) ?_))))); apply WpItems.evR)); (· simp only [go_sem, reduceIte, Nat.reduceEqDiff, Nat.reduceAdd, bx, ax, if_true, if_false, Nat.reduceMul, Nat.reduceLeDiff, encR, hin, chs_length]; exact rfl))
      | (refine WpItems.nil ⟨?_, ?_⟩; (· first | trivial | simp [pairsQ, pairsOk, apart, ent0]))
      | (apply Wp.cond_lit; (· simp only [go_sem, reduceIte, Nat.reduceEqDiff, Nat.reduceAdd, bx, ax, if_true, if_false, Nat.reduceMul, Nat.reduceLeDiff, encR, hin, chs_length]; exact rfl); (· rfl))
      | refine Wp.skip ?_
      | refine Wp.label ?_
      | refine Wp.block ?_
      | refine Wp.exit ?_
      | refine Wp.seq ?_)
    refine Wp.ret ⟨trivial, _, rfl, ?_⟩
    simp only [go_sem, reduceIte, Nat.reduceEqDiff, Nat.reduceAdd, bx]
    exact VSub.refl _
  | true =>
  rw [hf] at hfw
  by_cases h1 : 100 < items.length
  · have d1 : decide ((100 : Int) < (items.length : Int)) = true := decide_eq_true (by omega)
    repeat (first
      | ((first | apply Wp.seqItemsR | apply Wp.itemsR | ((first
          | (refine WpItems.pcall ?_ ?_ (hfw) ?_; (· simp only [go_sem, reduceIte, Nat.reduceEqDiff, Nat.reduceAdd, bx]); (· simp only [go_sem, reduceIte, Nat.reduceEqDiff, Nat.reduceAdd, bx, List.map]; first | exact VSubs.refl _ | (repeat (first | exact VSubs.nil | refine VSubs.cons (by first | exact VSub.refl _ | assumption | exact VSub.cap | exact VSub.any _) ?_))))
          | (refine WpItems.pcall ?_ ?_ (hL) ?_; (· simp only [go_sem, reduceIte, Nat.reduceEqDiff, Nat.reduceAdd, bx]); (· simp only [go_sem, reduceIte, Nat.reduceEqDiff, Nat.reduceAdd, bx, List.map]; first | exact VSubs.refl _ | (repeat (first | exact VSubs.nil | refine VSubs.cons (by first | exact VSub.refl _ | assumption | exact VSub.cap | exact VSub.any _) ?_))))); apply WpItems.evR)); (· simp only [go_sem, reduceIte, Nat.reduceEqDiff, Nat.reduceAdd, bx, ax, if_true, if_false, Nat.reduceMul, Nat.reduceLeDiff, encR, hin, chs_length, d1]; exact rfl))
      | (refine WpItems.nil ⟨?_, ?_⟩; (· first | trivial | simp [pairsQ, pairsOk, apart, ent0]))
      | (apply Wp.cond_lit; (· simp only [go_sem, reduceIte, Nat.reduceEqDiff, Nat.reduceAdd, bx, ax, if_true, if_false, Nat.reduceMul, Nat.reduceLeDiff, encR, hin, chs_length, d1]; exact rfl); (· rfl))
      | refine Wp.skip ?_
      | refine Wp.label ?_
      | refine Wp.block ?_
      | refine Wp.exit ?_
      | refine Wp.seq ?_)
    refine Wp.ret ⟨trivial, _, rfl, ?_⟩
    simp only [go_sem, reduceIte, Nat.reduceEqDiff, Nat.reduceAdd, bx]
    exact VSub.refl _
  have d1 : decide ((100 : Int) < (items.length : Int)) = false := decide_eq_false (by omega)
  by_cases h2 : 100 < cs.length
  · have d2 : decide ((100 : Int) < (cs.length : Int)) = true := decide_eq_true (by omega)
    repeat (first
      | ((first | apply Wp.seqItemsR | apply Wp.itemsR | ((first
          | (refine WpItems.pcall ?_ ?_ (hfw) ?_; (· simp only [go_sem, reduceIte, Nat.reduceEqDiff, Nat.reduceAdd, bx]); (· simp only [go_sem, reduceIte, Nat.reduceEqDiff, Nat.reduceAdd, bx, List.map]; first | exact VSubs.refl _ | (repeat (first | exact VSubs.nil | refine VSubs.cons (by first | exact VSub.refl _ | assumption | exact VSub.cap | exact VSub.any _) ?_))))
          | (refine WpItems.pcall ?_ ?_ (hL) ?_; (· simp only [go_sem, reduceIte, Nat.reduceEqDiff, Nat.reduceAdd, bx]); (· simp only [go_sem, reduceIte, Nat.reduceEqDiff, Nat.reduceAdd, bx, List.map]; first | exact VSubs.refl _ | (repeat (first | exact VSubs.nil | refine VSubs.cons (by first | exact VSub.refl _ | assumption | exact VSub.cap | exact VSub.any _) ?_))))); apply WpItems.evR)); (· simp only [go_sem, reduceIte, Nat.reduceEqDiff, Nat.reduceAdd, bx, ax, if_true, if_false, Nat.reduceMul, Nat.reduceLeDiff, encR, hin, chs_length, d1, d2]; exact rfl))
      | (refine WpItems.nil ⟨?_, ?_⟩; (· first | trivial | simp [pairsQ, pairsOk, apart, ent0]))
      | (apply Wp.cond_lit; (· simp only [go_sem, reduceIte, Nat.reduceEqDiff, Nat.reduceAdd, bx, ax, if_true, if_false, Nat.reduceMul, Nat.reduceLeDiff, encR, hin, chs_length, d1, d2]; exact rfl); (· rfl))
      | refine Wp.skip ?_
      | refine Wp.label ?_
      | refine Wp.block ?_
      | refine Wp.exit ?_
      | refine Wp.seq ?_)
    refine Wp.ret ⟨trivial, _, rfl, ?_⟩
    simp only [go_sem, reduceIte, Nat.reduceEqDiff, Nat.reduceAdd, bx]
    exact VSub.refl _
  have d2 : decide ((100 : Int) < (cs.length : Int)) = false := decide_eq_false (by omega)
  cases hc : checkB k l with
  | false =>
    rw [hc] at hck
    simp only [Bool.false_eq_true, if_false] at hck
    repeat (first
      | ((first | apply Wp.seqItemsR | apply Wp.itemsR | ((first
          | (refine WpItems.pcall ?_ ?_ (hfw) ?_; (· simp only [go_sem, reduceIte, Nat.reduceEqDiff, Nat.reduceAdd, bx]); (· simp only [go_sem, reduceIte, Nat.reduceEqDiff, Nat.reduceAdd, bx, List.map]; first | exact VSubs.refl _ | (repeat (first | exact VSubs.nil | refine VSubs.cons (by first | exact VSub.refl _ | assumption | exact VSub.cap | exact VSub.any _) ?_))))
          | (refine WpItems.pcall ?_ ?_ (hck) ?_; (· simp only [go_sem, reduceIte, Nat.reduceEqDiff, Nat.reduceAdd, bx]); (· simp only [go_sem, reduceIte, Nat.reduceEqDiff, Nat.reduceAdd, bx, List.map]; first | exact VSubs.refl _ | (repeat (first | exact VSubs.nil | refine VSubs.cons (by first | exact VSub.refl _ | assumption | exact VSub.cap | exact VSub.any _) ?_))))
          | (refine WpItems.pcall ?_ ?_ (hL) ?_; (· simp only [go_sem, reduceIte, Nat.reduceEqDiff, Nat.reduceAdd, bx]); (· simp only [go_sem, reduceIte, Nat.reduceEqDiff, Nat.reduceAdd, bx, List.map]; first | exact VSubs.refl _ | (repeat (first | exact VSubs.nil | refine VSubs.cons (by first | exact VSub.refl _ | assumption | exact VSub.cap | exact VSub.any _) ?_))))); apply WpItems.evR)); (· simp only [go_sem, reduceIte, Nat.reduceEqDiff, Nat.reduceAdd, bx, ax, if_true, if_false, Nat.reduceMul, Nat.reduceLeDiff, encR, hin, chs_length, d1, d2, d40]; exact rfl))
      | (refine WpItems.nil ⟨?_, ?_⟩; (· first | trivial | simp [pairsQ, pairsOk, apart, ent0]))
      | (apply Wp.cond_lit; (· simp only [go_sem, reduceIte, Nat.reduceEqDiff, Nat.reduceAdd, bx, ax, if_true, if_false, Nat.reduceMul, Nat.reduceLeDiff, encR, hin, chs_length, d1, d2, d40]; exact rfl); (· rfl))
      | refine Wp.skip ?_
      | refine Wp.label ?_
      | refine Wp.block ?_
      | refine Wp.exit ?_
      | refine Wp.seq ?_)
    refine Wp.ret ⟨trivial, _, rfl, ?_⟩
    simp only [go_sem, reduceIte, Nat.reduceEqDiff, Nat.reduceAdd, bx]
    exact VSub.refl _
  | true =>
  rw [hc] at hck
  simp only [if_true] at hck
  by_cases h3 : 1000000 < last
  · have d3 := decide_eq_true h3
    repeat (first
      | ((first | apply Wp.seqItemsR | apply Wp.itemsR | ((first
          | (refine WpItems.pcall ?_ ?_ (hfw) ?_; (· simp only [go_sem, reduceIte, Nat.reduceEqDiff, Nat.reduceAdd, bx]); (· simp only [go_sem, reduceIte, Nat.reduceEqDiff, Nat.reduceAdd, bx, List.map]; first | exact VSubs.refl _ | (repeat (first | exact VSubs.nil | refine VSubs.cons (by first | exact VSub.refl _ | assumption | exact VSub.cap | exact VSub.any _) ?_))))
          | (refine WpItems.pcall ?_ ?_ (hck) ?_; (· simp only [go_sem, reduceIte, Nat.reduceEqDiff, Nat.reduceAdd, bx]); (· simp only [go_sem, reduceIte, Nat.reduceEqDiff, Nat.reduceAdd, bx, List.map]; first | exact VSubs.refl _ | (repeat (first | exact VSubs.nil | refine VSubs.cons (by first | exact VSub.refl _ | assumption | exact VSub.cap | exact VSub.any _) ?_))))
          | (refine WpItems.pcall ?_ ?_ (hL) ?_; (· simp only [go_sem, reduceIte, Nat.reduceEqDiff, Nat.reduceAdd, bx]); (· simp only [go_sem, reduceIte, Nat.reduceEqDiff, Nat.reduceAdd, bx, List.map]; first | exact VSubs.refl _ | (repeat (first | exact VSubs.nil | refine VSubs.cons (by first | exact VSub.refl _ | assumption | exact VSub.cap | exact VSub.any _) ?_))))); apply WpItems.evR)); (· simp only [go_sem, reduceIte, Nat.reduceEqDiff, Nat.reduceAdd, bx, ax, if_true, if_false, Nat.reduceMul, Nat.reduceLeDiff, encR, hin, chs_length, d1, d2, d00, d3]; exact rfl))
      | (refine WpItems.nil ⟨?_, ?_⟩; (· first | trivial | simp [pairsQ, pairsOk, apart, ent0]))
      | (apply Wp.cond_lit; (· simp only [go_sem, reduceIte, Nat.reduceEqDiff, Nat.reduceAdd, bx, ax, if_true, if_false, Nat.reduceMul, Nat.reduceLeDiff, encR, hin, chs_length, d1, d2, d00, d3]; exact rfl); (· rfl))
      | refine Wp.skip ?_
      | refine Wp.label ?_
      | refine Wp.block ?_
      | refine Wp.exit ?_
      | refine Wp.seq ?_)
    refine Wp.ret ⟨trivial, _, rfl, ?_⟩
    simp only [go_sem, reduceIte, Nat.reduceEqDiff, Nat.reduceAdd, bx]
    exact VSub.refl _
  have d3 := decide_eq_false h3
  have hiv2 : ∀ p ∈ items, p.2.length ≤ 4398046511104 := fun p hp => by have := hiv p hp; omega
  have hlg := Space.load_g items (by omega) hiv2 last 0
  have hlr := Space.loadR_p items (by omega) hiv2 last 0
  cases hld : Space.ldB items last 0 with
  | false =>
    simp only [hld, Bool.false_eq_true, if_false, Space.encS] at hlr
    repeat (first
      | ((first | apply Wp.seqItemsR | apply Wp.itemsR | ((first
          | (refine WpItems.pcall ?_ ?_ (hfw) ?_; (· simp only [go_sem, reduceIte, Nat.reduceEqDiff, Nat.reduceAdd, bx]); (· simp only [go_sem, reduceIte, Nat.reduceEqDiff, Nat.reduceAdd, bx, List.map]; first | exact VSubs.refl _ | (repeat (first | exact VSubs.nil | refine VSubs.cons (by first | exact VSub.refl _ | assumption | exact VSub.cap | exact VSub.any _) ?_))))
          | (refine WpItems.pcall ?_ ?_ (hck) ?_; (· simp only [go_sem, reduceIte, Nat.reduceEqDiff, Nat.reduceAdd, bx]); (· simp only [go_sem, reduceIte, Nat.reduceEqDiff, Nat.reduceAdd, bx, List.map]; first | exact VSubs.refl _ | (repeat (first | exact VSubs.nil | refine VSubs.cons (by first | exact VSub.refl _ | assumption | exact VSub.cap | exact VSub.any _) ?_))))
          | (refine WpItems.pcall ?_ ?_ (hlr) ?_; (· simp only [go_sem, reduceIte, Nat.reduceEqDiff, Nat.reduceAdd, bx]); (· simp only [go_sem, reduceIte, Nat.reduceEqDiff, Nat.reduceAdd, bx, List.map]; first | exact VSubs.refl _ | (repeat (first | exact VSubs.nil | refine VSubs.cons (by first | exact VSub.refl _ | assumption | exact VSub.cap | exact VSub.any _) ?_))))
          | (refine WpItems.pcall ?_ ?_ (hL) ?_; (· simp only [go_sem, reduceIte, Nat.reduceEqDiff, Nat.reduceAdd, bx]); (· simp only [go_sem, reduceIte, Nat.reduceEqDiff, Nat.reduceAdd, bx, List.map]; first | exact VSubs.refl _ | (repeat (first | exact VSubs.nil | refine VSubs.cons (by first | exact VSub.refl _ | assumption | exact VSub.cap | exact VSub.any _) ?_))))); apply WpItems.evR)); (· simp only [go_sem, reduceIte, Nat.reduceEqDiff, Nat.reduceAdd, bx, ax, if_true, if_false, Nat.reduceMul, Nat.reduceLeDiff, encR, hin, chs_length, d1, d2, d00, d40, d3]; exact rfl))
      | (refine WpItems.nil ⟨?_, ?_⟩; (· first | trivial | simp [pairsQ, pairsOk, apart, ent0]))
      | (apply Wp.cond_lit; (· simp only [go_sem, reduceIte, Nat.reduceEqDiff, Nat.reduceAdd, bx, ax, if_true, if_false, Nat.reduceMul, Nat.reduceLeDiff, encR, hin, chs_length, d1, d2, d00, d40, d3]; exact rfl); (· rfl))
      | refine Wp.skip ?_
      | refine Wp.label ?_
      | refine Wp.block ?_
      | refine Wp.exit ?_
      | refine Wp.seq ?_)
    refine Wp.ret ⟨trivial, _, rfl, ?_⟩
    simp only [go_sem, reduceIte, Nat.reduceEqDiff, Nat.reduceAdd, bx]
    exact VSub.refl _
  | true =>
  simp only [hld, if_true] at hlg hlr
  unfold Space.encS at hlr
  by_cases h4 : last < t
  · have d4 := decide_eq_true h4
    repeat (first
      | ((first | apply Wp.seqItemsR | apply Wp.itemsR | ((first
          | (refine WpItems.pcall ?_ ?_ (hfw) ?_; (· simp only [go_sem, reduceIte, Nat.reduceEqDiff, Nat.reduceAdd, bx]); (· simp only [go_sem, reduceIte, Nat.reduceEqDiff, Nat.reduceAdd, bx, List.map]; first | exact VSubs.refl _ | (repeat (first | exact VSubs.nil | refine VSubs.cons (by first | exact VSub.refl _ | assumption | exact VSub.cap | exact VSub.any _) ?_))))
          | (refine WpItems.pcall ?_ ?_ (hck) ?_; (· simp only [go_sem, reduceIte, Nat.reduceEqDiff, Nat.reduceAdd, bx]); (· simp only [go_sem, reduceIte, Nat.reduceEqDiff, Nat.reduceAdd, bx, List.map]; first | exact VSubs.refl _ | (repeat (first | exact VSubs.nil | refine VSubs.cons (by first | exact VSub.refl _ | assumption | exact VSub.cap | exact VSub.any _) ?_))))
          | (refine WpItems.pcall ?_ ?_ (hlr) ?_; (· simp only [go_sem, reduceIte, Nat.reduceEqDiff, Nat.reduceAdd, bx]); (· simp only [go_sem, reduceIte, Nat.reduceEqDiff, Nat.reduceAdd, bx, List.map]; first | exact VSubs.refl _ | (repeat (first | exact VSubs.nil | refine VSubs.cons (by first | exact VSub.refl _ | assumption | exact VSub.cap | exact VSub.any _) ?_))))
          | (refine WpItems.pcall ?_ ?_ (hL) ?_; (· simp only [go_sem, reduceIte, Nat.reduceEqDiff, Nat.reduceAdd, bx]); (· simp only [go_sem, reduceIte, Nat.reduceEqDiff, Nat.reduceAdd, bx, List.map]; first | exact VSubs.refl _ | (repeat (first | exact VSubs.nil | refine VSubs.cons (by first | exact VSub.refl _ | assumption | exact VSub.cap | exact VSub.any _) ?_))))); apply WpItems.evR)); (· simp only [go_sem, reduceIte, Nat.reduceEqDiff, Nat.reduceAdd, bx, ax, if_true, if_false, Nat.reduceMul, Nat.reduceLeDiff, encR, hin, chs_length, d1, d2, d00, d40, d3, d4]; exact rfl))
      | (refine WpItems.nil ⟨?_, ?_⟩; (· first | trivial | simp [pairsQ, pairsOk, apart, ent0]))
      | (apply Wp.cond_lit; (· simp only [go_sem, reduceIte, Nat.reduceEqDiff, Nat.reduceAdd, bx, ax, if_true, if_false, Nat.reduceMul, Nat.reduceLeDiff, encR, hin, chs_length, d1, d2, d00, d40, d3, d4]; exact rfl); (· rfl))
      | refine Wp.skip ?_
      | refine Wp.label ?_
      | refine Wp.block ?_
      | refine Wp.exit ?_
      | refine Wp.seq ?_)
    refine Wp.ret ⟨trivial, _, rfl, ?_⟩
    simp only [go_sem, reduceIte, Nat.reduceEqDiff, Nat.reduceAdd, bx]
    exact VSub.refl _
  have d4 := decide_eq_false h4
  obtain ⟨hri, hfu⟩ := Space.ld_rise hld
  have hR := rt_of hld
  have hmn := hR.ml
  simp only at hmn
  rw [Space.layL_self hri hfu] at hlg
  have hW : Space.Wide ⟨items, last, 0⟩ := ⟨by simp only; omega, fun q => Space.mget_len (k := 4398046511104) hiv2 q⟩
  have hRm : Space.Room ⟨items, last, 0⟩ (cs.length + 0) := ⟨by simp only; omega, fun q => by have := Space.mget_len (k := 4398046510976) hiv q; simp only; omega⟩
  have w1 : IntKind.i64.wrap (last + 1) = last + 1 := IntWalk.i64_in _ (by omega)
  repeat (first
    | ((first | apply Wp.seqItemsR | apply Wp.itemsR | ((first
        | (refine WpItems.pcall ?_ ?_ (hfw) ?_; (· simp only [go_sem, reduceIte, Nat.reduceEqDiff, Nat.reduceAdd, bx]); (· simp only [go_sem, reduceIte, Nat.reduceEqDiff, Nat.reduceAdd, bx, List.map]; first | exact VSubs.refl _ | (repeat (first | exact VSubs.nil | refine VSubs.cons (by first | exact VSub.refl _ | assumption | exact VSub.cap | exact VSub.any _) ?_))))
        | (refine WpItems.pcall ?_ ?_ (hck) ?_; (· simp only [go_sem, reduceIte, Nat.reduceEqDiff, Nat.reduceAdd, bx]); (· simp only [go_sem, reduceIte, Nat.reduceEqDiff, Nat.reduceAdd, bx, List.map]; first | exact VSubs.refl _ | (repeat (first | exact VSubs.nil | refine VSubs.cons (by first | exact VSub.refl _ | assumption | exact VSub.cap | exact VSub.any _) ?_))))
        | (refine WpItems.pcall ?_ ?_ (hlr) ?_; (· simp only [go_sem, reduceIte, Nat.reduceEqDiff, Nat.reduceAdd, bx]); (· simp only [go_sem, reduceIte, Nat.reduceEqDiff, Nat.reduceAdd, bx, List.map]; first | exact VSubs.refl _ | (repeat (first | exact VSubs.nil | refine VSubs.cons (by first | exact VSub.refl _ | assumption | exact VSub.cap | exact VSub.any _) ?_))))); apply WpItems.evR)); (· simp only [go_sem, reduceIte, Nat.reduceEqDiff, Nat.reduceAdd, bx, ax, if_true, if_false, Nat.reduceMul, Nat.reduceLeDiff, encR, hin, chs_length, d1, d2, d00, d40, d3, d4]; exact rfl))
    | (refine WpItems.nil ⟨?_, ?_⟩; (· first | trivial | simp [pairsQ, pairsOk, apart, ent0]))
    | (apply Wp.cond_lit; (· simp only [go_sem, reduceIte, Nat.reduceEqDiff, Nat.reduceAdd, bx, ax, if_true, if_false, Nat.reduceMul, Nat.reduceLeDiff, encR, hin, chs_length, d1, d2, d00, d40, d3, d4]; exact rfl); (· rfl))
    | refine Wp.skip ?_
    | refine Wp.label ?_
    | refine Wp.block ?_
    | refine Wp.exit ?_
    | refine Wp.seq ?_)
  have e : (upd (upd (upd none' 0 (some (Av.Obj.cells [.sl 1 (strs k) .any, .sl 2 (sps l) .any]))) 1 (some (.cells [.sl 2 [] (.exact 0), .int .i64 0, .int .i64 0]))) 1 (some (.cells [.sl 2 (items.map Space.encI) .any, .int .i64 last, .int .i64 0])) : Objs) = lay [ob 1 (.cells [.sl 2 (items.map Space.encI) .any, .int .i64 last, .int .i64 0]), ob 0 (.cells [.sl 1 (strs k) .any, .sl 2 (sps l) .any])] := by
    rw [show (none' : Objs) = lay [] from rfl, upd_new, upd_new, upd_ob]
  rw [e]
  have ok0 : Ok [ob 1 (.cells [.sl 2 (items.map Space.encI) .any, .int .i64 last, .int .i64 0]), ob 0 (.cells [.sl 1 (strs k) .any, .sl 2 (sps l) .any])] 2 [] 0 := Ok.more (Ok.more Ok.nil _) _
  refine WpItems.gcallI [_, _] [] [] (by simp only [go_sem, bx]) (by simp only [go_sem, reduceIte, Nat.reduceEqDiff, List.map]; exact VSubs.refl _) hlg ok0 fun r G2 n2 T2 m2 ids2 hq2' on2 hids2 => ?_
  obtain ⟨s, F, rfl, rfl, hSF⟩ := hq2'
  simp only [List.cons_append, List.nil_append, List.append_nil] at on2 ⊢
  have g0 : ∀ o L, lay (ob 1 o :: ob 0 (.cells [.sl 1 (strs k) .any, .sl 2 (sps l) .any]) :: L) 0 = some (.cells [.sl 1 (strs k) .any, .sl 2 (sps l) .any]) := fun o L => by
    rw [lay_ob_ne _ _ (by omega), lay_ob_at]
  have isS : ∀ {S : Space.Spc} {F : Fr}, Space.SpcF s S F → (F.o s).isSome = true := fun h => by
    obtain ⟨c0, M0, K0, hM0, hsc0, hs0, hc0, hK0⟩ := h.go
    rw [hs0]; rfl
  have hlk : ∀ q ∈ k, q.length ≤ 4611686018427387904 := fun q hq => by have := hk0 q hq; omega
  have hst := stale_g (t := t) (.inr ⟨s, rfl, isS hSF⟩) hSF.k (fun a b => Space.since_g hSF hri hW a b t) k l hlk
  have hap := Space.apply_g hSF hri (last + 1) cs (by omega) hRm
  unfold encR at hst
  refine WpItems.evR (by simp only [go_sem, reduceIte, Nat.reduceEqDiff, Nat.reduceAdd, bx]; exact rfl) ?_
  repeat (first
    | ((first | apply Wp.seqItemsR | apply Wp.itemsR); (· simp only [go_sem, reduceIte, Nat.reduceEqDiff, Nat.reduceAdd, bx, ax, if_true, if_false, Nat.reduceMul, Nat.reduceLeDiff, d00, g0]; exact rfl))
    | (refine WpItems.nil ⟨?_, ?_⟩; (· first | trivial | simp [pairsQ, pairsOk, apart, ent0]))
    | (apply Wp.cond_lit; (· simp only [go_sem, reduceIte, Nat.reduceEqDiff, Nat.reduceAdd, bx, ax, if_true, if_false, Nat.reduceMul, Nat.reduceLeDiff, d00, g0]; exact rfl); (· rfl))
    | refine Wp.skip ?_
    | refine Wp.label ?_
    | refine Wp.block ?_
    | refine Wp.exit ?_
    | refine Wp.seq ?_)
  refine WpItems.gkeepI ([_, _]) ([]) (by simp only [go_sem, reduceIte, Nat.reduceEqDiff, Nat.reduceAdd, bx]) (by simp only [go_sem, reduceIte, Nat.reduceEqDiff, Nat.reduceAdd, bx, List.map]; first | exact VSubs.refl _ | (repeat (first | exact VSubs.nil | refine VSubs.cons (by first | exact VSub.refl _ | assumption | exact VSub.cap | exact VSub.any _) ?_))) (hst) (hSF.k) (on2.ok) fun n3 m3 ids3 hn3 hm3 hids3 ok3 => ?_
  simp only [List.cons_append, List.nil_append] at ok3 ⊢
  refine WpItems.evR (by simp only [go_sem, reduceIte, Nat.reduceEqDiff, Nat.reduceAdd, bx]; exact rfl) ?_
  repeat (first
    | ((first | apply Wp.seqItemsR | apply Wp.itemsR); (· simp only [go_sem, reduceIte, Nat.reduceEqDiff, Nat.reduceAdd, bx, ax, if_true, if_false, Nat.reduceMul, Nat.reduceLeDiff, w1]; exact rfl))
    | (refine WpItems.nil ⟨?_, ?_⟩; (· first | trivial | simp [pairsQ, pairsOk, apart, ent0]))
    | (apply Wp.cond_lit; (· simp only [go_sem, reduceIte, Nat.reduceEqDiff, Nat.reduceAdd, bx, ax, if_true, if_false, Nat.reduceMul, Nat.reduceLeDiff, w1]; exact rfl); (· rfl))
    | refine Wp.skip ?_
    | refine Wp.label ?_
    | refine Wp.block ?_
    | refine Wp.exit ?_
    | refine Wp.seq ?_)
  refine WpItems.gcallI [_, _] [F] [] (by simp only [go_sem, bx]) (by simp only [go_sem, reduceIte, Nat.reduceEqDiff, List.map]; exact VSubs.refl _) hap ok3 fun r G4 n4 T4 m4 ids4 hq4' on4 hids4 => ?_
  obtain ⟨rfl, F4, rfl, hF4⟩ := hq4'
  simp only [List.cons_append, List.nil_append, List.append_nil] at on4 ⊢
  cases hft : Space.fitB cs with
  | false =>
    have ha : Space.applyB ⟨items, last, 0⟩ (last + 1) cs = (⟨items, last, 0⟩, 2) := by
      rw [Space.applyB, if_neg (by simp only; omega), if_pos hft]
    rw [ha] at hF4 ⊢
    have hst4 := stale_g (t := t) (.inr ⟨s, rfl, isS hF4⟩) hF4.k (fun a b => Space.since_g hF4 hri hW a b t) k l hlk
    unfold encR at hst4
    generalize staleB k l (fun a b => Space.sinceS ⟨items, last, 0⟩ a b t) = bs at *
    refine WpItems.evR (by simp only [go_sem, reduceIte, Nat.reduceEqDiff, Nat.reduceAdd, bx, d20]; exact rfl) ?_
    repeat (first
      | ((first | apply Wp.seqItemsR | apply Wp.itemsR); (· simp only [go_sem, reduceIte, Nat.reduceEqDiff, Nat.reduceAdd, bx, ax, if_true, if_false, Nat.reduceMul, Nat.reduceLeDiff, d20, g0]; exact rfl))
      | (refine WpItems.nil ⟨?_, ?_⟩; (· first | trivial | simp [pairsQ, pairsOk, apart, ent0]))
      | (apply Wp.cond_lit; (· simp only [go_sem, reduceIte, Nat.reduceEqDiff, Nat.reduceAdd, bx, ax, if_true, if_false, Nat.reduceMul, Nat.reduceLeDiff, d20, g0]; exact rfl); (· rfl))
      | refine Wp.skip ?_
      | refine Wp.label ?_
      | refine Wp.block ?_
      | refine Wp.exit ?_
      | refine Wp.seq ?_)
    refine WpItems.gkeepI ([_, _]) ([]) (by simp only [go_sem, reduceIte, Nat.reduceEqDiff, Nat.reduceAdd, bx]) (by simp only [go_sem, reduceIte, Nat.reduceEqDiff, Nat.reduceAdd, bx, List.map]; first | exact VSubs.refl _ | (repeat (first | exact VSubs.nil | refine VSubs.cons (by first | exact VSub.refl _ | assumption | exact VSub.cap | exact VSub.any _) ?_))) (hst4) (hF4.k) (on4.ok) fun n5 m5 ids5 hn5 hm5 hids5 ok5 => ?_
    simp only [List.cons_append, List.nil_append] at ok5 ⊢
    refine WpItems.evR (by simp only [go_sem, reduceIte, Nat.reduceEqDiff, Nat.reduceAdd, bx, eqB, beq_self_eq_true]; exact rfl) ?_
    repeat (first
      | ((first | apply Wp.seqItemsR | apply Wp.itemsR | ((first
          | (refine WpItems.pcall ?_ ?_ (hL) ?_; (· simp only [go_sem, reduceIte, Nat.reduceEqDiff, Nat.reduceAdd, bx]); (· simp only [go_sem, reduceIte, Nat.reduceEqDiff, Nat.reduceAdd, bx, List.map]; first | exact VSubs.refl _ | (repeat (first | exact VSubs.nil | refine VSubs.cons (by first | exact VSub.refl _ | assumption | exact VSub.cap | exact VSub.any _) ?_))))); apply WpItems.evR)); (· simp only [go_sem, reduceIte, Nat.reduceEqDiff, Nat.reduceAdd, bx, ax, if_true, if_false, Nat.reduceMul, Nat.reduceLeDiff, d20, g0, eqB, beq_self_eq_true]; exact rfl))
      | (refine WpItems.nil ⟨?_, ?_⟩; (· first | trivial | simp [pairsQ, pairsOk, apart, ent0]))
      | (apply Wp.cond_lit; (· simp only [go_sem, reduceIte, Nat.reduceEqDiff, Nat.reduceAdd, bx, ax, if_true, if_false, Nat.reduceMul, Nat.reduceLeDiff, d20, g0, eqB, beq_self_eq_true]; exact rfl); (· rfl))
      | refine Wp.skip ?_
      | refine Wp.label ?_
      | refine Wp.block ?_
      | refine Wp.exit ?_
      | refine Wp.seq ?_)
    refine Wp.ret ⟨trivial, _, rfl, ?_⟩
    simp only [go_sem, reduceIte, Nat.reduceEqDiff, Nat.reduceAdd, bx]
    exact VSub.refl _
  | true =>
    have ha : Space.applyB ⟨items, last, 0⟩ (last + 1) cs = ((Space.applyB ⟨items, last, 0⟩ (last + 1) cs).1, 0) := by
      rw [Space.applyB, if_neg (by simp only; omega), if_neg (by rw [hft]; exact Bool.false_ne_true.symm)]
    have ha2 : (Space.applyB ⟨items, last, 0⟩ (last + 1) cs).1 = { Space.doS (last + 1) ⟨items, last, 0⟩ cs with last := last + 1 } := by
      rw [Space.applyB, if_neg (by simp only; omega), if_neg (by rw [hft]; exact Bool.false_ne_true.symm)]
    have hlaw := stale_apply (S := ⟨items, last, 0⟩) (T := last + 1) (t := t) hri hR (by simp only; omega) (by omega) (by simp only; omega) hft hc
    obtain ⟨hdr, hdm⟩ := Space.do_ok (last + 1) cs ⟨items, last, 0⟩ 0 hri hRm
    have hr4 : Space.RiseL (Space.applyB ⟨items, last, 0⟩ (last + 1) cs).1.L := by rw [ha2]; exact hdr
    have hW4 : Space.Wide (Space.applyB ⟨items, last, 0⟩ (last + 1) cs).1 := by
      rw [ha2]; exact ⟨by have := hdm.1; simp only; omega, fun q => by have := hdm.2 q; simp only; omega⟩
    have hst4 := stale_g (t := t) (.inr ⟨s, rfl, isS hF4⟩) hF4.k (fun a b => Space.since_g hF4 hr4 hW4 a b t) k l hlk
    rw [hlaw] at hst4
    have hhit := Hit_p k l cs (by omega)
    unfold encR at hst4 hhit
    rw [ha]
    simp only
    generalize staleB k l (fun a b => Space.sinceS ⟨items, last, 0⟩ a b t) = bs at *
    generalize hitB k l cs = bh at *
    refine WpItems.evR (by simp only [go_sem, reduceIte, Nat.reduceEqDiff, Nat.reduceAdd, bx, d00]; exact rfl) ?_
    repeat (first
      | ((first | apply Wp.seqItemsR | apply Wp.itemsR); (· simp only [go_sem, reduceIte, Nat.reduceEqDiff, Nat.reduceAdd, bx, ax, if_true, if_false, Nat.reduceMul, Nat.reduceLeDiff, d00, g0]; exact rfl))
      | (refine WpItems.nil ⟨?_, ?_⟩; (· first | trivial | simp [pairsQ, pairsOk, apart, ent0]))
      | (apply Wp.cond_lit; (· simp only [go_sem, reduceIte, Nat.reduceEqDiff, Nat.reduceAdd, bx, ax, if_true, if_false, Nat.reduceMul, Nat.reduceLeDiff, d00, g0]; exact rfl); (· rfl))
      | refine Wp.skip ?_
      | refine Wp.label ?_
      | refine Wp.block ?_
      | refine Wp.exit ?_
      | refine Wp.seq ?_)
    refine WpItems.gkeepI ([_, _]) ([]) (by simp only [go_sem, reduceIte, Nat.reduceEqDiff, Nat.reduceAdd, bx]) (by simp only [go_sem, reduceIte, Nat.reduceEqDiff, Nat.reduceAdd, bx, List.map]; first | exact VSubs.refl _ | (repeat (first | exact VSubs.nil | refine VSubs.cons (by first | exact VSub.refl _ | assumption | exact VSub.cap | exact VSub.any _) ?_))) (hst4) (hF4.k) (on4.ok) fun n5 m5 ids5 hn5 hm5 hids5 ok5 => ?_
    simp only [List.cons_append, List.nil_append] at ok5 ⊢
    cases bs with
    | true =>
      refine WpItems.evR (by simp only [go_sem, reduceIte, Nat.reduceEqDiff, Nat.reduceAdd, bx, Bool.true_or]; exact rfl) ?_
      repeat (first
        | ((first | apply Wp.seqItemsR | apply Wp.itemsR | ((first
            | (refine WpItems.pcall ?_ ?_ (hL) ?_; (· simp only [go_sem, reduceIte, Nat.reduceEqDiff, Nat.reduceAdd, bx]); (· simp only [go_sem, reduceIte, Nat.reduceEqDiff, Nat.reduceAdd, bx, List.map]; first | exact VSubs.refl _ | (repeat (first | exact VSubs.nil | refine VSubs.cons (by first | exact VSub.refl _ | assumption | exact VSub.cap | exact VSub.any _) ?_))))); apply WpItems.evR)); (· simp only [go_sem, reduceIte, Nat.reduceEqDiff, Nat.reduceAdd, bx, ax, if_true, if_false, Nat.reduceMul, Nat.reduceLeDiff, d00, g0, eqB, beq_self_eq_true, Bool.true_or]; exact rfl))
        | (refine WpItems.nil ⟨?_, ?_⟩; (· first | trivial | simp [pairsQ, pairsOk, apart, ent0]))
        | (apply Wp.cond_lit; (· simp only [go_sem, reduceIte, Nat.reduceEqDiff, Nat.reduceAdd, bx, ax, if_true, if_false, Nat.reduceMul, Nat.reduceLeDiff, d00, g0, eqB, beq_self_eq_true, Bool.true_or]; exact rfl); (· rfl))
        | refine Wp.skip ?_
        | refine Wp.label ?_
        | refine Wp.block ?_
        | refine Wp.exit ?_
        | refine Wp.seq ?_)
      refine Wp.ret ⟨trivial, _, rfl, ?_⟩
      simp only [go_sem, reduceIte, Nat.reduceEqDiff, Nat.reduceAdd, bx]
      exact VSub.refl _
    | false =>
      refine WpItems.evR (by simp only [go_sem, reduceIte, Nat.reduceEqDiff, Nat.reduceAdd, bx, Bool.false_or]; exact rfl) ?_
      repeat (first
        | ((first | apply Wp.seqItemsR | apply Wp.itemsR | ((first
            | (refine WpItems.pcall ?_ ?_ (hhit) ?_; (· simp only [go_sem, reduceIte, Nat.reduceEqDiff, Nat.reduceAdd, bx]); (· simp only [go_sem, reduceIte, Nat.reduceEqDiff, Nat.reduceAdd, bx, List.map]; first | exact VSubs.refl _ | (repeat (first | exact VSubs.nil | refine VSubs.cons (by first | exact VSub.refl _ | assumption | exact VSub.cap | exact VSub.any _) ?_))))
            | (refine WpItems.pcall ?_ ?_ (hL) ?_; (· simp only [go_sem, reduceIte, Nat.reduceEqDiff, Nat.reduceAdd, bx]); (· simp only [go_sem, reduceIte, Nat.reduceEqDiff, Nat.reduceAdd, bx, List.map]; first | exact VSubs.refl _ | (repeat (first | exact VSubs.nil | refine VSubs.cons (by first | exact VSub.refl _ | assumption | exact VSub.cap | exact VSub.any _) ?_))))); apply WpItems.evR)); (· simp only [go_sem, reduceIte, Nat.reduceEqDiff, Nat.reduceAdd, bx, ax, if_true, if_false, Nat.reduceMul, Nat.reduceLeDiff, d00, g0, eqB, beq_self_eq_true, Bool.false_or]; exact rfl))
        | (refine WpItems.nil ⟨?_, ?_⟩; (· first | trivial | simp [pairsQ, pairsOk, apart, ent0]))
        | (apply Wp.cond_lit; (· simp only [go_sem, reduceIte, Nat.reduceEqDiff, Nat.reduceAdd, bx, ax, if_true, if_false, Nat.reduceMul, Nat.reduceLeDiff, d00, g0, eqB, beq_self_eq_true, Bool.false_or]; exact rfl); (· rfl))
        | refine Wp.skip ?_
        | refine Wp.label ?_
        | refine Wp.block ?_
        | refine Wp.exit ?_
        | refine Wp.seq ?_)
      refine Wp.ret ⟨trivial, _, rfl, ?_⟩
      simp only [go_sem, reduceIte, Nat.reduceEqDiff, Nat.reduceAdd, bx]
      exact VSub.refl _
theorem law_ReadsMet {b : Nat} (avs : List AV) (h : All2 (ArgFits Try.prog 5) Try.f12.params.toList avs) (_ : bulkAs avs ≤ b) : PCalls Try.prog 12 avs (.bool true) := by
  rw [Try.params12] at h
  cases h with | cons h0 h => cases h with | cons h1 h => cases h with | cons h2 h => cases h with | cons h3 h => cases h with | cons h4 h =>
  cases h
  have e : reachBytes = 140737488351232 := rfl
  obtain ⟨k, l, rfl, hk, hl⟩ := open_reads h0
  obtain ⟨items, rfl, hil, hiv⟩ := Space.open_items h1
  obtain ⟨last, rfl, -⟩ := open_i h2
  obtain ⟨t, rfl, -⟩ := open_i h3
  obtain ⟨cs, rfl, hcl, hcs⟩ := Space.open_changes h4
  exact met_p k l (fun s hs => by have := hk s hs; omega) items hil (fun p hp => (hiv p hp).2) last t cs hcl
end Go.Proofs.Ytpehfflehebmbaa.Reads
end
section
set_option linter.unusedSimpArgs false
set_option linter.unusedVariables false
namespace Go.Proofs.Ytpehfflehebmbaa.Reads
open Go Go.Av Go.Proofs Go.Proofs.Ytpehfflehebmbaa.C
open Go.ChangeShapes Go.WideShapes Go.ChangeAt Go.RowKit
set_option maxRecDepth 100000 in
theorem lifted_ReadsMet (os : Os) (started : os.Started) (H : Type) (enc : TypeId × Value → H) :
    ReturnsInHanded {} Try.checked os 12 .any (Rows.readsMetSpec.pre6 enc Try.prog Try.f12 Rows.readsMetRow.domain false) (Rows.readsMetSpec.post enc Try.prog Try.f12 false true false false) := by
  refine returnsInHanded_of_change_sized (C := Try.checked) own started (by kernel_rfl) Try.func12
    (ChangeSpec.witness6 (enc := enc) (C := Try.checked) false ⟨#[], #[.agg #[.slice none 0 0, .slice none 0 0], .slice none 0 0, .int .i64 0, .int .i64 0, .slice none 0 0], []⟩ 8 (by kernel_rfl) (by kernel_rfl) (by kernel_rfl) (by kernel_rfl)) ?_
  intro W base args ds gs before hval hW _ hwt _
  exact calls_row laid bulk rowed full rfl (fun l hl => by match l, hl with | [_, _, _, _, _], _ => rfl) rfl Try.underlying4 (by kernel_rfl) (by kernel_rfl) hval hW hwt (fun avs h hb => law_ReadsMet avs h hb)
theorem said_ReadsMet : Rows.ReadsMetSaid :=
  OpenClaim.holds_of_wide 12 Try.f12 rfl rfl rfl rfl rfl rfl rfl ⟨rfl, rfl, rfl, rfl, rfl⟩ rfl rfl rfl rfl rfl (by kernel_rfl) Try.func12 (by kernel_rfl)
    (of_decide_eq_true (by kernel_rfl)) (by unfold Func.isWrapper; first | (rw [if_pos (by decide +kernel)]; kernel_rfl) | (rw [if_neg (by decide +kernel)]; exact ⟨rfl, rfl⟩))
    (fun os started H enc _ => lifted_ReadsMet os started H enc)
#print axioms said_ReadsMet
end Go.Proofs.Ytpehfflehebmbaa.Reads
end
